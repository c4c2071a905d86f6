/- Lemmas and contracts for the claim's last text: RDTakeC, RDTakeD, DBack. -/
import Derived.Test.YtehhldljdakgeaaGreatDoorQa01
import Derived.Test.YtehhldljdakgeaaGreatDoorQa22
import Derived.Test.YtehhldljdakgeaaGreatDoorQa23
set_option linter.unusedSimpArgs false
set_option linter.unusedVariables false
set_option maxHeartbeats 16000000
set_option maxRecDepth 100000
namespace Go.Proofs.YtehhldljdakgeaaGreatDoor
open Go.RowKit Go.Maps
attribute [local go_sem ↓] aJ aK
section
variable {X Y S M M' F G:List Nat} {w w' w0:World} {ev:Nat→Addr} {pd gh pc pm gN e:Nat} {mn lw hi:Int} {O:List (List Int)} {v v' vp vp':Value} {A A':SA} {V V':HV} {U U':List Value} {d d':De} {c c':Ca}
theorem rdtake_C (k:Nat) (n:Int) (u:Bool) (h:RD X w pd gh pc pm gN e mn lw hi O M v A V vp U d) (hI:oH e d) (hX: ∀x∈X,x<w.heap.size) {P':List (List Ob)} {l:List Ob} {o:Ob} (hk:d.H[k]?=some ([],[])) (hP:d.P=P'++[l++[o]]):
 Calls Tryz.prog 24 #[.pointer (some ⟨pd,0,none⟩),.int .i64 k,.int .i64 n,.bool u] w (lI X pd gh pc pm gN e mn lw hi O M A w (takeD mn O e d k n u).1 (.tuple #[obV (takeD mn O e d k n u).2.2,.int .i64 (takeD mn O e d k n u).2.1])):=by
 have hkl:=(au.1 hk).1;have hl4:(l++[o]).length≤4:=Nat.le_of_eq (hI.p4 (l++[o]) (by rw[hP];simp));have ld:lZ ([],[]) d.P=((l++[o],[]),P'):=by unfold lZ;rw[if_pos rfl,if_pos rfl,hP];simp
 have et:takeD mn O e d k n u=(⟨d.c,d.H.set k (l,[]),P'⟩,0,o):=by
  rw[mD (nS hk) (o:=o) (by rw[ld];simp),ld];simp
 rw[et];have b1:Below w.heap.size w (w.alloc (.cells #[.int .i64 0,.int .i64 0] 40)):=jK;have L1:=ah (show jD (w.alloc (.cells #[.int .i64 0,.int .i64 0] 40)) w.heap.size [.int .i64 0,.int .i64 0] from jD.mk_ w [.int .i64 0,.int .i64 0] 40 rfl);obtain⟨W1,hW1⟩:=eY (w.alloc (.cells #[.int .i64 0,.int .i64 0] 40));have h1:=h.below b1;rw[←hW1] at b1 L1 h1;have s1:W1.heap.size=w.heap.size+1:=by rw[hW1];simp
 obtain⟨p,hp,o1,o2,g0,g1,f0,f1,gl⟩:=h1.hand hk;obtain⟨⟨pa,pb⟩,rfl⟩: ∃q,q=p:=⟨_,rfl⟩;obtain⟨q3,cap3,e1,_,_⟩:=o1.isSlice;obtain⟨q2,cap2,e2,_,_⟩:=o2.isSlice;simp only at e1 e2 g0 g1 hp;subst e1 e2;rw[show([]:List Ob).length=0 from rfl] at g0 g1;have hPl:d.P[P'.length]?=some (l++[o]):=by rw[hP];simp
 obtain⟨qp,kp,evp,kp1,kp2,UD⟩:=h1.pile;obtain⟨u,pg,po,hu,epp,_,pgl,pc2,ru⟩:=UD P'.length _ hPl;subst epp;obtain⟨q,cap,e1,cp1,cp2⟩:=ru.isSlice;subst e1;subst evp;obtain⟨og,off,rfl,ogx,ogl,t0,t1⟩:=lG.at ru (j:=l.length) (o:=o) sI;have c2:=h1.b.d.gC 2;have nP:d.P.length=P'.length+1:=by rw[hP];simp
 rw[nP] at c2 kp1;have pl:P'.length≤65536:=by have:=(mW hI).1;have:=nO hI.c;omega
 have hvp:(.slice (some ⟨pg,po,none⟩) d.P.length kp:Value)= .slice (some ⟨pg,po,none⟩) (P'.length+1) kp:=by rw[nP]
 have c1:=h1.b.d.gC 1;have cl:=h1.b.d.lt;have e3:(l++[o]).length=l.length+1:=sI;rw[e3] at pc2 hl4 cp1;have IW0:=h1.worker k;rw[decide_eq_true (show 0≤(k:Int)∧(k:Int)<d.H.length from om)] at IW0;have IW:=ah IW0;have hH4:=hI.hl;have hvl:k<V.length:=by rw[h.b.hl];exact hkl
 obtain⟨p',hp',o1',o2',_⟩:=h.hand hk;rw[hp] at hp';obtain rfl:=aI hp';have ruw:lG X w (.slice (some ⟨og,off,none⟩) (l++[o]).length cap) (l++[o]):=h.b.po _ _ _ hu hPl;have ro1:lG X w (.slice (some ⟨og,off,none⟩) l.length cap) l:=by
  obtain⟨q',cap',e4,e5⟩:=ruw.cut l.length sI;injection e4 with e6 _ e7;subst e6 e7;simpa using e5
 have hpw:nC X w (.slice (some ⟨pg,po,none⟩) P'.length kp) (U.take P'.length):=h.b.row.cutV P'.length om;have hul:(U.take P'.length).length=P'.length:=by rw[bC,h.b.ul];omega
 have hpo: ∀(i:Nat) (u:Value) (m:List Ob),(U.take P'.length)[i]?=some u→P'[i]?=some m→lG X w u m:=fun i u m hu' hm'=>by
  have il:=(au.1 hm').1;rw[dD il] at hu';exact h.b.po i u m hu' (by rw[hP,bG il];exact hm')
 have dlw:=h.b.d;have ghl:gh<w.heap.size:=h.b.hs.lt;have yJ:Hid (∀W2 W,Keep [] w W2→Below w.heap.size (((W2.setCell ⟨pd,2,none⟩ (.slice (some ⟨pg,po,none⟩) P'.length kp)).setCell ⟨gh,k*2,none⟩ (.slice (some ⟨og,off,none⟩) l.length cap)).setCell ⟨gh,k*2+1,none⟩ (.slice q2 0 cap2)) W→lI X pd gh pc pm gN e mn lw hi O M A w ⟨d.c,d.H.set k (l,[]),P'⟩ (.tuple #[.agg #[.int .i64 o.1,.int .i64 o.2],.int .i64 0]) (.returned (.tuple #[.agg #[.int .i64 o.1,.int .i64 o.2],.int .i64 0])) W):=fun W2 W k2 b=>by
  have kp':Keep [pd] W2 (W2.setCell ⟨pd,2,none⟩ (.slice (some ⟨pg,po,none⟩) P'.length kp)):=(Keep.refl _ _).setCell (p:=⟨pd,2,none⟩) (.inl sI) _;have lo:=(Oq ((h.b.hs.keep k2 sI).keep kp' (by simpa using fun q=>h.b.ne q.symm)) hvl (.slice (some ⟨og,off,none⟩) l.length cap) (.slice q2 0 cap2)).below b ghl;have ld':=(((h.b.d.keep k2 sI).store 2 (.slice (some ⟨pg,po,none⟩) P'.length kp) sI).far (c:=gh) (fun q=>h.b.ne q.symm) (k*2) (.slice (some ⟨og,off,none⟩) l.length cap)).far (c:=gh) (fun q=>h.b.ne q.symm) (k*2+1) (.slice q2 0 cap2) |>.below b h.b.d.lt;have kk:Keep [gh,pd] w W:=((((k2.mono (S':=[gh,pd]) (fun _ q=>by cases q)).setCell (p:=⟨pd,2,none⟩) (.inl sI) _).setCell (p:=⟨gh,k*2,none⟩) (.inl sI) _).setCell (p:=⟨gh,k*2+1,none⟩) (.inl sI) _).low b (aH _);exact lI.here hX (h.DZ k (p':=(.slice (some ⟨og,off,none⟩) l.length cap,.slice q2 0 cap2)) (h':=(l,[])) hkl ro1 o2' kk lo ld' hpw hul hpo) kk (fun s q=>by
   simp at q;rcases q with rfl|rfl
   ·exact ak _ (aG ..)
   ·exact aG ..)
 obtain⟨m,hm⟩:=eY l.length;obtain⟨np,hnp⟩: ∃m,m=P'.length:=⟨_,rfl⟩;obtain⟨nH,hnH⟩: ∃m,m=d.H.length:=⟨_,rfl⟩;rw[←hm] at pc2 t0 t1 hl4 cp1 yJ;rw[←hnp] at c2 pc2 kp1 pl yJ;have cf2:=h1.b.d.f 2 sI;unfold maxLen at kp2;have hw2:IntKind.i64.wrap (((np+1:Nat):Int)-1)=(np:Int):=by rw[bB _ om];omega
 have d2:decide ((0:Int)<((np+1:Nat):Int))=true:=decide_eq_true om;have hpg: ¬(pd=gh):=h.b.ne;have hpo1: ¬(pd=og):=fun q=>ogx (q▸h.b.mem.1)
 have hpo2: ¬(og=pd):=fun q=>ogx (q▸h.b.mem.1)
 have hgp: ¬(gh=pd):=fun q=>h.b.ne q.symm
 rw[←hnH] at c1 hkl hH4;have hw1:IntKind.i64.wrap (((m+1:Nat):Int)-1)=(m:Int):=by rw[bB _ om];omega
 have d1:decide ((m+1:Nat)=0)=false:=sI;have r1: ¬(gh=w.heap.size):=om;have r2: ¬(gh=w.heap.size+1):=om;have r3: ¬(gh=w.heap.size+1+1):=om;have r4: ¬(w.heap.size+1=gh):=om;have r5: ¬(w.heap.size+1+1=gh):=om;have r6: ¬(w.heap.size=gh):=om;have K1:=ah (Keep.of (S:=[]) b1);have rl:w.heap.size<W1.heap.size:=om;have i0:(0:Int)≤(k:Int):=om;have i1:(k:Int)<(nH:Int):=om;have S1:=ah s1;rw[s1] at ogl cl gl pgl;have LL:=L1.out;have v0:=LL.gC 0;have v1:=LL.gC 1;have vf0:=LL.f 0 sI;have vf1:=LL.f 1 sI;have plw:pd<w.heap.size:=h.b.d.lt;have s1': ¬(pd=w.heap.size):=om;have s2': ¬(pd=w.heap.size+1):=om;have s3': ¬(pd=w.heap.size+1+1):=om;have s4': ¬(w.heap.size+1=pd):=om;have s5': ¬(w.heap.size+1+1=pd):=om;have s6': ¬(w.heap.size=pd):=om;clear h h1 hI hk hp o1 o2 o1' o2' ro1 e3 hm hnp hnH hPl hu ru ruw hpw hul hpo dlw UD nP hvp hP ld et b1 hp' IW0 LL;go_enter Tryz.func24,jA;go_wp2_with fail;rw[←hW1];clear hW1;refine IW.out.mono ?_;rintro r' w1 ⟨rfl,rfl⟩;clear IW;go_wp2;refine kX 7 kR kR ?_;simp only[aQ,aW,aP,aU];repeat still_step
 refine wpStill_nil ?_;go_wp2;have M:=ah (((((((L1.out.far (c:=pd) s1' 2 (.slice (some ⟨pg,po,none⟩) np kp)).far (c:=gh) r1 (k*2) (.slice (some ⟨og,off,none⟩) m cap)).far (c:=gh) r1 (k*2+1) (.slice q2 0 cap2)).kH (.int .i64 o.1) (.int .i64 o.2)).past (.cells #[.slice (some ⟨og,off,none⟩) m cap,.slice q2 0 cap2] 153)).past (.cells #[.int .i64 o.1,.int .i64 o.2] 40)).lT);have x0:=M.out.gC 0;have x1:=M.out.gC 1;exact bodyPost_ret (v:=.tuple #[.agg #[.int .i64 o.1,.int .i64 o.2],.int .i64 0]) (by simp[x0,x1,results,j5,go_sem]) rfl (yJ.out _ _ K1.out (by refine Below.drew ?_;refine iK ?_ (by simp;omega) _;refine iK ?_ (by simp;omega) _;refine gV ?_ sI _;refine gV ?_ sI _;exact aO _ _))
end
section
variable {X Y S M M' F G:List Nat} {w w' w0:World} {ev:Nat→Addr} {pd gh pc pm gN e:Nat} {mn lw hi:Int} {O:List (List Int)} {v v' vp vp':Value} {A A':SA} {V V':HV} {U U':List Value} {d d':De} {c c':Ca}
theorem rdtake_D (k:Nat) (n:Int) (u:Bool) (h:RD X w pd gh pc pm gN e mn lw hi O M v A V vp U d) (hI:oH e d) (hX: ∀x∈X,x<w.heap.size) (hk:d.H[k]?=some ([],[])) (hP:d.P=[]):
 Calls Tryz.prog 24 #[.pointer (some ⟨pd,0,none⟩),.int .i64 k,.int .i64 n,.bool u] w (lI X pd gh pc pm gN e mn lw hi O M A w (takeD mn O e d k n u).1 (.tuple #[obV (takeD mn O e d k n u).2.2,.int .i64 (takeD mn O e d k n u).2.1])):=by
 have hkl:=(au.1 hk).1;have ld:(lZ ([],[]) d.P).1.1.getLast?=none:=by rw[hP];rfl
 rw[mV (nS hk) ld];have b1:Below w.heap.size w (w.alloc (.cells #[.int .i64 0,.int .i64 0] 40)):=jK;have L1:=ah (show jD (w.alloc (.cells #[.int .i64 0,.int .i64 0] 40)) w.heap.size [.int .i64 0,.int .i64 0] from jD.mk_ w [.int .i64 0,.int .i64 0] 40 rfl);obtain⟨W1,hW1⟩:=eY (w.alloc (.cells #[.int .i64 0,.int .i64 0] 40));have xC: ∀y∈w.heap.size::X,y∈X∨w.heap.size≤y:=fun y hy=>by
  rcases aB.1 hy with rfl|q
  ·exact .inr (aH _)
  ·exact .inl q
 have h1:=(h.more (Y:=w.heap.size::X) (fun x q=>ak _ q) xC).below b1;rw[←hW1] at b1 L1 h1;have s1:W1.heap.size=w.heap.size+1:=by rw[hW1];simp
 obtain⟨p,hp,o1,o2,g0,g1,f0,f1,gl⟩:=h1.hand hk;obtain⟨⟨pa,pb⟩,rfl⟩: ∃q,q=p:=⟨_,rfl⟩;obtain⟨q,cap,e1,cp1,cp2⟩:=o1.isSlice;obtain⟨q2,cap2,e2,_,_⟩:=o2.isSlice;simp only at e1 e2 g0 g1 hp;subst e1 e2;rw[show([]:List Ob).length=0 from rfl] at g0 g1;obtain⟨qp,kp,evp,_,_,_⟩:=h1.pile;rw[hP,show([]:List (List Ob)).length=0 from rfl] at evp;subst evp;have c0:=h1.b.d.gC 0;have c1:=h1.b.d.gC 1;have c2:=h1.b.d.gC 2;have cl:=h1.b.d.lt;have IW0:=h1.worker k;rw[decide_eq_true (show 0≤(k:Int)∧(k:Int)<d.H.length from om)] at IW0;have IW:=ah IW0;have hH4:=hI.hl;have NR:Hid (w.heap.size∉rds pd gh pc pm gN A M):=fun q=>by have:=h.lt _ q;omega
 have TK:Hid (∀W,Below W1.heap.size W1 W→Calls Tryz.prog 76 #[.pointer (some ⟨pc,0,none⟩),.int .i64 n,.bool u] W (uh (w.heap.size::X) pc pm gN e mn lw hi O M A W (takeC mn O e d.c n u))):=fun W b=>
  QV n u (h1.below b).c hI.c (fun x hx=>by
   have:=b.size;rcases aB.1 hx with rfl|q
   ·omega
   ·have:=hX x q;omega)
 have H1:=ah h1;have B1:=ah b1;have yJ:Hid (∀Wb w5 W en,Below W1.heap.size W1 Wb→uh (w.heap.size::X) pc pm gN e mn lw hi O M A Wb (takeC mn O e d.c n u) en w5→W=(w5.setCell ⟨w.heap.size,0,none⟩ (.int .i64 (takeC mn O e d.c n u).2.2.1)).setCell ⟨w.heap.size,1,none⟩ (.int .i64 (takeC mn O e d.c n u).2.2.2)→
  lI X pd gh pc pm gN e mn lw hi O M A w ⟨(takeC mn O e d.c n u).1,d.H,d.P⟩ (.tuple #[obV (takeC mn O e d.c n u).2.2,.int .i64 (takeC mn O e d.c n u).2.1]) (.returned (.tuple #[.agg #[.int .i64 (takeC mn O e d.c n u).2.2.1,.int .i64 (takeC mn O e d.c n u).2.2.2],.int .i64 (takeC mn O e d.c n u).2.1])) W):=fun Wb w5 W en bb hp hW=>by
  obtain⟨hr,X',M',v',A',r1,r2,r3,r4,r5,r6,r7⟩:=hp;have hb:=H1.out.below bb;have zb:=bb.size;have h4: ∀y∈rcs pc pm gN A' M',y∈rcs pc pm gN A M∨Wb.heap.size≤y:=fun y hy=>by
   rcases aD.1 hy with t|t
   ·rcases aB.1 t with t|t
    ·subst t;exact .inl (av _ (aG ..))
    ·exact(r7 y t).imp (fun s=>av _ (ak _ s)) id
   ·rcases aB.1 t with t|t
    ·subst t;exact .inl (aj _ (aG ..))
    ·rcases aB.1 t with t|t
     ·subst t;exact .inl (aj _ (ak _ (aG ..)))
     ·exact(r6 y t).imp (fun s=>aj _ (ak _ (ak _ s))) id
  have hS: ∀s∈gN::D7 pc A,s∈rcs pc pm gN A M:=fun s hs=>by
   rcases aB.1 hs with t|t
   ·subst t;exact aj _ (ak _ (aG ..))
   ·exact av _ t
  have r:=hb.cache r1 r3 r4 h4 r2 hS;have nres:w.heap.size∉rds pd gh pc pm gN A' M':=fun t=>by
   have l1:=h1.b.d.lt;rcases aB.1 t with t|t
   ·exact NR.out (t▸aG ..)
   ·rcases aB.1 t with t|t
    ·exact NR.out (t▸ak _ (aG ..))
    ·rcases h4 _ t with t|t
     ·exact NR.out (ak _ (ak _ t))
     ·omega
  have kk:Keep [w.heap.size] w5 W:=by rw[hW];exact((Keep.refl _ _).setCell (p:=⟨w.heap.size,0,none⟩) (.inl sI) _).setCell (p:=⟨w.heap.size,1,none⟩) (.inl sI) _
  have rW:=r.keep kk (fun s q=>by simp at q;subst q;exact .inl ⟨r3 _ (aG ..),nres⟩);have K:Keep (gN::D7 pc A) w W:=(((Keep.of (B1.out.trans (bb.mono B1.out.size))).then r2)).trans kk (fun s q=>by simp at q;subst q;exact .inr (aH _));refine⟨rfl,X',M',v',A',V,_,U,rW,K.mono (fun s q=>ak _ (ak _ (hS s q))),fun x q=>r3 x (ak _ q),fun x q=> ?_,fun x q=>aC (r5 x q) kk.size,fun y q=> ?_⟩
  ·rcases r4 x q with t|t
   ·rcases aB.1 t with rfl|t
    ·exact .inr (aH _)
    ·exact .inl t
   ·exact .inr om
  ·rcases aB.1 q with t|q
   ·subst t;exact .inl (aG ..)
   ·rcases aB.1 q with t|q
    ·subst t;exact .inl (ak _ (aG ..))
    ·rcases h4 y q with t|t
     ·exact .inl (ak _ (ak _ t))
     ·exact .inr om
 have PV:Hid (∀Wb w5 en,uh (w.heap.size::X) pc pm gN e mn lw hi O M A Wb (takeC mn O e d.c n u) en w5→en= .returned (.tuple #[.agg #[.int .i64 (takeC mn O e d.c n u).2.2.1,.int .i64 (takeC mn O e d.c n u).2.2.2],.int .i64 (takeC mn O e d.c n u).2.1])∧Keep (gN::D7 pc A) Wb w5):=fun Wb w5 en hp=>by
  obtain⟨hr,X',M',v',A',r1,r2,_⟩:=hp;exact⟨hr,r2⟩
 have NG:Hid (w.heap.size∉gN::D7 pc A):=fun q=>NR.out (by
  rcases aB.1 q with t|t
  ·exact ak _ (ak _ (t▸aj _ (ak _ (aG ..))))
  ·exact ak _ (ak _ (av _ t)))
 obtain⟨nH,hnH⟩: ∃m,m=d.H.length:=⟨_,rfl⟩;rw[←hnH] at c1 hkl hH4;obtain⟨r,hr⟩:=eY (takeC mn O e d.c n u);rw[←hr] at TK yJ PV ⊢;obtain⟨c1',qq,j1,j2⟩:=r;simp only[obV] at yJ PV ⊢;have i0:(0:Int)≤(k:Int):=om;have i1:(k:Int)<(nH:Int):=om;have S1:=ah s1;rw[s1] at cl gl;have LL:=L1.out;have v0:=LL.gC 0;have v1:=LL.gC 1;have vf0:=LL.f 0 sI;have vf1:=LL.f 1 sI;have rl:w.heap.size<w.heap.size+1:=om;clear h h1 hI hk hp o1 o2 hnH ld b1 IW0 LL xC hr hP;go_enter Tryz.func24,jA;go_wp2_with fail;rw[←hW1];clear hW1;refine IW.out.mono ?_;rintro r' w1 ⟨rfl,rfl⟩;clear IW;go_wp2_with fail;refine(TK.out _ (by rw[S1.out];exact jK)).mono ?_;intro en w5 hp;obtain⟨e1,kk5⟩:=PV.out _ _ _ hp;have HP:=ah hp;have LL:=(L1.out.past (.cells #[.slice q 0 cap,.slice q2 0 cap2] 153)).keep kk5 NG.out;have f0:=LL.f 0 sI;have f1:=LL.f 1 sI;have ll:=LL.lt;have y0:=LL.gC 0;have y1:=LL.gC 1;have HM:=ah (LL.kH (.int .i64 j1) (.int .i64 j2));clear hp kk5 LL v0 v1 vf0 vf1 TK PV c0 c1 c2 cl;subst e1;dsimp only;go_wp2;have x0:=HM.out.gC 0;have x1:=HM.out.gC 1;exact bodyPost_ret (v:=.tuple #[.agg #[.int .i64 j1,.int .i64 j2],.int .i64 qq]) (by simp[x0,x1,results,j5,go_sem]) rfl (yJ.out _ _ _ _ (by rw[S1.out];exact jK) HP.out rfl)
theorem QX (k n:Int) (u:Bool) (h:RD X w pd gh pc pm gN e mn lw hi O M v A V vp U d) (hI:oH e d) (hX: ∀x∈X,x<w.heap.size):
 Calls Tryz.prog 24 #[.pointer (some ⟨pd,0,none⟩),.int .i64 k,.int .i64 n,.bool u] w (lI X pd gh pc pm gN e mn lw hi O M A w (takeD mn O e d k n u).1 (.tuple #[obV (takeD mn O e d k n u).2.2,.int .i64 (takeD mn O e d k n u).2.1])):=by
 cases hh:nY d k with
 |none=>exact QW k n u h hX hh
 |some g=>
  obtain⟨k0,h1,h2,h3⟩:=p8 hh;obtain⟨kn,hkn⟩:=eY k.toNat;rw[←hkn] at h1 h3;subst h3;obtain⟨g1,g2⟩:=g;rcases dA g1 with rfl|⟨l,o,rfl⟩
  ·rcases dA g2 with rfl|⟨l,o,rfl⟩
   ·rcases dA d.P with hP|⟨P0,m,hP⟩
    ·exact rdtake_D kn n u h hI hX h1 hP
    ·have hm:=hI.p4 m (by rw[hP];simp)
     rcases dA m with rfl|⟨l,o,rfl⟩
     ·simp at hm
     ·exact rdtake_C kn n u h hI hX h1 (by simpa using hP)
   ·exact rdtake_B kn n u h hI hX (by simpa using h1)
  ·exact rdtake_A kn n u h hI hX (by simpa using h1)
end
theorem run_appM {T E:TypeId} {z:Value} {s b:Nat} (hE:ElS T E z s b) {w:World} (ty:TypeId) {base:Nat} {v:Value} {n m:Nat} {xs ms:List Value} (hown:w.ownsRow base E s v n xs) {p:Option Addr} {c:Nat} (hm:ms.length=m*s) (hs:tZ w p ms) (h1: ∀u∈ms,u.oneCell'=true)
 (hl:n+m≤70000) (hb:base≤w.heap.size):
 ∃q k w',(Builtin.append_ #[T,T] ty #[v,.slice p m c]).run Tryz.prog w= .ok (.slice q (n+m) k) w'∧w'.ownsRow base E s (.slice q (n+m) k) (n+m) (xs++ms)∧w.grownBy w' v.ownBlock∧
  ((Value.slice q (n+m) k).ownBlock=v.ownBlock∨(Value.slice q (n+m) k).ownBlock=some w.heap.size):=by
 obtain⟨i0,hi,hz0,hz1,hz2⟩:=info_parts hE.info;have ht:=hE.und;have hfew:=hE.few;have hpos:=hE.pos;rcases hs with⟨rfl,hms⟩|⟨a,rfl,hc⟩
 ·subst hms
  have hm0:m=0:=by
   rcases Nat.eq_zero_or_pos m with q|q
   ·exact q
   ·have h2:=Nat.mul_pos q hpos
    rw[List.length_nil] at hm;omega
  subst hm0;rcases hown.2 with⟨rfl,hu⟩|⟨g,cap,cur,rfl,_,_,hnc,_⟩
  ·refine⟨none,0,w,?_,?_,⟨rfl,rfl,rfl,aH _,fun _ _ _=>rfl⟩,.inl rfl⟩
   ·simp[Builtin.append_,run_underlying ht,sizeOf,typeInfo,hi,Builtin.lenOf,Builtin.firstCells,hu]
   ·subst hu
    simpa using hown
  ·refine⟨some ⟨g,0,none⟩,cap,w,?_,by simpa using hown,⟨rfl,rfl,rfl,aH _,fun _ _ _=>rfl⟩,.inl rfl⟩
   simp[Builtin.append_,run_underlying ht,sizeOf,typeInfo,hi,Builtin.lenOf,Builtin.firstCells,hnc,storeCells]
 ·obtain⟨v',w',hrun,h2,h3,_,h5⟩:=run_append_own_at (P:=Tryz.prog) w base T ty E i0 z s b ht hi hz0 hz1 hz2 hE.one hE.pos v n xs hown a m c ms
   hm hc h1 (by unfold maxLen;omega) (by
    have:(n+m)*b≤70000*64:=eB hl hfew;omega) hb
  have hf: ∃q k,v'= .slice q (n+m) k:=by
   rcases h2.2 with⟨e,e2⟩|⟨g',cap',cur,e,_⟩
   ·exact⟨none,0,by rw[e,e2]⟩
   ·exact⟨_,_,e⟩
  obtain⟨q,k,rfl⟩:=hf;exact⟨q,k,w',hrun,h2,h3,h5⟩
theorem kM {T E:TypeId} {z:Value} {s b:Nat} (hE:ElS T E z s b) {base:Nat} {v:Value} {n m:Nat} {xs ms:List Value} {w:World} {p:Option Addr} {c:Nat} {ops:Array Oper} {rest:List Oper} {o:Oper} {a:Act} {Q:Exit→Act→World→Prop} (hgd:o.guard=none) (sl x:Operand)
 (ho:o.op= .call {callee:=.builtin .append,args:=#[sl,x],argTypes:=#[T,T]}) (hv:a.eval sl=v) (hx:a.eval x= .slice p m c)
 (hown:w.ownsRow base E s v n xs) (hm:ms.length=m*s) (hs:tZ w p ms) (h1: ∀u∈ms,u.oneCell'=true) (hl:n+m≤70000) (hb:base≤w.heap.size)
 (h: ∀q k w',w'.ownsRow base E s (.slice q (n+m) k) (n+m) (xs++ms)→w.grownBy w' v.ownBlock→((Value.slice q (n+m) k).ownBlock=v.ownBlock∨(Value.slice q (n+m) k).ownBlock=some w.heap.size)→wpList Tryz.prog ops Q rest (a.put o.dst (.slice q (n+m) k)) w'):wpList Tryz.prog ops Q (o::rest) a w:=by
 refine wpList_plain hgd fun K hK=> ?_
 obtain⟨q,k,w',hrun,h2,h3,h5⟩:=run_appM hE (w:=w) o.type hown hm hs h1 hl hb (c:=c);unfold Oper.wp execOp;simp only[ho,resolve,invoke,builtin,fA,fI,dS,dZ,bP,dW,hv,hx,hrun];exact hK _ _ (h q k w' h2 h3 h5)
section
variable {X Y S F G:List Nat} {B:Nat} {ev:Nat→Addr} {w w' w0 w1:World} {pd pc pz gh e:Nat} {mn lw hi:Int} {O:List (List Int)} {v vp:Value} {A:SA} {V:HV} {U:List Value} {d d':De} {c c':Ca}
theorem lG.srcO {q:Option Addr} {n k:Nat} {l:List Ob} (h:lG X w (.slice q n k) l):n=l.length∧tZ w q (kG l):=by
 obtain⟨p,cap,h1,h2,h3,h4⟩:=h;injection h1 with e1 e2 e3;subst e1 e2 e3;refine⟨rfl,?_⟩;cases l with
 |nil=>
  cases q with
  |none=>exact .inl ⟨rfl,rfl⟩
  |some a=>exact .inr ⟨a,rfl,fun j u hj=>by simp[kG] at hj⟩
 |cons b r=>
  obtain⟨g,off,t,_⟩:=h4 0 b.1 b.2 rfl;subst t;refine .inr ⟨_,rfl,Cq fun j a k hj=> ?_⟩;obtain⟨g',off',t,_,_,c0,c1⟩:=h4 j a k hj;injection t with t;injection t with t1 t2;subst t1 t2;exact⟨c0,c1⟩
theorem UE {P:List (List Ob)} {i:Nat} {m:List Ob} (h:P[i]?=some m):(P.take (i+1)).flatten=(P.take i).flatten++m:=by
 rw[bT,h];simp
end
end Go.Proofs.YtehhldljdakgeaaGreatDoor
