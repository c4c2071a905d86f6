/- Lemmas. -/
import Derived.Test.YtehhldljdakgeaaGreatDoorQb01
import Derived.Test.YtehhldljdakgeaaGreatDoorQb11
set_option linter.unusedSimpArgs false
set_option linter.unusedVariables false
set_option maxHeartbeats 16000000
set_option maxRecDepth 100000
namespace Go.Proofs.YtehhldljdakgeaaGreatDoor
open Go.RowKit Go.Maps Go.Proofs.Tryz
attribute [local go_sem ↓] aJ aK
section
variable {X Y S F:List Nat} {B:Nat} {ev:Nat→Addr} {w w':World} {pd pc pz gh e:Nat} {mn lw hi:Int} {O:List (List Int)} {v vp vp':Value} {A:SA} {V:HV} {U U':List Value} {d:De} {c:Ca} {P':List (List Ob)}
theorem oZ {k:Nat} {g:Hd} (h:d.H[k]?=some g):p8 d k=some g:=by
 unfold p8;rw[if_neg om,bS,h]
theorem dtake_A (k:Nat) (n:Int) (u:Bool) (h:CD B w X pd pc pz gh mn lw hi O e v A V vp U d) (hF:Hid (∀f∈F,f∈X∧f∉xd pc v A d.c.L pd gh vp)) (hI:pU e d) {l r:List Ob} {o:Ob} (hk:d.H[k]?=some (l++[o],r)):
 Calls prog 23 #[.pointer (some ⟨pd,0,none⟩),.int .i64 k,.int .i64 n,.bool u] w (uj B ev pd pc pz gh mn lw hi O e X F w (takeD mn O e d k n u)):=by
 have hkl:=(au.1 hk).1;have hl4:=(hI.h4 _ (aF hk)).1;have ld:ni (l++[o],r) d.P=((l++[o],r),d.P):=by unfold ni;rw[if_neg sI]
 have et:takeD mn O e d k n u=(⟨d.c,d.H.set k (l,r),d.P⟩,0,o):=by
  rw[nI (oZ hk) (o:=o) (by rw[ld];simp),ld];simp
 rw[et];have b1:Below w.heap.size w (w.alloc (.cells #[.int .i64 0,.int .i64 0] 40)):=jY;have L1:=ah (show jR (w.alloc (.cells #[.int .i64 0,.int .i64 0] 40)) w.heap.size [.int .i64 0,.int .i64 0] from jR.mk_ w [.int .i64 0,.int .i64 0] 40 rfl);obtain⟨W1,hW1⟩:=eY (w.alloc (.cells #[.int .i64 0,.int .i64 0] 40));have h1:=h.below b1;rw[←hW1] at b1 L1 h1;have s1:W1.heap.size=w.heap.size+1:=by rw[hW1];simp
 obtain⟨p,hp,o1,o2,g0,g1,f0,f1,gl⟩:=h1.hand hk;obtain⟨⟨pa,pb⟩,rfl⟩: ∃q,q=p:=⟨_,rfl⟩;obtain⟨q,cap,e1,cp1,cp2⟩:=o1.isSlice;obtain⟨q2,cap2,e2,_,_⟩:=o2.isSlice;simp only at e1 e2 g0 g1 hp;subst e1 e2;obtain⟨og,off,rfl,_,ogl,t0,t1⟩:=mD.at (by simpa using o1) (j:=l.length) (o:=o) sI;obtain⟨qp,kp,evp⟩: ∃qp kp,vp= .slice qp d.P.length kp:=by
  rcases h1.de.row.2 with⟨a1,a2⟩|⟨_,cap',_,a1,_⟩
  ·exact⟨none,0,by rw[a1,a2]⟩
  ·exact⟨_,cap',a1⟩
 have c0:=h1.de.d.gC 0;have c1:=h1.de.d.gC 1;have c2:=h1.de.d.gC 2;have cl:=h1.de.d.lt;rw[evp] at c2;have pl:d.P.length≤65536:=by
  have hh:=(o9 hI).1;have h2:=oU hI.c;omega
 have e3:(l++[o]).length=l.length+1:=sI;rw[e3] at g0 hl4 cp1;obtain⟨m,hm⟩:=eY l.length;rw[←hm] at g0 t0 t1 hl4 cp1;have HD:=ah (uK h1 k hkl);have hw1:IntKind.i64.wrap (((m+1:Nat):Int)-1)=(m:Int):=by rw[aY _ om];omega
 have hw2:IntKind.i64.wrap ((d.P.length:Int)-1)=(d.P.length:Int)-1:=aY _ om;have d1:decide ((m+1:Nat)=0)=false:=sI;have d2:decide ((m:Int)<0)=false:=dQf om;have rg: ¬(w.heap.size=gh):=fun q=>by have:=(h.de.lim gh h.nQ).2;omega
 have gr: ¬(gh=w.heap.size):=fun q=>rg q.symm
 obtain⟨p',hp',o1',o2',_⟩:=h.hand hk;rw[hp] at hp';obtain rfl:=aO hp';have ro1:mD X w (.slice (some ⟨og,off,none⟩) m cap) l:=by
  obtain⟨q',cap',e4,e5⟩:=o1'.cut m (by rw[hm];simp);simp only at e4;injection e4 with e6 _ e7;subst e6 e7;simpa[hm] using e5
 have Af:Hid (∀W,Keep [gh] w W→jR W gh (lX (V.set k (.slice (some ⟨og,off,none⟩) m cap,.slice q2 r.length cap2)))→uj B ev pd pc pz gh mn lw hi O e X F w (⟨d.c,d.H.set k (l,r),d.P⟩,0,o) (.returned (.tuple #[.agg #[.int .i64 o.1,.int .i64 o.2],.nilIface])) W):=fun W kk hg=>
  ⟨rfl,X,⟨_,_,_,_,_,h.yu k (p':=(.slice (some ⟨og,off,none⟩) m cap,.slice q2 r.length cap2)) (h':=(l,r)) hkl ro1 o2' kk hg,hF.out⟩,kk.mono (fun s q=>by simp at q;subst q;exact h.offy hF.out h.nQ),fun _ q=>.inl q,fun _ q=>q⟩
 have HLOC:=ah (h1.loc1 hp hkl (.slice (some ⟨og,off,none⟩) m cap));have HLB:=ah (fun(x:Obj)=>(h1.below (w':=W1.alloc x) jY).loc1 hp hkl (.slice (some ⟨og,off,none⟩) m cap));have HB1:=ah b1;have HS1:=ah s1;have rl:w.heap.size<W1.heap.size:=om;have LL:=L1.out;have v0:=LL.gC 0;have v1:=LL.gC 1;have vf0:=LL.f 0 sI;have vf1:=LL.f 1 sI;clear h h1 hI hk hp o1 o2 o1' o2' ro1 e3 hm ld et b1 s1 evp hp';go_in
 go_wp2_with fail;rw[←hW1];clear hW1;refine HD.out.mono ?_;rintro r' w1 ⟨rfl,rfl⟩;go_wp2;have M:=ah ((((L1.out.far (c:=gh) gr (k*2) (.slice (some ⟨og,off,none⟩) m cap)).lq (.int .i64 o.1) (.int .i64 o.2))).past (.cells #[.int .i64 o.1,.int .i64 o.2] 40));have x0:=M.out.gC 0;have x1:=M.out.gC 1;refine bodyPost_ret (v:=.tuple #[.agg #[.int .i64 o.1,.int .i64 o.2],.nilIface]) (by simp[x0,x1,results,jh,go_sem]) rfl (Af.out _ ?_ ?_)
 ·exact(((((Keep.of HB1.out).setCell (p:=⟨gh,k*2,none⟩) (.inl sI) _).setCell (p:=⟨w.heap.size,0,none⟩) (.inr (aI _)) _).setCell (p:=⟨w.heap.size,1,none⟩) (.inr (aI _)) _).alloc _)
 ·exact((HLOC.out.far rg 0 _).far rg 1 _).past _
theorem dtake_B (k:Nat) (n:Int) (u:Bool) (h:CD B w X pd pc pz gh mn lw hi O e v A V vp U d) (hF:Hid (∀f∈F,f∈X∧f∉xd pc v A d.c.L pd gh vp)) (hI:pU e d) {l:List Ob} {o:Ob} (hk:d.H[k]?=some ([],l++[o])):
 Calls prog 23 #[.pointer (some ⟨pd,0,none⟩),.int .i64 k,.int .i64 n,.bool u] w (uj B ev pd pc pz gh mn lw hi O e X F w (takeD mn O e d k n u)):=by
 have hkl:=(au.1 hk).1;have hl4:=(hI.h4 _ (aF hk)).2;have ld:ni ([],l++[o]) d.P=((l++[o],[]),d.P):=by unfold ni;rw[if_pos rfl,if_neg sI]
 have et:takeD mn O e d k n u=(⟨d.c,d.H.set k (l,[]),d.P⟩,0,o):=by
  rw[nI (oZ hk) (o:=o) (by rw[ld];simp),ld];simp
 rw[et];have b1:Below w.heap.size w (w.alloc (.cells #[.int .i64 0,.int .i64 0] 40)):=jY;have L1:=ah (show jR (w.alloc (.cells #[.int .i64 0,.int .i64 0] 40)) w.heap.size [.int .i64 0,.int .i64 0] from jR.mk_ w [.int .i64 0,.int .i64 0] 40 rfl);obtain⟨W1,hW1⟩:=eY (w.alloc (.cells #[.int .i64 0,.int .i64 0] 40));have h1:=h.below b1;rw[←hW1] at b1 L1 h1;have s1:W1.heap.size=w.heap.size+1:=by rw[hW1];simp
 obtain⟨p,hp,o1,o2,g0,g1,f0,f1,gl⟩:=h1.hand hk;obtain⟨⟨pa,pb⟩,rfl⟩: ∃q,q=p:=⟨_,rfl⟩;obtain⟨q2,cap2,e2,_,_⟩:=o1.isSlice;obtain⟨q,cap,e1,cp1,cp2⟩:=o2.isSlice;simp only at e1 e2 g0 g1 hp;subst e1 e2;obtain⟨og,off,rfl,ogx,ogl,t0,t1⟩:=mD.at (by simpa using o2) (j:=l.length) (o:=o) sI;obtain⟨qp,kp,evp⟩: ∃qp kp,vp= .slice qp d.P.length kp:=by
  rcases h1.de.row.2 with⟨a1,a2⟩|⟨_,cap',_,a1,_⟩
  ·exact⟨none,0,by rw[a1,a2]⟩
  ·exact⟨_,cap',a1⟩
 have c0:=h1.de.d.gC 0;have c1:=h1.de.d.gC 1;have c2:=h1.de.d.gC 2;have cl:=h1.de.d.lt;rw[evp] at c2;have pl:d.P.length≤65536:=by
  have hh:=(o9 hI).1;have h2:=oU hI.c;omega
 have e3:(l++[o]).length=l.length+1:=sI;rw[e3] at g1 hl4 cp1;rw[show([]:List Ob).length=0 from rfl] at g0;obtain⟨m,hm⟩:=eY l.length;rw[←hm] at g1 t0 t1 hl4 cp1;have HD:=ah (uK h1 k hkl);have hw1:IntKind.i64.wrap (((m+1:Nat):Int)-1)=(m:Int):=by rw[aY _ om];omega
 have hw2:IntKind.i64.wrap ((d.P.length:Int)-1)=(d.P.length:Int)-1:=aY _ om;have d1:decide ((m+1:Nat)=0)=false:=sI;have d2:decide ((m:Int)<0)=false:=dQf om;have rg: ¬(w.heap.size=gh):=fun q=>by have:=(h.de.lim gh h.nQ).2;omega
 have gr: ¬(gh=w.heap.size):=fun q=>rg q.symm
 obtain⟨p',hp',o1',o2',_⟩:=h.hand hk;rw[hp] at hp';obtain rfl:=aO hp';have ro1:mD X w (.slice (some ⟨og,off,none⟩) m cap) l:=by
  obtain⟨q',cap',e4,e5⟩:=o2'.cut m (by rw[hm];simp);simp only at e4;injection e4 with e6 _ e7;subst e6 e7;simpa[hm] using e5
 have Af:Hid (∀W,Keep [gh] w W→jR W gh (lX (V.set k (.slice (some ⟨og,off,none⟩) m cap,.slice q2 0 cap2)))→uj B ev pd pc pz gh mn lw hi O e X F w (⟨d.c,d.H.set k (l,[]),d.P⟩,0,o) (.returned (.tuple #[.agg #[.int .i64 o.1,.int .i64 o.2],.nilIface])) W):=fun W kk hg=>
  ⟨rfl,X,⟨_,_,_,_,_,h.yu k (p':=(.slice (some ⟨og,off,none⟩) m cap,.slice q2 0 cap2)) (h':=(l,[])) hkl ro1 o1' kk hg,hF.out⟩,kk.mono (fun s q=>by simp at q;subst q;exact h.offy hF.out h.nQ),fun _ q=>.inl q,fun _ q=>q⟩
 have vl:V.length=d.H.length:=h1.de.hl;have HL2:Hid (jR ((W1.setCell ⟨gh,k*2,none⟩ (.slice (some ⟨og,off,none⟩) (m+1) cap)).setCell ⟨gh,k*2+1,none⟩ (.slice q2 0 cap2)).drew gh (lX (V.set k (.slice (some ⟨og,off,none⟩) (m+1) cap,.slice q2 0 cap2)))):=by
  have a1:=Dk h1.de.hs hp (.slice (some ⟨og,off,none⟩) (m+1) cap);have a2:=hloc2 a1 (Ai om _) (.slice q2 0 cap2);rw[JL] at a2;exact a2.mP
 have SW:=ah (Qj gh (k*2) q2 (some ⟨og,off,none⟩) 0 (m+1) cap2 cap _ _ rfl rfl W1 g0 g1 f0 f1 gl);have d3:decide (0<m+1)=true:=sI;have VL:Hid (k<V.length):=by show k<V.length;omega
 have GO:Hid (¬(og=gh)):=fun q=>ogx (q▸h.de.mem gh h.nQ)
 have PG:Hid (¬(pd=gh)):=fun q=>(aS.1 h.de.nd).1 (q▸aG ..)
 have HB1:=ah b1;have HS1:=ah s1;have rl:w.heap.size<W1.heap.size:=om;have LL:=L1.out;have v0:=LL.gC 0;have v1:=LL.gC 1;have vf0:=LL.f 0 sI;have vf1:=LL.f 1 sI;clear h h1 hI hk hp o1 o2 o1' o2' ro1 e3 hm ld et b1 s1 evp hp' f0 f1;go_in
 go_wp2_with fail;rw[←hW1];clear hW1;refine HD.out.mono ?_;rintro r' w1 ⟨rfl,rfl⟩;go_wp2_with fail;refine SW.out.mono ?_;rintro r' w2 ⟨rfl,hw2⟩;rw[←hw2] at HL2;have K2:Keep [gh] w1 w2:=by rw[hw2];exact(((Keep.refl _ _).setCell (p:=⟨gh,k*2,none⟩) (.inl sI) _).setCell (p:=⟨gh,k*2+1,none⟩) (.inl sI) _).drew
 have g0':=HL2.out.c (k*2) _ (pE (Ai VL.out _)).1;have g1':=HL2.out.c (k*2+1) _ (pE (Ai VL.out _)).2;have f0':=HL2.out.f (k*2) (by rw[lK,cu];have:=VL.out;omega);have gl':=HL2.out.lt;have t0':=(K2.cell (o:=off+m*2) ogl (by simpa using GO.out)).trans t0;have t1':=(K2.cell (o:=off+m*2+1) ogl (by simpa using GO.out)).trans t1;have ogl':=aC ogl K2.size;have c2':=(K2.cell (o:=2) cl (by simpa using PG.out)).trans c2;have cl':=aC cl K2.size;have LL2:=L1.out.keep K2 (by simpa using rg);have v0':=LL2.gC 0;have v1':=LL2.gC 1;have vf0':=LL2.f 0 sI;have vf1':=LL2.f 1 sI;have rl':=LL2.lt;have KW2:=ah ((Keep.of (S:=[gh]) HB1.out).then K2);have HL3:=ah (Dk HL2.out (Ai VL.out _) (.slice (some ⟨og,off,none⟩) m cap));rw[JL] at HL3;have HLL2:=ah LL2;clear g0 g1 t0 t1 ogl c0 c1 c2 cl LL v0 v1 vf0 vf1 rl gl hw2 K2 SW HL2 HD LL2;go_wp2;have M:=ah ((((HLL2.out.far (c:=gh) gr (k*2) (.slice (some ⟨og,off,none⟩) m cap)).lq (.int .i64 o.1) (.int .i64 o.2))).past (.cells #[.int .i64 o.1,.int .i64 o.2] 40));have x0:=M.out.gC 0;have x1:=M.out.gC 1;refine bodyPost_ret (v:=.tuple #[.agg #[.int .i64 o.1,.int .i64 o.2],.nilIface]) (by simp[x0,x1,results,jh,go_sem]) rfl (Af.out _ ?_ ?_)
 ·exact(((((KW2.out).setCell (p:=⟨gh,k*2,none⟩) (.inl sI) _).setCell (p:=⟨w.heap.size,0,none⟩) (.inr (aI _)) _).setCell (p:=⟨w.heap.size,1,none⟩) (.inr (aI _)) _).alloc _)
 ·exact((HL3.out.far rg 0 _).far rg 1 _).past _
theorem dtake_C (k:Nat) (n:Int) (u:Bool) (h:CD B w X pd pc pz gh mn lw hi O e v A V vp U d) (hF:Hid (∀f∈F,f∈X∧f∉xd pc v A d.c.L pd gh vp)) (hI:pU e d) {l:List Ob} {o:Ob} {P0:List (List Ob)} (hk:d.H[k]?=some ([],[])) (hP:d.P=P0++[l++[o]]):
 Calls prog 23 #[.pointer (some ⟨pd,0,none⟩),.int .i64 k,.int .i64 n,.bool u] w (uj B ev pd pc pz gh mn lw hi O e X F w (takeD mn O e d k n u)):=by
 have hkl:=(au.1 hk).1;have hl4:=hI.p4 (l++[o]) (by rw[hP];simp);have ld:ni ([],[]) d.P=((l++[o],[]),P0):=by unfold ni;rw[if_pos rfl,if_pos rfl,hP];simp
 have et:takeD mn O e d k n u=(⟨d.c,d.H.set k (l,[]),P0⟩,0,o):=by
  rw[nI (oZ hk) (o:=o) (by rw[ld];simp),ld];simp
 rw[et];have b1:Below w.heap.size w (w.alloc (.cells #[.int .i64 0,.int .i64 0] 40)):=jY;have L1:=ah (show jR (w.alloc (.cells #[.int .i64 0,.int .i64 0] 40)) w.heap.size [.int .i64 0,.int .i64 0] from jR.mk_ w [.int .i64 0,.int .i64 0] 40 rfl);obtain⟨W1,hW1⟩:=eY (w.alloc (.cells #[.int .i64 0,.int .i64 0] 40));have h1:=h.below b1;rw[←hW1] at b1 L1 h1;have s1:W1.heap.size=w.heap.size+1:=by rw[hW1];simp
 obtain⟨p,hp,o1,o2,g0,g1,f0,f1,gl⟩:=h1.hand hk;obtain⟨⟨pa,pb⟩,rfl⟩: ∃q,q=p:=⟨_,rfl⟩;obtain⟨q2,cap2,e2,_,_⟩:=o1.isSlice;obtain⟨q3,cap3,e1,_,_⟩:=o2.isSlice;simp only at e1 e2 g0 g1 hp;subst e1 e2;rw[show([]:List Ob).length=0 from rfl] at g0 g1 hp;have pN:d.P.length=P0.length+1:=by rw[hP];simp
 have hUl:=h1.de.ul;obtain⟨uu,huu⟩: ∃uu,U[P0.length]?=some uu:=⟨U[P0.length]' om,aA _⟩;have ruu:=h.de.po _ _ _ huu (show d.P[P0.length]?=some (l++[o]) by rw[hP];simp);obtain⟨q,cap,e4,cp1,cp2⟩:=ruu.isSlice;subst e4;obtain⟨og,off,rfl,ogx,ogl,t0,t1⟩:=mD.at ruu (j:=l.length) (o:=o) sI;obtain⟨gp,kp,rfl,kp1,kp2,hru⟩: ∃gp kp,vp= .slice (some ⟨gp,0,none⟩) d.P.length kp∧d.P.length≤kp∧kp≤maxLen∧W1.cell? ⟨gp,P0.length,none⟩=some (.slice (some ⟨og,off,none⟩) (l++[o]).length cap):=by
  have ho:=h1.de.row;rcases h1.de.row.2 with⟨a1,a2⟩|⟨gp,cap',cur,a1,a2,a3,a4,a5,_⟩
  ·omega
  ·subst a1
   refine⟨gp,cap',rfl,a4,a5,?_⟩;rw[ho.cellAt _ om];exact huu
 have c0:=h1.de.d.gC 0;have c1:=h1.de.d.gC 1;have c2:=h1.de.d.gC 2;have cl:=h1.de.d.lt;have cf:=h1.de.d.f 2 sI;have pl:d.P.length≤65536:=by
  have hh:=(o9 hI).1;have h2:=oU hI.c;omega
 have e3:(l++[o]).length=l.length+1:=sI;rw[e3] at hru hl4 cp1;obtain⟨m,hm⟩:=eY l.length;rw[←hm] at hru t0 t1 hl4 cp1;obtain⟨N,hN⟩:=eY P0.length;rw[pN,←hN] at c2 kp1 pl;rw[←hN] at hru;have HD:=ah (uK h1 k hkl);have hw1:IntKind.i64.wrap (((m+1:Nat):Int)-1)=(m:Int):=by rw[aY _ om];omega
 have hw2:IntKind.i64.wrap (((N+1:Nat):Int)-1)=(N:Int):=by rw[aY _ om];omega
 have d1:decide ((m+1:Nat)=0)=false:=sI;have d2:decide ((m:Int)<0)=false:=dQf om;have d4:decide ((0:Int)≤(N:Int))=true:=dQt om;have rg: ¬(w.heap.size=gh):=fun q=>by have:=(h.de.lim gh h.nQ).2;omega
 have gr: ¬(gh=w.heap.size):=fun q=>rg q.symm
 have rp: ¬(w.heap.size=pd):=fun q=>by have:=(h.de.lim pd h.wR).2;omega
 have PG: ¬(pd=gh):=fun q=>(aS.1 h.de.nd).1 (q▸aG ..)
 have GP: ¬(gh=pd):=fun q=>PG q.symm
 have gpl:gp<W1.heap.size:=(h1.de.row.lt gp rfl).2;have t0':=(b1.cell (p:=⟨og,off+m*2,none⟩) ogl).trans t0;have t1':=(b1.cell (p:=⟨og,off+m*2+1,none⟩) ogl).trans t1;have ogl':=aC ogl b1.size;have GO:Hid (¬(og=gh)):=fun q=>ogx (q▸h.de.mem gh h.nQ)
 have PO:Hid (¬(og=pd)):=fun q=>ogx (q▸h.de.mem pd h.wR)
 obtain⟨p',hp',o1',o2',_⟩:=h.hand hk;rw[hp] at hp';obtain rfl:=aO hp';have ro1:mD X w (.slice (some ⟨og,off,none⟩) m cap) l:=by
  obtain⟨q',cap',e4,e5⟩:=ruu.cut m (by rw[hm];simp);injection e4 with e6 _ e7;subst e6 e7;simpa[hm] using e5
 have vl:V.length=d.H.length:=h1.de.hl;have VL:Hid (k<V.length):=by show k<V.length;omega
 have Af:Hid (∀W,Keep [gh,pd] w W→jR W gh (lX (V.set k (.slice (some ⟨og,off,none⟩) m cap,.slice q3 0 cap3)))→jR W pd [.pointer (some ⟨pc,0,none⟩),.slice (some ⟨gh,0,none⟩) d.H.length d.H.length,.slice (some ⟨gp,0,none⟩) N kp]→uj B ev pd pc pz gh mn lw hi O e X F w (⟨d.c,d.H.set k (l,[]),P0⟩,0,o) (.returned (.tuple #[.agg #[.int .i64 o.1,.int .i64 o.2],.nilIface])) W):=fun W kk hg hd=>by
  have hrow:w.ownsRow B 38 1 (.slice (some ⟨gp,0,none⟩) P0.length kp) P0.length (U.take P0.length):=by
   obtain⟨rest,y1,y2,y3,y4,y5,y6⟩:=Au h.de.row;have:=y1.own y6 (n:=P0.length) (by rw[y2];omega) (by rw[y2];exact y5);rw[y2] at this;rw[cK om] at this;exact this
  have hrow':W.ownsRow B 38 1 (.slice (some ⟨gp,0,none⟩) P0.length kp) P0.length (U.take P0.length):=jQ hrow kk (fun s hs q=>by
   have hq:s=gp:=by simpa[jS,Value.ownBlock,eq_comm] using q
   have hn:=h.de.nd;simp at hs;rcases hs with r|r
   ·exact(aS.1 (aS.1 hn).2).1 (by rw[←r,hq];simp[jS,Value.ownBlock])
   ·exact(aS.1 hn).1 (ak _ (by rw[←r,hq];simp[jS,Value.ownBlock])))
  rw[hN] at hd;refine⟨rfl,X,⟨_,_,_,_,_,h.FU k (p':=(.slice (some ⟨og,off,none⟩) m cap,.slice q3 0 cap3)) (h':=(l,[])) (U':=U.take P0.length) (P':=P0) hkl ro1 o2' kk hg hd hrow' (by rw[bD];omega) (fun i z mm hi hm'=> ?_) rfl,hF.out⟩,kk.mono (fun s q=>by
   simp at q;rcases q with rfl|rfl
   ·exact h.offy hF.out h.nQ
   ·exact h.offy hF.out h.wR),fun _ q=>.inl q,fun _ q=>q⟩
  have hil:=(au.1 hm').1;rw[fC,if_pos hil] at hi;exact h.de.po i z mm hi (by rw[hP,bJ hil];exact hm')
 have HLG:=ah (Dk h1.de.hs hp (.slice (some ⟨og,off,none⟩) (m+1) cap));have HLP:=ah (h1.de.d.store 2 (.slice (some ⟨gp,0,none⟩) N kp) sI);have h1dd:=ah h1.de.d;have HB1:=ah b1;have rl:w.heap.size<W1.heap.size:=om;clear h h1 hI hk hp o1 o2 o1' o2' ro1 e3 hm ld et b1 s1 hp' f1 ruu huu hP pN hN hUl t0 t1 ogl ogx vl;go_in
 go_wp2_with fail;rw[←hW1];clear hW1;refine HD.out.mono ?_;rintro r' w1 ⟨rfl,rfl⟩;clear HD;go_wp2_with fail;go_region
 obtain rfl:m=3:=om;obtain⟨w2,BN⟩: ∃w2,w2=((w1.setCell ⟨gh,k*2,none⟩ (.slice (some ⟨og,off,none⟩) 4 cap)).setCell ⟨pd,2,none⟩ (.slice (some ⟨gp,0,none⟩) N kp)).drew:=⟨_,rfl⟩;rw[←BN];have K2:Keep [gh,pd] w1 w2:=by rw[BN];exact(((Keep.refl _ _).setCell (p:=⟨gh,k*2,none⟩) (.inl sI) _).setCell (p:=⟨pd,2,none⟩) (.inl sI) _).drew
 have LG2:jR w2 gh (lX (V.set k (.slice (some ⟨og,off,none⟩) 4 cap,.slice q3 0 cap3))):=by rw[BN];exact(HLG.out.far PG 2 _).mP
 have LP2:jR w2 pd [.pointer (some ⟨pc,0,none⟩),.slice (some ⟨gh,0,none⟩) d.H.length d.H.length,.slice (some ⟨gp,0,none⟩) N kp]:=by
  rw[BN];have q:=(h1dd.out.far GP (k*2) (.slice (some ⟨og,off,none⟩) 4 cap)).store 2 (.slice (some ⟨gp,0,none⟩) N kp) sI;exact q.mP
 have g0':=LG2.c (k*2) _ (pE (Ai VL.out _)).1;have f0':=LG2.f (k*2) (by rw[lK,cu];have:=VL.out;omega);have gl':=LG2.lt;have t0:=(K2.cell (o:=off+3*2) ogl' (by simpa using⟨GO.out,PO.out⟩)).trans t0';have t1:=(K2.cell (o:=off+3*2+1) ogl' (by simpa using⟨GO.out,PO.out⟩)).trans t1';have ogl:=aC ogl' K2.size;have LL2:=L1.out.keep K2 (by simpa using⟨rg,rp⟩);have v0':=LL2.gC 0;have v1':=LL2.gC 1;have vf0':=LL2.f 0 sI;have vf1':=LL2.f 1 sI;have rl':=LL2.lt;have KW2:=ah ((Keep.of (S:=[gh,pd]) HB1.out).then K2);have HL3:=ah (Dk LG2 (Ai VL.out _) (.slice (some ⟨og,off,none⟩) 3 cap));rw[JL] at HL3;have HP3:=ah LP2;have HLL2:=ah LL2;have HFIN':=Af;clear g0 g1 f0 t0' t1' ogl' c0 c1 c2 cl cf rl gl BN K2 LG2 LP2 LL2 hru kp1 gpl HLG HLP h1dd;go_wp2;have M:=ah ((((HLL2.out.far (c:=gh) gr (k*2) (.slice (some ⟨og,off,none⟩) 3 cap)).lq (.int .i64 o.1) (.int .i64 o.2))).past (.cells #[.int .i64 o.1,.int .i64 o.2] 40));have x0:=M.out.gC 0;have x1:=M.out.gC 1;refine bodyPost_ret (v:=.tuple #[.agg #[.int .i64 o.1,.int .i64 o.2],.nilIface]) (by simp[x0,x1,results,jh,go_sem]) rfl (Af.out _ ?_ ?_ ?_)
 ·exact(((((KW2.out).setCell (p:=⟨gh,k*2,none⟩) (.inl sI) _).setCell (p:=⟨w.heap.size,0,none⟩) (.inr (aI _)) _).setCell (p:=⟨w.heap.size,1,none⟩) (.inr (aI _)) _).alloc _)
 ·exact((HL3.out.far rg 0 _).far rg 1 _).past _
 ·exact(((HP3.out.far GP (k*2) _).far rp 0 _).far rp 1 _).past _
theorem dtake_D (k:Nat) (n:Int) (u:Bool) (hE:Ah B ev w) (h:CD B w X pd pc pz gh mn lw hi O e v A V vp U d) (hF:Hid (∀f∈F,f∈X∧f∉xd pc v A d.c.L pd gh vp)) (hI:pU e d) (hk:d.H[k]?=some ([],[])) (hP:d.P=[]):
 Calls prog 23 #[.pointer (some ⟨pd,0,none⟩),.int .i64 k,.int .i64 n,.bool u] w (uj B ev pd pc pz gh mn lw hi O e X F w (takeD mn O e d k n u)):=by
 have hkl:=(au.1 hk).1;have ld:ni ([],[]) d.P=(([],[]),[]):=by unfold ni;rw[if_pos rfl,if_pos rfl,hP];simp
 have et:takeD mn O e d k n u=(⟨(takeC mn O e d.c n u).1,d.H,d.P⟩,(takeC mn O e d.c n u).2.1,(takeC mn O e d.c n u).2.2):=o8 (oZ hk) (by rw[ld];simp);rw[et];have b1:Below w.heap.size w (w.alloc (.cells #[.int .i64 0,.int .i64 0] 40)):=jY;have L1:=ah (show jR (w.alloc (.cells #[.int .i64 0,.int .i64 0] 40)) w.heap.size [.int .i64 0,.int .i64 0] from jR.mk_ w [.int .i64 0,.int .i64 0] 40 rfl);obtain⟨W1,hW1⟩:=eY (w.alloc (.cells #[.int .i64 0,.int .i64 0] 40));have h1:=h.below b1;rw[←hW1] at b1 L1 h1;obtain⟨p,hp,o1,o2,g0,g1,f0,f1,gl⟩:=h1.hand hk;obtain⟨⟨pa,pb⟩,rfl⟩: ∃q,q=p:=⟨_,rfl⟩;obtain⟨q2,cap2,e2,_,_⟩:=o1.isSlice;obtain⟨q3,cap3,e1,_,_⟩:=o2.isSlice;simp only at e1 e2 g0 g1 hp;subst e1 e2;rw[show([]:List Ob).length=0 from rfl] at g0 g1 hp;obtain⟨qp,kp,rfl⟩: ∃qp kp,vp= .slice qp 0 kp:=by
  have hr:=h1.de.row;rw[hP] at hr;rcases hr.2 with⟨a1,a2⟩|⟨_,cap',_,a1,_⟩
  ·exact⟨none,0,by rw[a1]⟩
  ·exact⟨_,cap',by rw[a1];rfl⟩
 have c0:=h1.de.d.gC 0;have c1:=h1.de.d.gC 1;have c2:=h1.de.d.gC 2;have cl:=h1.de.d.lt;have HD:=ah (uK h1 k hkl);have hw1:IntKind.i64.wrap ((0:Int)-1)=(0:Int)-1:=aY _ om;have ST:=Vz n u (hE.go b1) ((h.cs.more (Y:=w.heap.size::X) (fun x hx=>ak _ hx) (fun y hy=>by
  rcases aB.1 hy with rfl|q
  ·exact .inr (aI _)
  ·exact .inl q)).below b1) hI.c
 have SM:=ah (SC mn O e d.c n u);obtain⟨⟨c',cc,x1,x2⟩,hr⟩: ∃r,r=takeC mn O e d.c n u:=⟨_,rfl⟩;rw[←hr] at ST SM ⊢;unfold yj at ST;simp only[obV] at ST ⊢;have HST:=ah ST;have NX:Hid (w.heap.size∉cay pc v A++ys d.c.L):=fun q=>by
  rcases aD.1 q with r|r
  ·have:=(h.cs.ch.lim _ r).2;omega
  ·have:=(h.cs.z.b.lim _ r).2;omega
 have Af:Hid (∀w2 W,(∃X' v' A',CS B w2 pc pz mn lw hi O e X' v' A' c'∧Keep (cay pc v A++ys d.c.L) W1 w2∧(∀x∈w.heap.size::X,x∈X')∧(∀x∈X',x∈w.heap.size::X∨W1.heap.size≤x)∧∀y∈cay pc v' A',y∈cay pc v A∨W1.heap.size≤y)→Keep [w.heap.size] w2 W→jR W1 w.heap.size [.int .i64 0,.int .i64 0]→
  uj B ev pd pc pz gh mn lw hi O e X F w (⟨c',d.H,d.P⟩,cc,(x1,x2)) (.returned (.tuple #[.agg #[.int .i64 x1,.int .i64 x2],kM ev cc])) W):=fun w2 W ⟨X',v',A',y1,y2,y3,y4,y5⟩ kk hloc=>by
  have zl:w.heap.size<W1.heap.size:=hloc.lt;have z2:=y2.size;have nc:w.heap.size∉cay pc v' A':=fun q=>by
   rcases y5 _ q with r|r
   ·exact NX.out (av _ r)
   ·omega
  have ny:w.heap.size∉ys c'.L:=by
   rw[SM.out.ys];exact fun q=>NX.out (aj _ q)
  have kAll:Keep (cay pc v A++ys d.c.L) w W:=((Keep.of (S:=cay pc v A++ys d.c.L) b1).then y2).trans kk (fun s q=>by simp at q;subst q;exact .inr (aI _));have csw:CS B W pc pz mn lw hi O e X' v' A' c':=y1.keep kk (fun s q=>by simp at q;subst q;exact⟨nc,.inl ⟨y3 _ (aG ..),ny⟩⟩);obtain⟨q1,q2⟩:=h.cache csw kAll (fun x hx=>y3 x (ak _ hx)) (fun x hx=>by
   rcases y4 x hx with r|r
   ·rcases aB.1 r with t|t
    ·exact .inr om
    ·exact .inl t
   ·exact .inr om) (fun y hy=>(y5 y hy).imp id (fun t=>om)) SM.out
  refine⟨rfl,_,⟨_,_,_,_,_,q1,h.cacheF (fun y hy=>(y5 y hy).imp id (fun t=>om)) SM.out hF.out (fun x hx=>av _ hx)⟩,kAll.mono (fun s q=>h.offd hF.out (aj _ q)),q2,fun x hx=>av _ hx⟩
 have HB1:=ah b1;clear h h1 hI hk hp o1 o2 ld et b1 hr hE ST hP f0 f1;go_in
 go_wp2_with fail;rw[←hW1];clear hW1;refine HD.out.mono ?_;rintro r' w1 ⟨rfl,rfl⟩;clear HD;go_wp2_with fail;refine HST.out.mono ?_;rintro r' w2 ⟨rfl,hex⟩;have LL2:=ah (show jR w2 w.heap.size [.int .i64 0,.int .i64 0] from by
  obtain⟨_,_,_,_,k2,_⟩:=hex;exact L1.out.keep k2 NX.out)
 have v0':=LL2.out.gC 0;have v1':=LL2.out.gC 1;have vf0':=LL2.out.f 0 sI;have vf1':=LL2.out.f 1 sI;have rl':=LL2.out.lt;have HEX:=ah hex;clear hex HST;go_wp2;have M:=ah (LL2.out.lq (.int .i64 x1) (.int .i64 x2));have y0:=M.out.gC 0;have y1:=M.out.gC 1;refine bodyPost_ret (v:=.tuple #[.agg #[.int .i64 x1,.int .i64 x2],kM ev cc]) (by simp[y0,y1,results,jh,go_sem]) rfl (Af.out w2 _ HEX.out ?_ L1.out);exact((Keep.refl _ _).setCell (p:=⟨w.heap.size,0,none⟩) (.inl sI) _).setCell (p:=⟨w.heap.size,1,none⟩) (.inl sI) _
theorem VK (k n:Int) (u:Bool) (hE:Ah B ev w) (h:CD B w X pd pc pz gh mn lw hi O e v A V vp U d) (hF:Hid (∀f∈F,f∈X∧f∉xd pc v A d.c.L pd gh vp)) (hI:pU e d):
 Calls prog 23 #[.pointer (some ⟨pd,0,none⟩),.int .i64 k,.int .i64 n,.bool u] w (uj B ev pd pc pz gh mn lw hi O e X F w (takeD mn O e d k n u)):=by
 cases hh:p8 d k with
 |none=>exact VJ k n u hE h hF hh
 |some g=>
  obtain⟨k0,h1,h2,h3⟩:=qH hh;obtain⟨kn,hkn⟩:=eY k.toNat;rw[←hkn] at h1 h3;subst h3;obtain⟨g1,g2⟩:=g;rcases dI g1 with rfl|⟨l,o,rfl⟩
  ·rcases dI g2 with rfl|⟨l,o,rfl⟩
   ·rcases dI d.P with hP|⟨P0,m,hP⟩
    ·exact dtake_D kn n u hE h hF hI h1 hP
    ·have hm:=hI.p4 m (by rw[hP];simp)
     rcases dI m with rfl|⟨l,o,rfl⟩
     ·simp at hm
     ·exact dtake_C kn n u h hF hI h1 (by simpa using hP)
   ·exact dtake_B kn n u h hF hI (by simpa using h1)
  ·exact dtake_A kn n u h hF hI (by simpa using h1)
end
section
variable {X Y S:List Nat} {B:Nat} {ev:Nat→Addr} {w w':World} {pd pc pz gh e:Nat} {mn lw hi:Int} {O:List (List Int)} {v vp:Value} {A:SA} {V:HV} {U:List Value} {d:De} {c:Ca}
theorem VQ (h:uR e c) (o:Ob):(H7 e o c.C).isSome=decide (o∈qj e c.C):=by
 cases hf:H7 e o c.C with
 |none=>
  symm
  show decide _=false;refine dQf fun hx=> ?_
  obtain⟨i,s,k,hs,hk,rfl⟩:=yt.1 hx;have h1:=Ei hf s (aF hs);have h2:Jc e (vK e s k) s=true:=(Q5 h.e1).2 ⟨by rw[Q6 h.e1 rfl];exact hk,by rw[Q6 h.e1 rfl]⟩;rw[h1] at h2;cases h2
 |some i=>
  obtain⟨s,hs,hh,_⟩:=zI hf;obtain⟨k1,k2⟩:=(Q5 h.e1).1 hh;symm
  show decide _=true;exact dQt (yt.2 ⟨i,s,_,hs,k1,k2⟩)
theorem shas_ok (o:Ob) (h:CS B w pc pz mn lw hi O e X v A c) (hI:uR e c) (o1: -9223372036854775808≤o.2) (o2:o.2≤9223372036854775807):
 Calls prog 125 #[.pointer (some ⟨pc,0,none⟩),.agg #[.int .i64 o.1,.int .i64 o.2]] w fun r w'=>r= .returned (.bool (decide (o∈qj e c.C)))∧Below w.heap.size w w':=by
 have b0:Below w.heap.size w (w.alloc (.cells #[.int .i64 o.1,.int .i64 o.2] 40)):=jY;have HB:=ah b0;have fm:=VQ hI o;cases hf:H7 e o c.C with
 |none=>
  rw[hf] at fm;rw[←fm];have FN:=ah (Vu o.1 o.2 (h.below b0) hI o1 o2 hf);clear h hI fm hf b0;go_in
  go_wp2_with fail;refine FN.out.mono ?_;rintro r w1 ⟨rfl,hb1⟩;go_wp2;go_ret;exact⟨rfl,HB.out.trans (hb1.mono sI)⟩
 |some i=>
  rw[hf] at fm;rw[←fm];obtain⟨s,hs,_,_⟩:=zI hf;obtain⟨p,hp,_,_⟩:=h.ch.at hs;have FN:=ah (Vt o.1 o.2 (h.below b0) hI o1 o2 hf hs hp);obtain⟨kk,hkk⟩:=eY (kOf e (o.1,o.2) s);rw[←hkk] at FN;clear h hI fm hf b0 hs hp hkk;go_in
  go_wp2_with fail;refine FN.out.mono ?_;rintro r w1 ⟨rfl,hb1⟩;go_wp2;go_ret;exact⟨rfl,HB.out.trans (hb1.mono sI)⟩
theorem BP {H:List Hd} {o:Ob}:o∈mQ H↔∃(i:Nat) (h:Hd),H[i]?=some h∧(o∈h.1∨o∈h.2):=by
 unfold mQ;rw[eB];constructor
 ·rintro⟨h,hh,q⟩
  obtain⟨i,hi⟩:=List.mem_iff_getElem?.1 hh;exact⟨i,h,hi,aD.1 q⟩
 ·rintro⟨i,h,hi,q⟩
  exact⟨h,aF hi,aD.2 q⟩
theorem dlies_ok (o:Ob) (h:CD B w X pd pc pz gh mn lw hi O e v A V vp U d) (hI:pU e d):
 Calls prog 126 #[.pointer (some ⟨pd,0,none⟩),.agg #[.int .i64 o.1,.int .i64 o.2]] w fun r w'=>r= .returned (.bool (decide (o∈held d)))∧Below w.heap.size w w':=by
 have b0:Below w.heap.size w (w.alloc (.cells #[.int .i64 o.1,.int .i64 o.2] 40)):=jY;have HL:=ah (show jR (w.alloc (.cells #[.int .i64 o.1,.int .i64 o.2] 40)) w.heap.size [.int .i64 o.1,.int .i64 o.2] from jR.mk_ w [.int .i64 o.1,.int .i64 o.2] 40 rfl);have HH:=ah h;have HI:=ah hI;have HB0:=ah b0;have c1:=h.de.d.gC 1;have cl:=h.de.d.lt;have hH4:=hI.hl;obtain⟨n,hn⟩:=eY d.H.length;have EN:=ah hn;rw[←hn] at c1 hH4;obtain⟨bb,hbb⟩:=eY (decide (o∈held d));have HBB:=ah hbb;rw[←hbb];clear h hI hn b0 hbb;go_in
 go_wp2_with fail;go_loopw [12] (fun iv wr=>∃i:Nat,i≤n∧iv= .int .i64 i∧Below w.heap.size w wr∧Hid (jR wr w.heap.size [.int .i64 o.1,.int .i64 o.2])∧Hid (∀(j:Nat) (h:Hd),j<i→d.H[j]?=some h→o∉h.1∧o∉h.2)) (fun iv _=>n-(intOf iv).toNat);case atStart=>exact⟨0,om,by go_num,HB0.out,HL,fun j h hj=>om⟩
 case round=>
  obtain⟨i,hile,rfl,hbel,HLr,HNO⟩:=hrel;have m0:=HLr.out.gC 0;have m1:=HLr.out.gC 1;have ml:=HLr.out.lt;have zr:=hbel.size;by_cases hin:i<n
  ·obtain⟨g,hg⟩: ∃g,d.H[i]?=some g:=⟨d.H[i]'(by rw[←EN.out];exact hin),aA _⟩
   obtain⟨⟨pa,pb⟩,hp,r1,r2,g0,g1,_,_,gl⟩:=(HH.out.below hbel).hand hg;obtain⟨qa,ca,e1,_⟩:=r1.isSlice;obtain⟨qb,cb,e2,_⟩:=r2.isSlice;simp only at e1 e2 g0 g1;subst e1 e2;have l4:=HI.out.h4 g (aF hg);have j1:(i:Int)<(n:Int):=om;have bA:Below wr.heap.size wr (wr.alloc (.cells #[.slice qa g.1.length ca,.slice qb g.2.length cb] 147)):=jY;have LA:=ah (show jR (wr.alloc (.cells #[.slice qa g.1.length ca,.slice qb g.2.length cb] 147)) wr.heap.size [.slice qa g.1.length ca,.slice qb g.2.length cb] from jR.mk_ wr [.slice qa g.1.length ca,.slice qb g.2.length cb] 147 rfl);have C1:=ah (VO o (r1.below bA) om);have R2:=ah r2;have BA:=ah bA;have HG:=ah hg;have L42:Hid (g.2.length≤65536):=by show g.2.length≤65536;omega
   obtain⟨b1,hb1'⟩: ∃b1,b1=decide (o∈g.1):=⟨_,rfl⟩;have HB1':=ah hb1';try simp only at C1
   rw[←hb1'] at C1;obtain⟨na,hna⟩:=eY g.1.length;obtain⟨nb,hnb⟩:=eY g.2.length;rw[←hna] at C1 g0 LA BA;rw[←hnb] at C1 g1 LA R2 BA;clear r1 r2 hp hg bA hb1' l4 hna hnb;cases b1 with
   |true=>
    have hmem:o∈held d:=by
     unfold held;exact av _ (BP.2 ⟨i,g,HG.out,.inl (of_decide_eq_true HB1'.out.symm)⟩)
    have hd:bb=true:=by rw[HBB.out];exact dQt hmem
    subst hd;clear hmem;go_wp2_with fail;refine C1.out.mono ?_;rintro r w2 ⟨rfl,hb2⟩;go_wp2;go_ret;exact⟨rfl,hbel.trans ((BA.out.trans (hb2.mono sI)).mono zr)⟩
   |false=>
    go_wp2_with fail;refine C1.out.mono ?_;rintro r w2 ⟨rfl,hb2⟩;have M2:=LA.out.go hb2;have y0:=M2.gC 0;have y1:=M2.gC 1;have yl:=M2.lt;have B2:=ah (BA.out.trans (hb2.mono sI));have HLr2:=ah (HLr.out.go B2.out);have m0:=HLr2.out.gC 0;have m1:=HLr2.out.gC 1;have ml:=HLr2.out.lt;have C2:=VO o (R2.out.below B2.out) (by have:=L42.out;simpa using this);obtain⟨b2,hb2'⟩: ∃b2,b2=decide (o∈g.2):=⟨_,rfl⟩;have HB2':=ah hb2';try simp only at C2
    rw[←hb2'] at C2;have HC2:=ah C2;clear C1 M2 C2 hb2' hb2;cases b2 with
    |true=>
     have hmem:o∈held d:=by
      unfold held;exact av _ (BP.2 ⟨i,g,HG.out,.inr (of_decide_eq_true HB2'.out.symm)⟩)
     have hd:bb=true:=by rw[HBB.out];exact dQt hmem
     subst hd;clear hmem;go_wp2_with fail;refine HC2.out.mono ?_;rintro r w3 ⟨rfl,hb3⟩;go_wp2;go_ret;exact⟨rfl,hbel.trans ((B2.out.trans (hb3.mono B2.out.size)).mono zr)⟩
    |false=>
     have HNO2:Hid (∀(j:Nat) (h:Hd),j<i+1→d.H[j]?=some h→o∉h.1∧o∉h.2):=fun j h hj hh=>by
      by_cases q:j=i
      ·subst q
       rw[HG.out] at hh;obtain rfl:=aO hh;exact⟨of_decide_eq_false HB1'.out.symm,of_decide_eq_false HB2'.out.symm⟩
      ·exact HNO.out j h om hh
     go_wp2_with fail;refine HC2.out.mono ?_;rintro r w3 ⟨rfl,hb3⟩;have B3:=B2.out.trans (hb3.mono B2.out.size);have HL3:=ah (HLr.out.go B3);go_wp2;go_round
     case rel=>exact⟨i+1,om,by go_num,hbel.trans (B3.mono zr),HL3,HNO2⟩
     case measure=>simp[intOf];omega
  ·obtain rfl:i=n:=by omega
   have hnm:o∉mQ d.H:=fun q=>by
    obtain⟨j,g,h1,h2⟩:=BP.1 q;have hj:=(au.1 h1).1;obtain⟨a1,a2⟩:=HNO.out j g (by rw[EN.out];exact hj) h1;rcases h2 with r|r
    ·exact a1 r
    ·exact a2 r
   have hd:decide (o∈d.P.flatten)=bb:=by
    rw[HBB.out];unfold held;simp[hnm]
   obtain⟨q,k,evp,k1,k2,hrow⟩:=(HH.out.below hbel).de.pile;have c2:=(HH.out.below hbel).de.d.gC 2;have cl2:=(HH.out.below hbel).de.d.lt;rw[evp] at c2;have pl:d.P.length≤65536:=by
    have hh:=(o9 HI.out).1;have h2:=oU HI.out.c;omega
   have CF:=ah (I8 (X:=X) o w.heap.size q k d.P HI.out.p4 pl hrow HLr.out);unfold liesF at CF;rw[hd] at CF;clear hnm hd hrow k1 k2 evp;go_wp2_with fail;refine CF.out.mono ?_;rintro r w2 ⟨rfl,hb2⟩;go_wp2;go_ret;exact⟨rfl,hbel.trans (hb2.mono zr)⟩
theorem FV (o:Ob) (h:CD B w X pd pc pz gh mn lw hi O e v A V vp U d) (hI:pU e d) (o1: -9223372036854775808≤o.2) (o2:o.2≤9223372036854775807):
 Calls prog 94 #[.pointer (some ⟨pd,0,none⟩),.agg #[.int .i64 o.1,.int .i64 o.2]] w fun r w'=>r= .returned (.bool (Ay e d o))∧Below w.heap.size w w':=by
 have b0:Below w.heap.size w (w.alloc (.cells #[.int .i64 o.1,.int .i64 o.2] 40)):=jY;have HL:=ah (show jR (w.alloc (.cells #[.int .i64 o.1,.int .i64 o.2] 40)) w.heap.size [.int .i64 o.1,.int .i64 o.2] from jR.mk_ w [.int .i64 o.1,.int .i64 o.2] 40 rfl);have c0:=h.de.d.gC 0;have cl:=h.de.d.lt;have HB0:=ah b0;obtain⟨W0,hW0⟩:=eY (w.alloc (.cells #[.int .i64 o.1,.int .i64 o.2] 40));have h0:=h.below b0;rw[←hW0] at HL h0 HB0;have HA:Hid (∀W,Below W0.heap.size W0 W→Calls prog 125 #[.pointer (some ⟨pc,0,none⟩),.agg #[.int .i64 o.1,.int .i64 o.2]] W fun r w'=>r= .returned (.bool (decide (o∈qj e d.c.C)))∧Below W.heap.size W w'):=fun W b=>shas_ok o (h0.below b).cs hI.c o1 o2
 have LI:Hid (∀W,Below W0.heap.size W0 W→Calls prog 126 #[.pointer (some ⟨pd,0,none⟩),.agg #[.int .i64 o.1,.int .i64 o.2]] W fun r w'=>r= .returned (.bool (decide (o∈held d)))∧Below W.heap.size W w'):=fun W b=>dlies_ok o (h0.below b) hI
 have k0:=h0.de.d.gC 0;have kl:=h0.de.d.lt;have m0:=HL.out.gC 0;have m1:=HL.out.gC 1;have ml:=HL.out.lt;unfold Ay;obtain⟨b1,hb1⟩:=eY (decide (o∈qj e d.c.C));obtain⟨b2,hb2⟩:=eY (decide (o∈held d));rw[←hb1] at HA;rw[←hb2] at LI;rw[←hb1,←hb2];clear h hI hb1 hb2 b0 h0 c0 cl;go_in
 go_wp2_with fail;rw[←hW0];clear hW0;cases b1 with
 |true=>
  refine kG kR kR ?_;repeat(go_big_quiet_step ((first|(go_at_call 125;exact Calls.behind (HA.out _ (Behind.h _)))|(go_at_call 126;exact Calls.behind (LI.out _ (Behind.h _))))))
  refine wpQuiet_nil ?_;intro w4 hw';have hb4:=lN hw';clear hw';obtain⟨c4,f4⟩:=zy hb4;have z4:=hb4.size;try simp at z4 c4 f4
  go_wp2;go_ret;exact⟨by cases b2<;>rfl,HB0.out.trans (hb4.mono HB0.out.size)⟩
 |false=>
  refine kG kR kR ?_;repeat(go_big_quiet_step ((first|(go_at_call 125;exact Calls.behind (HA.out _ (Behind.h _)))|(go_at_call 126;exact Calls.behind (LI.out _ (Behind.h _))))))
  refine wpQuiet_nil ?_;intro w4 hw';have hb4:=lN hw';clear hw';obtain⟨c4,f4⟩:=zy hb4;have z4:=hb4.size;try simp at z4 c4 f4
  go_wp2;go_ret;exact⟨by cases b2<;>rfl,HB0.out.trans (hb4.mono HB0.out.size)⟩
end
theorem mD.clip {X:List Nat} {w:World} {q:Option Addr} {n c:Nat} {l:List Ob} (h:mD X w (.slice q n c) l):mD X w (.slice q l.length l.length) l∧n=l.length∧n≤c∧(q=none→n=0):=by
 obtain⟨p,cap,h1,h2,h3,h4⟩:=h;obtain⟨e1,e2,e3⟩:=fu h1;subst e1 e2 e3;refine⟨⟨q,l.length,rfl,aI _,om,h4⟩,rfl,h2,fun e=> ?_⟩;cases l with
 |nil=>rfl
 |cons b r=>
  obtain⟨g,off,t,_⟩:=h4 0 b.1 b.2 rfl;rw[e] at t;cases t
section
variable {X Y S F:List Nat} {B:Nat} {ev:Nat→Addr} {w w':World} {pd pc pz gh e:Nat} {mn lw hi:Int} {O:List (List Int)} {v vp vp':Value} {A:SA} {V:HV} {U U':List Value} {d:De} {c:Ca} {P':List (List Ob)}
def um (B:Nat) (ev:Nat→Addr) (pd pc pz gh:Nat) (mn lw hi:Int) (O:List (List Int)) (e:Nat) (X F:List Nat) (w:World) (r:De×Nat) (en:Ending) (w':World):Prop:=
 en= .returned (kM ev r.2)∧∃X',CDx B w' X' F pd pc pz gh mn lw hi O e r.1∧Keep (off X F) w w'∧(∀x∈X',x∈X∨w.heap.size≤x)∧∀x∈X,x∈X'
theorem CD.Qm (h:CD B w X pd pc pz gh mn lw hi O e v A V vp U d) (k:Nat) {p':Value×Value} {h':Hd} (hk:k<d.H.length) (kk:Keep [gh] w w') (r1:mD X w' p'.1 h'.1) (r2:mD X w' p'.2 h'.2) (hg:jR w' gh (lX (V.set k p'))):
 CD B w' X pd pc pz gh mn lw hi O e v A (V.set k p') vp U ⟨d.c,d.H.set k h',d.P⟩:=by
 have q:=h.yu k (p':=(.slice none 0 0,.slice none 0 0)) (h':=([],[])) (w':=w) hk (mD.nil X w) (mD.nil X w) (Keep.refl _ _);obtain⟨n0,nn⟩:=aS.1 h.de.nd;obtain⟨n1,n2⟩:=aS.1 nn;have hpg:pd≠gh:=fun q=>n0 (q▸aG ..)
 have fg:=h.far gh h.nQ;have hs: ∀s∈[gh],s∈X∨w.heap.size≤s:=fun s q=>by simp at q;subst q;exact .inl fg.1
 refine⟨h.x,h.limK kk,h.cs.z.keep kk (fun s q=>by simp at q;subst q;exact .inl ⟨fg.1,fg.2.2⟩) |> fun z=>⟨z,h.cs.ch.keep kk (fun s q=>by simp at q;subst q;exact fg.2.1),h.cs.ne,h.cs.l0⟩,?_,h.ne⟩;refine⟨?_,hg,by simp[h.de.hl],fun i p g hp hg'=> ?_,jQ h.de.row kk (fun s q=>by simp at q;subst q;exact n1),h.de.ul,fun i u m hu hm=>(h.de.po i u m hu hm).keep kk hs,h.de.mem,h.de.nd,fun y hy=>⟨(h.de.lim y hy).1,aC (h.de.lim y hy).2 kk.size⟩⟩
 ·rw[cu]
  exact h.de.d.keep kk (by simpa using hpg)
 ·by_cases q:k=i
  ·subst q
   rw[aZ (by rw[h.de.hl];exact hk)] at hp;rw[aZ hk] at hg';obtain rfl:=aO hp;obtain rfl:=aO hg';exact⟨r1,r2⟩
  ·rw[bQ q] at hp hg'
   exact⟨(h.de.ho i p g hp hg').1.keep kk hs,(h.de.ho i p g hp hg').2.keep kk hs⟩
theorem BQ {k:Nat} {g:Hd} {o:Ob} (hk:d.H[k]?=some g) (ho:Ay e d o=true):lI e d k o=(⟨d.c,d.H.set k ((qE g d.P).1.1++[o],(qE g d.P).1.2),(qE g d.P).2⟩,0):=by
 unfold lI;rw[oZ hk];simp only[ho,if_true,bS]
theorem JM {k:Nat} {g:Hd} {o:Ob} (hk:d.H[k]?=some g) (ho:Ay e d o=false):lI e d k o=(d,9):=by
 unfold lI;rw[oZ hk];simp only[ho];rfl
theorem VT {k:Int} {o:Ob} (hk:p8 d k=none):lI e d k o=(d,2):=by unfold lI;rw[hk]
theorem VU (k:Int) (o:Ob) (hE:Je B ev w) (h:CD B w X pd pc pz gh mn lw hi O e v A V vp U d) (hF:Hid (∀f∈F,f∈X∧f∉xd pc v A d.c.L pd gh vp)) (hk:p8 d k=none):
 Calls prog 50 #[.pointer (some ⟨pd,0,none⟩),.int .i64 k,.agg #[.int .i64 o.1,.int .i64 o.2]] w (um B ev pd pc pz gh mn lw hi O e X F w (lI e d k o)):=by
 rw[VT hk];have b1:Below w.heap.size w (w.alloc (.cells #[.int .i64 o.1,.int .i64 o.2] 40)):=jY;have NO:=ah (I4 (hE.z.go b1).c (h.below b1) k (xD hk));have e1:kM ev 2= .iface 336 (.pointer (some (ev 2))):=rfl;have FIN:Hid (∀W,Below w.heap.size w W→um B ev pd pc pz gh mn lw hi O e X F w (d,2) (.returned (.iface 336 (.pointer (some (ev 2))))) W):=fun W b=>⟨rfl,X,⟨_,_,_,_,_,h.below b,hF.out⟩,Keep.of b,fun _ q=>.inl q,fun _ q=>q⟩
 have HB1:=ah b1;rw[e1] at NO;clear h hk hE e1 b1;go_in
 go_wp2_with fail;refine NO.out.mono ?_;rintro r w1 ⟨rfl,hb1⟩;go_wp2;go_ret;exact FIN.out _ (HB1.out.trans (hb1.mono sI))
theorem JN (k:Nat) (o:Ob) (hE:Je B ev w) (h:CD B w X pd pc pz gh mn lw hi O e v A V vp U d) (hF:Hid (∀f∈F,f∈X∧f∉xd pc v A d.c.L pd gh vp)) (hI:pU e d) (o1: -9223372036854775808≤o.2) (o2:o.2≤9223372036854775807) {g:Hd} (hk:d.H[k]?=some g) (ho:Ay e d o=false):
 Calls prog 50 #[.pointer (some ⟨pd,0,none⟩),.int .i64 k,.agg #[.int .i64 o.1,.int .i64 o.2]] w (um B ev pd pc pz gh mn lw hi O e X F w (lI e d k o)):=by
 rw[JM hk ho];have hkl:=(au.1 hk).1;have b1:Below w.heap.size w (w.alloc (.cells #[.int .i64 o.1,.int .i64 o.2] 40)):=jY;have HL:=ah (show jR (w.alloc (.cells #[.int .i64 o.1,.int .i64 o.2] 40)) w.heap.size [.int .i64 o.1,.int .i64 o.2] from jR.mk_ w [.int .i64 o.1,.int .i64 o.2] 40 rfl);obtain⟨W1,hW1⟩:=eY (w.alloc (.cells #[.int .i64 o.1,.int .i64 o.2] 40));rw[←hW1] at b1 HL;have h1:=h.below b1;have HD:=ah (uK h1 k hkl);have OU:=FV o h1 hI o1 o2;rw[ho] at OU;have HOU:=ah OU;have m0:=HL.out.gC 0;have m1:=HL.out.gC 1;have ml:=HL.out.lt;have e1:kM ev 9= .iface 336 (.pointer (some (ev 9))):=rfl;have FIN:Hid (∀W,Below w.heap.size w W→um B ev pd pc pz gh mn lw hi O e X F w (d,9) (.returned (.iface 336 (.pointer (some (ev 9))))) W):=fun W b=>⟨rfl,X,⟨_,_,_,_,_,h.below b,hF.out⟩,Keep.of b,fun _ q=>.inl q,fun _ q=>q⟩
 have HB1:=ah b1;have HE:=ah hE;have E1:=ah e1;clear h hk hE e1 b1 h1 OU hI;go_in
 go_wp2_with fail;rw[←hW1];clear hW1;refine HD.out.mono ?_;rintro r w1 ⟨rfl,rfl⟩;go_wp2_with fail;refine HOU.out.mono ?_;rintro r w2 ⟨rfl,hb2⟩;have B2:=HB1.out.trans (hb2.mono HB1.out.size);have gs:w2.cell? ⟨5,0,none⟩=some (kM ev 9):=(HE.out.go B2).c9;have gsl:5<w2.heap.size:=aC HE.out.l9 (bW HE.out.size B2.size);rw[E1.out] at gs;go_wp2;go_ret;exact FIN.out _ jY
theorem dgive_1 (k:Nat) (o:Ob) (h:CD B w X pd pc pz gh mn lw hi O e v A V vp U d) (hF:Hid (∀f∈F,f∈X∧f∉xd pc v A d.c.L pd gh vp)) (hI:pU e d) (o1: -9223372036854775808≤o.2) (o2:o.2≤9223372036854775807) {l r:List Ob} (hk:d.H[k]?=some (l,r)) (hl3:l.length≤3) (ho:Ay e d o=true):
 Calls prog 50 #[.pointer (some ⟨pd,0,none⟩),.int .i64 k,.agg #[.int .i64 o.1,.int .i64 o.2]] w (um B ev pd pc pz gh mn lw hi O e X F w (lI e d k o)):=by
 have hkl:=(au.1 hk).1;have fd:qE (l,r) d.P=((l,r),d.P):=by unfold qE;rw[if_neg (by show¬l.length=4;omega)]
 rw[BQ hk ho,fd];have b1:Below w.heap.size w (w.alloc (.cells #[.int .i64 o.1,.int .i64 o.2] 40)):=jY;have HL:=ah (show jR (w.alloc (.cells #[.int .i64 o.1,.int .i64 o.2] 40)) w.heap.size [.int .i64 o.1,.int .i64 o.2] from jR.mk_ w [.int .i64 o.1,.int .i64 o.2] 40 rfl);obtain⟨W1,hW1⟩:=eY (w.alloc (.cells #[.int .i64 o.1,.int .i64 o.2] 40));rw[←hW1] at b1 HL;have h1:=h.below b1;have HD:=ah (uK h1 k hkl);have OU:=FV o h1 hI o1 o2;rw[ho] at OU;have HOU:=ah OU;have m0:=HL.out.gC 0;have m1:=HL.out.gC 1;have ml:=HL.out.lt;have HB1:=ah b1;have HH:=ah h;have rg: ¬(w.heap.size=gh):=fun q=>by have:=(h.de.lim gh h.nQ).2;omega
 have VL:Hid (k<V.length):=by show k<V.length;rw[h.de.hl];exact hkl
 clear h b1 h1 OU hI ho;go_in
 go_wp2_with fail;rw[←hW1];clear hW1;refine HD.out.mono ?_;rintro r' w1 ⟨rfl,rfl⟩;go_wp2_with fail;refine HOU.out.mono ?_;rintro r' w2 ⟨rfl,hb2⟩;have B2:=HB1.out.trans (hb2.mono HB1.out.size);obtain⟨p,hp,r1,r2,g0,g1,f0,f1,gl⟩:=(HH.out.below B2).hand hk;obtain⟨⟨pa,pb⟩,rfl⟩: ∃q,q=p:=⟨_,rfl⟩;obtain⟨qa,ca,e1,_,_⟩:=r1.isSlice;simp only at e1 g0 g1 hp;subst e1;obtain⟨rc,_,nc,qn⟩:=mD.clip (by simpa using r1);have HRC:=ah rc;have HR2:=ah r2;have HP:=ah hp;have HLB:=ah (HL.out.go hb2);have x0:=HLB.out.gC 0;have x1:=HLB.out.gC 1;have xl:=HLB.out.lt;have HB2:=ah B2;obtain⟨n,hn⟩:=eY l.length;have EN:=ah hn;replace g0:w2.cell? ⟨gh,k*2,none⟩=some (.slice qa n ca):=by rw[hn];exact g0
 rw[←hn] at hl3 nc qn;have d1:decide (n=4)=false:=dQf om;have d1':decide ((n:Int)=4)=false:=dQf om;have CL:Hid (∀W,Calls prog 67 #[.slice qa n ca] W fun e w'=>e= .returned (.slice qa n n)∧w'=W):=fun W=>AA qa n ca W qn nc
 have NB0:Hid ((w2.alloc (.cells #[.int .i64 o.1,.int .i64 o.2] 40)).drew.cell? ⟨w2.heap.size,0+0,none⟩=some (.int .i64 o.1)):=(jR.mk_ w2 [.int .i64 o.1,.int .i64 o.2] 40 rfl).mP.gC 0;have NB1:Hid ((w2.alloc (.cells #[.int .i64 o.1,.int .i64 o.2] 40)).drew.cell? ⟨w2.heap.size,0+1,none⟩=some (.int .i64 o.2)):=(jR.mk_ w2 [.int .i64 o.1,.int .i64 o.2] 40 rfl).mP.gC 1;have HLH:=ah ((HH.out.below B2).de.hs);have FIN:Hid (∀w4 g' k',Below w2.heap.size w2 w4→w4.ownsRow ((w2.alloc (.cells #[.int .i64 o.1,.int .i64 o.2] 40)).drew).heap.size 40 2 (.slice (some ⟨g',0,none⟩) (n+1) k') (n+1) (l8 (l++[o]))→
  um B ev pd pc pz gh mn lw hi O e X F w (⟨d.c,d.H.set k (l++[o],r),d.P⟩,0) (.returned .nilIface) (w4.setCell ⟨gh,k*2,none⟩ (.slice (some ⟨g',0,none⟩) (n+1) k'))):=fun w4 g' k' hb hown=>by
  have hz:=B2.size;have kk:Keep [gh] w (w4.setCell ⟨gh,k*2,none⟩ (.slice (some ⟨g',0,none⟩) (n+1) k')):=(Keep.of (B2.trans (hb.mono hz))).setCell (p:=⟨gh,k*2,none⟩) (.inl sI) _;have hg4:=hown.lt g' rfl;have hs:((w2.alloc (.cells #[.int .i64 o.1,.int .i64 o.2] 40)).drew).heap.size=w2.heap.size+1:=sI;rw[hs] at hg4;have hgX:g'∉X:=fun q=>by have:=(HH.out.lim g' q).2;omega
  have k4:Keep [gh] w4 (w4.setCell ⟨gh,k*2,none⟩ (.slice (some ⟨g',0,none⟩) (n+1) k')):=(Keep.refl _ _).setCell (p:=⟨gh,k*2,none⟩) (.inl sI) _;have hsx: ∀s∈[gh],s∈X∨w4.heap.size≤s:=fun s q=>by simp at q;subst q;exact .inl (HH.out.de.mem s HH.out.nQ)
  have en:n+1=(l++[o]).length:=by rw[hn];simp
  have ro:mD X w4 (.slice (some ⟨g',0,none⟩) (n+1) k') (l++[o]):=by
   rw[en] at hown ⊢;exact qX hown (fun g q=>by
    have:g=g':=by simpa[Value.ownBlock,eq_comm] using q
    subst this;exact hgX)
  have hl:=Dk (HLH.out.keep (Keep.of (S:=[]) hb) sI) HP.out (.slice (some ⟨g',0,none⟩) (n+1) k');refine⟨rfl,X,⟨_,_,_,_,_,HH.out.Qm k (p':=(.slice (some ⟨g',0,none⟩) (n+1) k',pb)) (h':=(l++[o],r)) hkl kk (ro.keep k4 hsx) ((HR2.out.below hb).keep k4 hsx) hl,hF.out⟩,kk.mono (fun s q=>by simp at q;subst q;exact HH.out.offy hF.out HH.out.nQ),fun _ q=>.inl q,fun _ q=>q⟩
 clear r1 r2 rc hp hn B2 HD HOU m0 m1 ml;go_wp2_with fail;refine kE (S:=(fun w'=>w'.cell? ⟨gh,k*2,none⟩=some (.slice qa n ca)∧w'.cell? ⟨w.heap.size,0,none⟩=some (.int .i64 o.1)∧w'.cell? ⟨w.heap.size,1,none⟩=some (.int .i64 o.2))) 9 #[false,false,false,false,false,false,false,false,false] rfl kR kR (by(try dsimp only);go_keep) (fun hHeld=> ?_);simp only[aQ,aV];refine tk 0 ?_;refine tk 1 ?_;refine tk 2 ?_;refine tk 3 ?_;refine tk 4 ?_;refine tk 6 ?_;refine wpAnyH_ready (rs:=[5,7]) kR sI ?_;refine aR (jT rfl) (fun K hK=> ?_) (aR (jT rfl) (fun K hK=> ?_) aX)
 ·refine qY rf 67 #[.slice qa n ca] kR (.slice qa n n) _ (CL.out _) ?_
  refine hkO hK fun hHeld=> ?_
  clear hK K;refine wpAnyH_ready (rs:=[7]) kR sI ?_;refine aR (jT rfl) (fun K hK=> ?_) aX;go_simp
  refine hkO hK fun hHeld=> ?_
  clear hK K;refine wpAnyH_ready (rs:=[8]) kR sI ?_;refine aR (jT rfl) (fun K hK=> ?_) aX;refine sD (X:=X) (w:=(w2.alloc (.cells #[.int .i64 o.1,.int .i64 o.2] 40)).drew) EN.out rf (.tmp 66) (.tmp 68) rf rf rf ((HRC.out.below jY)) om (ob:=o) (ad:=⟨w2.heap.size,0,none⟩) (by rw[addr_add];exact NB0.out) (by rw[addr_add];exact NB1.out) ?_;intro g' k' w4 kV hb4;have B4:Below w2.heap.size w2 w4:=(show Below w2.heap.size w2 ((w2.alloc (.cells #[.int .i64 o.1,.int .i64 o.2] 40)).drew) from jY).trans (hb4.mono sI);have y0:=(B4.cell (p:=⟨gh,k*2,none⟩) gl).trans g0;have y1:=(B4.cell (p:=⟨w.heap.size,0,none⟩) xl).trans x0;have y2:=(B4.cell (p:=⟨w.heap.size,1,none⟩) xl).trans x1;have yf:=(B4.frozen (p:=⟨gh,k*2,none⟩) gl).trans f0;have yl:gh<w4.heap.size:=aC gl B4.size;refine hkO hK fun hHeld=> ?_
  clear hK K;refine wpAnyH_done kR ?_ _;simp only[oz,aP,aU];have HO4:=ah kV;have HB4:=ah B4;clear kV hb4 B4 hHeld;go_wp2;go_ret;exact FIN.out w4 g' k' HB4.out HO4.out
 ·go_simp
  refine hkO hK fun hHeld=> ?_
  clear hK K;refine wpAnyH_ready (rs:=[5]) kR sI ?_;refine aR (jT rfl) (fun K hK=> ?_) aX;refine qY rf 67 #[.slice qa n ca] kR (.slice qa n n) _ (CL.out _) ?_;refine hkO hK fun hHeld=> ?_
  clear hK K;refine wpAnyH_ready (rs:=[8]) kR sI ?_;refine aR (jT rfl) (fun K hK=> ?_) aX;refine sD (X:=X) (w:=(w2.alloc (.cells #[.int .i64 o.1,.int .i64 o.2] 40)).drew) EN.out rf (.tmp 66) (.tmp 68) rf rf rf ((HRC.out.below jY)) om (ob:=o) (ad:=⟨w2.heap.size,0,none⟩) (by rw[addr_add];exact NB0.out) (by rw[addr_add];exact NB1.out) ?_;intro g' k' w4 kV hb4;have B4:Below w2.heap.size w2 w4:=(show Below w2.heap.size w2 ((w2.alloc (.cells #[.int .i64 o.1,.int .i64 o.2] 40)).drew) from jY).trans (hb4.mono sI);have y0:=(B4.cell (p:=⟨gh,k*2,none⟩) gl).trans g0;have y1:=(B4.cell (p:=⟨w.heap.size,0,none⟩) xl).trans x0;have y2:=(B4.cell (p:=⟨w.heap.size,1,none⟩) xl).trans x1;have yf:=(B4.frozen (p:=⟨gh,k*2,none⟩) gl).trans f0;have yl:gh<w4.heap.size:=aC gl B4.size;refine hkO hK fun hHeld=> ?_
  clear hK K;refine wpAnyH_done kR ?_ _;simp only[oz,aP,aU];have HO4:=ah kV;have HB4:=ah B4;clear kV hb4 B4 hHeld;go_wp2;go_ret;exact FIN.out w4 g' k' HB4.out HO4.out
theorem dgive_2 (k:Nat) (o:Ob) (h:CD B w X pd pc pz gh mn lw hi O e v A V vp U d) (hF:Hid (∀f∈F,f∈X∧f∉xd pc v A d.c.L pd gh vp)) (hI:pU e d) (o1: -9223372036854775808≤o.2) (o2:o.2≤9223372036854775807) {t:List Ob} (hk:d.H[k]?=some (t,[])) (hl4:t.length=4) (ho:Ay e d o=true):
 Calls prog 50 #[.pointer (some ⟨pd,0,none⟩),.int .i64 k,.agg #[.int .i64 o.1,.int .i64 o.2]] w (um B ev pd pc pz gh mn lw hi O e X F w (lI e d k o)):=by
 have hkl:=(au.1 hk).1;have fd:qE (t,[]) d.P=(([],t),d.P):=by unfold qE;rw[if_pos hl4,if_pos rfl]
 rw[BQ hk ho,fd];have b1:Below w.heap.size w (w.alloc (.cells #[.int .i64 o.1,.int .i64 o.2] 40)):=jY;have HL:=ah (show jR (w.alloc (.cells #[.int .i64 o.1,.int .i64 o.2] 40)) w.heap.size [.int .i64 o.1,.int .i64 o.2] from jR.mk_ w [.int .i64 o.1,.int .i64 o.2] 40 rfl);obtain⟨W1,hW1⟩:=eY (w.alloc (.cells #[.int .i64 o.1,.int .i64 o.2] 40));rw[←hW1] at b1 HL;have h1:=h.below b1;have HD:=ah (uK h1 k hkl);have OU:=FV o h1 hI o1 o2;rw[ho] at OU;have HOU:=ah OU;have m0:=HL.out.gC 0;have m1:=HL.out.gC 1;have ml:=HL.out.lt;have HB1:=ah b1;have HH:=ah h;have rg: ¬(w.heap.size=gh):=fun q=>by have:=(h.de.lim gh h.nQ).2;omega
 have VL:Hid (k<V.length):=by show k<V.length;rw[h.de.hl];exact hkl
 clear h b1 h1 OU hI ho;go_in
 go_wp2_with fail;rw[←hW1];clear hW1;refine HD.out.mono ?_;rintro r' w1 ⟨rfl,rfl⟩;go_wp2_with fail;refine HOU.out.mono ?_;rintro r' w2 ⟨rfl,hb2⟩;have B2:=HB1.out.trans (hb2.mono HB1.out.size);obtain⟨p,hp,r1,r2,g0,g1,f0,f1,gl⟩:=(HH.out.below B2).hand hk;obtain⟨⟨pa,pb⟩,rfl⟩: ∃q,q=p:=⟨_,rfl⟩;obtain⟨qt,ct,e1,_,_⟩:=r1.isSlice;obtain⟨qa,ca,e2,_,_⟩:=r2.isSlice;simp only at e1 e2 g0 g1 hp;rw[show([]:List Ob).length=0 from rfl] at e2;rw[hl4] at e1;subst e1 e2;have HLB2:=ah (HL.out.go hb2);have SW:=ah (Qj gh (k*2) qt qa 4 0 ct ca _ _ rfl rfl w2 g0 g1 f0 f1 gl);have HB2:=ah B2;have HL3:Hid (jR ((w2.setCell ⟨gh,k*2,none⟩ (.slice qa 0 ca)).setCell ⟨gh,k*2+1,none⟩ (.slice qt 4 ct)).drew gh (lX (V.set k (.slice qa 0 ca,.slice qt 4 ct)))):=by
  have a1:=Dk (HH.out.below B2).de.hs hp (.slice qa 0 ca);have a2:=hloc2 a1 (Ai VL.out _) (.slice qt 4 ct);rw[JL] at a2;exact a2.mP
 have K3:Keep [gh] w2 ((w2.setCell ⟨gh,k*2,none⟩ (.slice qa 0 ca)).setCell ⟨gh,k*2+1,none⟩ (.slice qt 4 ct)).drew:=(((Keep.refl _ _).setCell (p:=⟨gh,k*2,none⟩) (.inl sI) _).setCell (p:=⟨gh,k*2+1,none⟩) (.inl sI) _).drew;have hsx2: ∀s∈[gh],s∈X∨w2.heap.size≤s:=fun s q=>by simp at q;subst q;exact .inl (HH.out.de.mem s HH.out.nQ)
 have R1:=ah (r1.keep K3 hsx2);have R2:=ah (r2.keep K3 hsx2);have HK3:=ah K3;clear r1 r2 K3 HD HOU m0 m1 ml;go_wp2_with fail;refine SW.out.mono ?_;rintro r' w3 ⟨rfl,hw3⟩;rw[←hw3] at HL3 R1 R2 HK3;have KW:=ah ((Keep.of (S:=[gh]) HB2.out).then HK3.out);have g0':=HL3.out.c (k*2) _ (pE (Ai VL.out _)).1;have f0':=HL3.out.f (k*2) (by rw[lK,cu];have:=VL.out;omega);have gl':=HL3.out.lt;have HLB:=ah (HLB2.out.keep HK3.out (by simpa using rg));have x0:=HLB.out.gC 0;have x1:=HLB.out.gC 1;have xl:=HLB.out.lt;obtain⟨rc,nl,nc,qn⟩:=mD.clip (l:=[]) (by simpa using R2.out);clear nl;have HRC:=ah rc;simp only at g0';have CL:Hid (∀W,Calls prog 67 #[.slice qa 0 ca] W fun e w'=>e= .returned (.slice qa 0 0)∧w'=W):=fun W=>AA qa 0 ca W qn nc
 have VL3:Hid ((V.set k (.slice qa 0 ca,.slice qt 4 ct))[k]?=some (.slice qa 0 ca,.slice qt 4 ct)):=Ai VL.out _;have NB0:Hid ((w3.alloc (.cells #[.int .i64 o.1,.int .i64 o.2] 40)).drew.cell? ⟨w3.heap.size,0+0,none⟩=some (.int .i64 o.1)):=(jR.mk_ w3 [.int .i64 o.1,.int .i64 o.2] 40 rfl).mP.gC 0;have NB1:Hid ((w3.alloc (.cells #[.int .i64 o.1,.int .i64 o.2] 40)).drew.cell? ⟨w3.heap.size,0+1,none⟩=some (.int .i64 o.2)):=(jR.mk_ w3 [.int .i64 o.1,.int .i64 o.2] 40 rfl).mP.gC 1;have FIN:Hid (∀w4 g' k',Below w3.heap.size w3 w4→w4.ownsRow ((w3.alloc (.cells #[.int .i64 o.1,.int .i64 o.2] 40)).drew).heap.size 40 2 (.slice (some ⟨g',0,none⟩) (0+1) k') (0+1) (l8 ([]++[o]))→
  um B ev pd pc pz gh mn lw hi O e X F w (⟨d.c,d.H.set k ([]++[o],t),d.P⟩,0) (.returned .nilIface) (w4.setCell ⟨gh,k*2,none⟩ (.slice (some ⟨g',0,none⟩) (0+1) k'))):=fun w4 g' k' hb hown=>by
  have hz:=KW.out.size;have kk:Keep [gh] w (w4.setCell ⟨gh,k*2,none⟩ (.slice (some ⟨g',0,none⟩) (0+1) k')):=(KW.out.step hb).setCell (p:=⟨gh,k*2,none⟩) (.inl sI) _;have hg4:=hown.lt g' rfl;have hs:((w3.alloc (.cells #[.int .i64 o.1,.int .i64 o.2] 40)).drew).heap.size=w3.heap.size+1:=sI;rw[hs] at hg4;have hgX:g'∉X:=fun q=>by have:=(HH.out.lim g' q).2;omega
  have k4:Keep [gh] w4 (w4.setCell ⟨gh,k*2,none⟩ (.slice (some ⟨g',0,none⟩) (0+1) k')):=(Keep.refl _ _).setCell (p:=⟨gh,k*2,none⟩) (.inl sI) _;have hsx: ∀s∈[gh],s∈X∨w4.heap.size≤s:=fun s q=>by simp at q;subst q;exact .inl (HH.out.de.mem s HH.out.nQ)
  have ro:mD X w4 (.slice (some ⟨g',0,none⟩) (0+1) k') ([]++[o]):=by
   exact qX (l:=[]++[o]) hown (fun g q=>by
    have:g=g':=by simpa[Value.ownBlock,eq_comm] using q
    subst this;exact hgX)
  have hl:=Dk (HL3.out.keep (Keep.of (S:=[]) hb) sI) VL3.out (.slice (some ⟨g',0,none⟩) (0+1) k');rw[JL] at hl;refine⟨rfl,X,⟨_,_,_,_,_,HH.out.Qm k (p':=(.slice (some ⟨g',0,none⟩) (0+1) k',.slice qt 4 ct)) (h':=([]++[o],t)) hkl kk (ro.keep k4 hsx) ((R1.out.below hb).keep k4 hsx) hl,hF.out⟩,kk.mono (fun s q=>by simp at q;subst q;exact HH.out.offy hF.out HH.out.nQ),fun _ q=>.inl q,fun _ q=>q⟩
 have EN:Hid (0=([]:List Ob).length):=rfl;clear rc hp B2 g0 g1 f0 f1 gl hw3 SW hb2 nc qn fd hl4 hsx2;go_wp2_with fail;refine kE (S:=(fun w'=>w'.cell? ⟨gh,k*2,none⟩=some (.slice qa 0 ca)∧w'.cell? ⟨w.heap.size,0,none⟩=some (.int .i64 o.1)∧w'.cell? ⟨w.heap.size,1,none⟩=some (.int .i64 o.2))) 9 #[false,false,false,false,false,false,false,false,false] rfl kR kR (by(try dsimp only);go_keep) (fun hHeld=> ?_);simp only[aQ,aV];refine tk 0 ?_;refine tk 1 ?_;refine tk 2 ?_;refine tk 3 ?_;refine tk 4 ?_;refine tk 6 ?_;refine wpAnyH_ready (rs:=[5,7]) kR sI ?_;refine aR (jT rfl) (fun K hK=> ?_) (aR (jT rfl) (fun K hK=> ?_) aX)
 ·refine qY rf 67 #[.slice qa 0 ca] kR (.slice qa 0 0) _ (CL.out _) ?_
  refine hkO hK fun hHeld=> ?_
  clear hK K;refine wpAnyH_ready (rs:=[7]) kR sI ?_;refine aR (jT rfl) (fun K hK=> ?_) aX;go_simp
  refine hkO hK fun hHeld=> ?_
  clear hK K;refine wpAnyH_ready (rs:=[8]) kR sI ?_;refine aR (jT rfl) (fun K hK=> ?_) aX;refine sD (X:=X) (w:=(w3.alloc (.cells #[.int .i64 o.1,.int .i64 o.2] 40)).drew) EN.out rf (.tmp 66) (.tmp 68) rf rf rf ((HRC.out.below jY)) om (ob:=o) (ad:=⟨w3.heap.size,0,none⟩) (by rw[addr_add];exact NB0.out) (by rw[addr_add];exact NB1.out) ?_;intro g' k' w4 kV hb4;have B4:Below w3.heap.size w3 w4:=(show Below w3.heap.size w3 ((w3.alloc (.cells #[.int .i64 o.1,.int .i64 o.2] 40)).drew) from jY).trans (hb4.mono sI);have y0:=(B4.cell (p:=⟨gh,k*2,none⟩) gl').trans g0';have y1:=(B4.cell (p:=⟨w.heap.size,0,none⟩) xl).trans x0;have y2:=(B4.cell (p:=⟨w.heap.size,1,none⟩) xl).trans x1;have yf:=(B4.frozen (p:=⟨gh,k*2,none⟩) gl').trans f0';have yl:gh<w4.heap.size:=aC gl' B4.size;refine hkO hK fun hHeld=> ?_
  clear hK K;refine wpAnyH_done kR ?_ _;simp only[oz,aP,aU];have HO4:=ah kV;have HB4:=ah B4;clear kV hb4 B4 hHeld;go_wp2;go_ret;exact FIN.out w4 g' k' HB4.out HO4.out
 ·go_simp
  refine hkO hK fun hHeld=> ?_
  clear hK K;refine wpAnyH_ready (rs:=[5]) kR sI ?_;refine aR (jT rfl) (fun K hK=> ?_) aX;refine qY rf 67 #[.slice qa 0 ca] kR (.slice qa 0 0) _ (CL.out _) ?_;refine hkO hK fun hHeld=> ?_
  clear hK K;refine wpAnyH_ready (rs:=[8]) kR sI ?_;refine aR (jT rfl) (fun K hK=> ?_) aX;refine sD (X:=X) (w:=(w3.alloc (.cells #[.int .i64 o.1,.int .i64 o.2] 40)).drew) EN.out rf (.tmp 66) (.tmp 68) rf rf rf ((HRC.out.below jY)) om (ob:=o) (ad:=⟨w3.heap.size,0,none⟩) (by rw[addr_add];exact NB0.out) (by rw[addr_add];exact NB1.out) ?_;intro g' k' w4 kV hb4;have B4:Below w3.heap.size w3 w4:=(show Below w3.heap.size w3 ((w3.alloc (.cells #[.int .i64 o.1,.int .i64 o.2] 40)).drew) from jY).trans (hb4.mono sI);have y0:=(B4.cell (p:=⟨gh,k*2,none⟩) gl').trans g0';have y1:=(B4.cell (p:=⟨w.heap.size,0,none⟩) xl).trans x0;have y2:=(B4.cell (p:=⟨w.heap.size,1,none⟩) xl).trans x1;have yf:=(B4.frozen (p:=⟨gh,k*2,none⟩) gl').trans f0';have yl:gh<w4.heap.size:=aC gl' B4.size;refine hkO hK fun hHeld=> ?_
  clear hK K;refine wpAnyH_done kR ?_ _;simp only[oz,aP,aU];have HO4:=ah kV;have HB4:=ah B4;clear kV hb4 B4 hHeld;go_wp2;go_ret;exact FIN.out w4 g' k' HB4.out HO4.out
end
