/- Lemmas and contracts for the claim's last text: RPNew, RPB, DuoT, PActA. -/
import Derived.Test.YtehhldljdakgeaaGreatDoorQa01
import Derived.Test.YtehhldljdakgeaaGreatDoorQa26
import Derived.Test.YtehhldljdakgeaaGreatDoorQa33
set_option linter.unusedSimpArgs false
set_option linter.unusedVariables false
set_option maxHeartbeats 16000000
set_option maxRecDepth 100000
namespace Go.Proofs.YtehhldljdakgeaaGreatDoor
open Go.RowKit Go.Maps
attribute [local go_sem ↓] aJ aK
def rQ (G:List (Int×Ob)):List Value:=G.flatMap fun g=>[.int .i64 g.1,.int .i64 g.2.1,.int .i64 g.2.2]
def yD (pq:Nat) (vr vt vw vg:Value):List Nat:=pq::(jF vr++(jF vt++(jF vw++jF vg)))
def jI (pd:Nat) (vr vt vw vg:Value) (p:Po):List Value:=[.pointer (some ⟨pd,0,none⟩),.int .i64 p.most,vr,vt,vw,vg,.int .i64 p.last,.bool p.cl]
structure xJ (B:Nat) (w:World) (pq pd:Nat) (vr vt vw vg:Value) (p:Po):Prop where
 c:jD w pq (jI pd vr vt vw vg p)
 r:w.ownsRow B 40 2 vr p.R.length (kG p.R)
 t:w.ownsRow B 40 2 vt p.T.length (kG p.T)
 ow:w.ownsRow B 3 1 vw p.W.length (ints p.W)
 g:w.ownsRow B 137 3 vg p.G.length (rQ p.G)
 nd:(yD pq vr vt vw vg).Nodup
 lim: ∀y∈yD pq vr vt vw vg,B≤y∧y<w.heap.size
section
variable {pd e:Nat} {mn:Int} {O:List (List Int)} {w0:World}
structure EB (E:yO pd e mn O w0) (X F:List Nat) (pq:Nat) (vr vt vw vg:Value) (p:Po) (w:World):Prop where
 s:E.S X (yD pq vr vt vw vg++F) p.d w
 b:xJ w0.heap.size w pq pd vr vt vw vg p
 f: ∀f∈F,f∉yD pq vr vt vw vg
def tC (E:yO pd e mn O w0) (X F:List Nat) (pq:Nat) (p:Po) (w:World):Prop:=(∃vr vt vw vg,EB E X F pq vr vt vw vg p w)∧mO e p
structure EF (E:yO pd e mn O w0) (X F:List Nat) (w:World) (pq n:Nat) (L X':List Nat) (d:De) (R:List Ob) (vr:Value) (wr:World):Prop where
 run:oQ E.toFEnv X F w L X' d wr
 mem:pq∈L∧∀y∈jF vr,y∈L
 c:jD wr pq (jI pd vr (.slice none 0 0) (.slice none 0 0) (.slice none 0 0) (sK d n R))
 row:wr.ownsRow w.heap.size 40 2 vr R.length (kG R)
 ne:pq∉jF vr
variable {E:yO pd e mn O w0} {X F:List Nat} {w w':World} {pq n:Nat} {d:De} {L X' S:List Nat} {R:List Ob} {vr vr':Value} {wr w4 w5:World} {d':De} {r:Value} {en:Ending}
theorem EF.keep (h:EF E X F w pq n L X' d R vr wr) {L' X2:List Nat} (hf:oQ E.toFEnv X F w L' X2 d' w4) (hL: ∀y∈L,y∈L') (k:Keep S wr w4) (hs: ∀s∈S,s∉L):EF E X F w pq n L' X2 d' R vr w4:=
 ⟨hf,⟨hL _ h.mem.1,fun y q=>hL _ (h.mem.2 y q)⟩,h.c.keep k (fun q=>hs _ q h.mem.1),jE h.row k (fun s q r=>hs s q (h.mem.2 s r)),h.ne⟩
theorem EF.go (h:EF E X F w pq n L X' d R vr wr) (k:Below wr.heap.size wr w4):EF E X F w pq n L X' d R vr w4:=h.keep (h.run.go k) (fun _ q=>q) (Keep.of (S:=[]) k) (fun _ q=>by cases q)
theorem EF.act (h:EF E X F w pq n L X' d R vr wr) (hp:EPost E.S X' (L++F) d' wr r en w4):en= .returned r∧∃X2,EF E X F w pq n L X2 d' R vr w4:=by
 obtain⟨h1,X2,h2,h3⟩:=h.run.act hp;exact⟨h1,X2,h.keep h2 (fun _ q=>q) h3 (fun s q r=>(jJ.1 q).2 (av _ r))⟩
theorem EF.app {m:Nat} {o:Ob} {q:Option Addr} {k:Nat} (h:EF E X F w pq n L X' d R vr wr) (hm:m=R.length) (hown:w4.ownsRow w.heap.size 40 2 (.slice q (m+1) k) (m+1) (kG (R++[o]))) (hg:wr.grownBy w4 vr.ownBlock)
 (hz:(Value.slice q (m+1) k).ownBlock=vr.ownBlock∨(Value.slice q (m+1) k).ownBlock=some wr.heap.size) (h5:w5=w4.setCell ⟨pq,2,none⟩ (.slice q (m+1) k)):
 ∃L' X2,EF E X F w pq n L' X2 d (R++[o]) (.slice q (m+1) k) w5:=by
 have m4:=h.ne;have k4:=jS hg;have k5:Keep [pq] w4 w5:=by rw[h5];exact(Keep.refl _ _).setCell (p:=⟨pq,2,none⟩) (.inl sI) _
 have z4:=k4.size;have z5:=k5.size;have hmem:=h.mem;have lp:=h.run.l _ hmem.1;have K:Keep (pq::jF vr) wr w5:=(k4.mono (fun s r=>ak _ r)).then (k5.mono (fun s r=>by simp at r;subst r;simp));have hlt: ∀y∈jF (Value.slice q (m+1) k),y<w5.heap.size:=fun y hy=>by
  have:=(hown.lt y (nQ.1 hy)).2;omega
 have hown': ∀y∈jF (Value.slice q (m+1) k),y∈jF vr∨wr.heap.size≤y:=ou hz;have hY: ∀y∈(jF (Value.slice q (m+1) k)).filter (fun y=>decide (wr.heap.size≤y)),wr.heap.size≤y∧y<w5.heap.size:=fun y hy=>by
  obtain⟨q1,q2⟩:=bF.1 hy;exact⟨of_decide_eq_true q2,hlt y q1⟩
 have far:pq∉jF (Value.slice q (m+1) k):=fun h3=>by
  rcases hown' pq h3 with r|r
  ·exact m4 r
  ·omega
 refine⟨_,_,h.run.put K (fun g r=> ?_) hY,⟨aj _ hmem.1,fun y hy=> ?_⟩,?_,?_,far⟩
 ·rcases aB.1 r with t|t
  ·rw[t];exact hmem.1
  ·exact hmem.2 g t
 ·rcases hown' y hy with r|r
  ·exact aj _ (hmem.2 y r)
  ·exact av _ (bF.2 ⟨hy,decide_eq_true r⟩)
 ·rw[h5]
  exact(h.c.keep k4 m4).store 2 (.slice q (m+1) k) (by simp[jI])
 ·have:=jE hown k5 (fun s r t=>by simp at r;exact far (r▸t))
  rw[show(R++[o]).length=m+1 by rw[hm];simp];exact this
theorem EF.fin (h:EF E X F w pq n L X' d R vr wr) (hi:mO e (sK d n R)) (hX: ∀x∈X,x<w.heap.size) (hF: ∀f∈F,f∈X) (hB:w0.heap.size≤w.heap.size):
 ∃X2,tC E X2 F pq (sK d n R) wr∧Keep (off X F) w wr∧(∀x∈X2,x∈X∨w.heap.size≤x)∧∀x∈X,x∈X2:=by
 have e0:jF (Value.slice none 0 0)=[]:=rfl;have hb:=(E.bel h.run.t).size;have hp: ∀y∈yD pq vr (.slice none 0 0) (.slice none 0 0) (.slice none 0 0),y∈L:=fun y q=>by
  unfold yD at q;rw[e0] at q;simp at q;rcases q with rfl|q
  ·exact h.mem.1
  ·exact h.mem.2 y q
 have xl: ∀x∈X,x∉L:=fun x q r=>by have:=hX x q;have:=(h.run.l x r).1;omega
 refine⟨X',⟨⟨vr,.slice none 0 0,.slice none 0 0,.slice none 0 0,E.uI h.run.t (fun g q=> ?_),⟨h.c,rA h.row ?_,aT _ _ _ _,aT _ _ _ _,aT _ _ _ _,?_,fun y q=>E.lim h.run.t y (E.qR h.run.t y (av _ (hp y q)))⟩,fun f q r=>xl f (hF f q) (hp f r)⟩,hi⟩,h.run.k,h.run.x1,h.run.x2⟩
 ·rcases aD.1 q with r|r
  ·exact av _ (hp g r)
  ·exact aj _ r
 ·exact hB
 ·unfold yD
  rw[e0];simp only[dB];refine aS.2 ⟨h.ne,?_⟩;unfold jF;cases vr.ownBlock<;>simp
def V5 (E:yO pd e mn O w0) (X F:List Nat) (w:World) (most:Nat) (r:De×List Ob×Nat) (en:Ending) (w':World):Prop:=
 (r.2.2≠0∧EPost E.S X F r.1 w (.tuple #[.pointer none,.int .i64 r.2.2]) en w')∨
 (r.2.2=0∧∃pq,en= .returned (.tuple #[.pointer (some ⟨pq,0,none⟩),.int .i64 0])∧w.heap.size≤pq∧∃X2,tC E X2 F pq (sK r.1 most r.2.1) w'∧Keep (off X F) w w'∧(∀x∈X2,x∈X∨w.heap.size≤x)∧∀x∈X,x∈X2)
theorem Gi (v:Int) (n:Nat) (h:E.S X F d w) (hn:1≤n∧n≤16) {l:List Ob} (hm:MoI e l d) (hH:0<d.H.length):
 Calls Tryz.prog 10 #[.pointer (some ⟨pd,0,none⟩),.int .i64 v,.int .i64 n] w (V5 E X F w n (lJ mn O e v n d [])):=by
 obtain⟨n1,n16⟩:=hn;have d0:decide ((n:Int)<1)=false:=decide_eq_false om;have d1:decide ((16:Int)<(n:Int))=false:=decide_eq_false om;have d2: ¬((n:Int)<1):=om;have d3: ¬((16:Int)<(n:Int)):=om;have hXl:=ah (fun x hx=>(E.lim h x hx).2: ∀x∈X,x<w.heap.size);have hFX:=ah (E.qR h);have hB0:=ah (E.bel h).size;obtain⟨W3,hW3⟩:=eX (w.alloc (.cells #[.pointer (some ⟨pd,0,none⟩),.int .i64 n,.slice none 0 0,.slice none 0 0,.slice none 0 0,.slice none 0 0,.int .i64 0,.bool false] 62));obtain⟨pq,hpq⟩:=eX w.heap.size;have START:EF E X F w pq n [pq] (pq::X) d [] (.slice none 0 0) W3:=by
  subst hW3;subst hpq;have r1:=(oQ.start h).box (.cells #[.pointer (some ⟨pd,0,none⟩),.int .i64 n,.slice none 0 0,.slice none 0 0,.slice none 0 0,.slice none 0 0,.int .i64 0,.bool false] 62);exact⟨r1,⟨sI,fun y q=>by cases q⟩,jD.mk_ _ _ _ rfl,aT _ _ _ _,by simp[jF,Value.ownBlock]⟩
 have HS:=ah START;have HPQ:Hid (w.heap.size≤pq):=by show _≤_;omega
 have hI:=E.inv h;have HI0:Hid (oH e d∧lJ mn O e v n d []=lJ mn O e v (n-0) d []∧([]:List Ob).length=0∧([]:List Ob).Nodup∧(∀o∈([]:List Ob),pE o)∧0<d.H.length∧∃l,MoI e l d∧∀x∈([]:List Ob),x∈l):=⟨hI,rfl,rfl,eF,fun o q=>(by cases q),hH,l,hm,fun x q=>(by cases q)⟩;clear START hI hm hH h;go_enter Tryz.func10,Tryz.ntmps10;go_wp2_with fail;clear hW3 hpq d0 d1 d2 d3;go_loopw [9] (fun iv wr=>∃(i:Nat) (L X':List Nat) (d':De) (R:List Ob) (q:Option Addr) (k:Nat),i≤n∧iv= .int .i64 i∧Hid (EF E X F w pq n L X' d' R (.slice q i k) wr)∧
  Hid (oH e d'∧lJ mn O e v n d []=lJ mn O e v (n-i) d' R∧R.length=i∧R.Nodup∧(∀o∈R,pE o)∧0<d'.H.length∧∃l,MoI e l d'∧∀x∈R,x∈l)) (fun iv _=>n-(intOf iv).toNat)
 case atStart=>exact⟨0,_,_,_,_,_,_,bq _,by go_num,HS,HI0⟩
 case round=>
  obtain⟨i,L,X',d',R,q,k,hin,rfl,HP,HI⟩:=hrel;by_cases hlt:i<n
  ·have hli:(i:Int)<(n:Int):=by omega
   have hl0:(0:Int)≤(i:Int):=om;obtain⟨dn,c,o,ht⟩: ∃dn c o,takeD mn O e d' 0 v true=(dn,c,o):=⟨_,_,_,rfl⟩;have TK0:=E.take 0 v true HP.out.run.t;rw[ht] at TK0;have TK:=ah (show Calls Tryz.prog 24 #[.pointer (some ⟨pd,0,none⟩),.int .i64 0,.int .i64 v,.bool true] wr (EPost E.S X' (L++F) dn wr (.tuple #[.agg #[.int .i64 o.1,.int .i64 o.2],.int .i64 c])) from TK0);have HT:=ah ht;have hO:=ah (E.ord HP.out.run.t);clear TK0 ht;go_wp2_with fail;refine TK.out.mono ?_;intro r w1 hp;obtain⟨hr,X2,hP1⟩:=HP.out.act hp;subst hr;have hb1:Below w1.heap.size w1 (w1.alloc (bO o)):=by unfold bO;exact jK
   have hPb:=hP1.go hb1;have LB:jD (w1.alloc (bO o)) w1.heap.size [.int .i64 o.1,.int .i64 o.2]:=jD.mk_ w1 [.int .i64 o.1,.int .i64 o.2] 40 rfl;obtain⟨Wb,hWb⟩:=eX (w1.alloc (bO o));obtain⟨b9,hb9⟩:=eX w1.heap.size;rw[hWb] at hPb LB;rw[hb9] at LB;have x0:=LB.gC 0;have x1:=LB.gC 1;have xl:=LB.lt;have x2:=hPb.c.gC 2;have xf:=hPb.c.f 2 (by simp[jI]);have xL:=hPb.c.lt;have HPB:=ah hPb;have HLB:=ah LB;have hpp:=(hP1.run.l _ hP1.mem.1).2;have hn9: ∀y∈jF (Value.slice q i k),y<w1.heap.size:=fun y hy=>(hP1.run.l y (hP1.mem.2 y hy)).2
   rw[hb9] at hn9;have HN9:=ah hn9;clear hp hP1 TK hPb LB hb1 hn9;by_cases h0:c=0
   ·subst h0
    unfold bO at hWb;have i16:i≤70000:=om;have NE: ¬(pq=b9):=om;have NE': ¬(b9=pq):=fun r=>NE r.symm
    go_wp2_with fail;clear hWb hb9;refine jN (S:=(fun w'=>w'.cell? ⟨pq,2,none⟩=some (.slice q i k)∧w'.cell? ⟨b9,0,none⟩=some (.int .i64 o.1)∧w'.cell? ⟨b9,1,none⟩=some (.int .i64 o.2))) 8 #[false,false,false,false,false,false,false,false] rfl kR kR (by(try dsimp only);go_keep) (fun hHeld=> ?_);simp only[aQ,aW];refine tk 0 ?_;try simp only[Act.put,pA,pZ,pS]
    refine tk 1 ?_;try simp only[Act.put,pA,pZ,pS]
    refine tk 2 ?_;try simp only[Act.put,pA,pZ,pS]
    refine tk 3 ?_;try simp only[Act.put,pA,pZ,pS]
    refine tk 4 ?_;try simp only[Act.put,pA,pZ,pS]
    refine tk 5 ?_;try simp only[Act.put,pA,pZ,pS]
    refine wpAnyH_ready (rs:=[6]) kR sI ?_;refine aR (jH rfl) (fun K hK=> ?_) aX;go_simp
    refine hK.out _ _ (by(try dsimp only);go_keep) (fun hHeld=> ?_);clear hK K;try simp only[Act.put,pA,pZ,pS]
    refine wpAnyH_ready (rs:=[7]) kR sI ?_;refine aR (jH rfl) (fun K hK=> ?_) aX;obtain⟨i1,i2,i3,i4,i5,i6,l,i7,i8⟩:=HI.out;have hD:=HPB.out.go (show Below Wb.heap.size Wb (Wb.alloc (.cells #[.int .i64 o.1,.int .i64 o.2] 40)).drew from jK);have hrow:=hD.row;rw[i3] at hrow;refine oh rY (base:=w.heap.size) (ms:=[.int .i64 o.1,.int .i64 o.2]) rf (.tmp 59) (.tmp 61) rf rf rf hrow rfl (fun j u hj=>nJ Wb _ _ _ j u hj) (nK _ _) i16 (by have:=hD.run.k.size;exact this) ?_;intro q4 k4 w4 jV hg4 hz4;have c4:=hD.c.keep (jS hg4) hD.ne;have u2:=c4.gC 2;have uf:=c4.f 2 (by simp[jI]);have ul:=c4.lt;have n9:b9∉jF (Value.slice q i k):=fun r=>by have:=HN9.out b9 r;omega
    have L9:=(HLB.out.go (show Below Wb.heap.size Wb (Wb.alloc (.cells #[.int .i64 o.1,.int .i64 o.2] 40)).drew from jK)).keep (jS hg4) n9;have y0:=L9.gC 0;have y1:=L9.gC 1;have HD:=ah hD;have HG4:=ah hg4;have HZ4:=ah hz4;have HO4:Hid (w4.ownsRow w.heap.size 40 2 (.slice q4 (i+1) k4) (i+1) (kG (R++[o]))):=by rw[l8];exact jV
    rcases MoI.take hO.out i1 i7 0 v true with⟨j1,j2,j3⟩|⟨j1,_⟩;rotate_left
    ·rw[HT.out] at j1;exact absurd rfl j1
    have ti:=qI (mn:=mn) (O:=O) (k:=0) (v:=v) (u:=true) hO.out i1;have th:(takeD mn O e d' 0 v true).1.H.length=d'.H.length:=su;have INV:Hid (oH e dn∧lJ mn O e v n d []=lJ mn O e v (n-(i+1)) dn (R++[o])∧(R++[o]).length=i+1∧(R++[o]).Nodup∧(∀x∈R++[o],pE x)∧0<dn.H.length∧∃l,MoI e l dn∧∀x∈R++[o],x∈l):=by
     have e1:n-i=(n-(i+1))+1:=om;rw[e1,vC j1] at i2;rw[HT.out] at i2 ti j2 j3 th;have hoR:o∉R:=fun q=>j2 (i8 o q)
     have hs: ∀x∈R++[o],x∈l++[o]:=fun x hx=>by
      rcases aD.1 hx with q|q
      ·exact av _ (i8 x q)
      ·exact aj _ q
     refine⟨ti,i2,by simp[i3],?_,fun x hx=>IG ti.c ((j3.iff x).2 (.inl (hs x hx))),by rw[th];exact i6,l++[o],j3,hs⟩;rw[bD];exact⟨i4,sI,fun a ha b hb=>by simp at hb;subst hb;exact fun q=>hoR (q▸ha)⟩
    have I3:=ah i3;clear jV hg4 hz4 hD c4 L9 n9 i1 i2 i3 i4 i5 i6 i7 i8 j1 j2 j3 ti th hrow;refine hK.out _ _ (by(try dsimp only);go_keep) (fun hHeld=> ?_);clear hK K;try simp only[Act.put,pA,pZ,pS]
    refine wpAnyH_done kR ?_ _;simp only[nX,aP,aU];clear hHeld x0 x1 x2 xf xL xl;go_wp2;go_roundw;case rel=>
     obtain⟨L2,X3,hP5⟩:=HD.out.app I3.out.symm HO4.out HG4.out HZ4.out rfl;exact⟨i+1,L2,X3,dn,R++[o],q4,k4,om,by go_num,hP5,INV⟩
    case measure=>simp[intOf];omega
   ·have hc0:(0:Int)<(c:Int):=by omega
    have hcd:decide ((0:Int)<(c:Int))=true:=decide_eq_true hc0;have HC0:=ah h0;have hc1:0<c:=om;have hcd1:decide (0<c)=true:=decide_eq_true hc1;unfold bO at hWb;have NE: ¬(pq=b9):=om;have NE': ¬(b9=pq):=fun r=>NE r.symm
    obtain⟨i1,i2,i3,i4,i5,i6,l,i7,i8⟩:=HI.out;have I5:=ah i5;have I3:=ah i3;have FILL:Hid (lJ mn O e v n d []=(lH e dn R,[],c)):=by
     have e1:n-i=(n-(i+1))+1:=om;rw[e1,Ef (by rw[HT.out];exact h0)] at i2;rw[HT.out] at i2;exact i2
    have V4:Hid (EF E X F w pq n L X2 (lH e dn (R.take 0)) R (.slice q i k) Wb):=HPB.out;have ALL:Hid (R.take i=R):=by show _=_;rw[←I3.out];simp
    clear i1 i2 i3 i4 i5 i6 i7 i8 x0 x1 xl h0;go_wp2_with fail;clear hWb hb9 x2 xf xL;go_loopw [12] (fun jv ws=>∃(j:Nat) (X3:List Nat),j≤i∧jv= .int .i64 j∧Hid (EF E X F w pq n L X3 (lH e dn (R.take j)) R (.slice q i k) ws)) (fun jv _=>i-(intOf jv).toNat);case atStart=>exact⟨0,X2,bq _,by go_num,V4⟩
    case round=>
     obtain⟨j,X3,hji,rfl,HQ⟩:=hrel;have z2:=HQ.out.c.gC 2;have zL:=HQ.out.c.lt;by_cases hjt:j<i
     ·obtain⟨a,ha⟩: ∃a,R[j]?=some a:=⟨R[j]'(by rw[I3.out];exact hjt),aA _⟩
      have ro:=pO (X:=[]) HQ.out.row (fun g _ r=>by cases r);obtain⟨g,off',eg,_,gl,y0,y1⟩:=ro.at ha;subst eg;have GV:=ah (E.give 0 a HQ.out.run.t);have HA:=ah ha;have hji':(j:Int)<(i:Int):=om;have hj0:(0:Int)≤(j:Int):=om;clear ha ro;go_wp2_with fail;refine GV.out.mono ?_;intro r w5 hp;obtain⟨hr,X5,p5⟩:=HQ.out.act hp;subst hr;rw[←sS HA.out] at p5;have HP5:=ah p5;clear p5 GV y0 y1 hp z2 zL;go_wp2;go_roundw;case rel=>exact⟨j+1,X5,om,by go_num,HP5⟩
      case measure=>simp[intOf];omega
     ·obtain rfl:j=i:=by omega
      have HQ':=HQ.out;rw[ALL.out] at HQ';have HQ2:=ah HQ';clear HQ' HQ;go_wp2;go_ret2
      rw[FILL.out];exact .inl ⟨HC0.out,HQ2.out.run.fin⟩
  ·obtain rfl:i=n:=by omega
   go_wp2;go_ret2
   obtain⟨i1,i2,i3,i4,i5,i6,l,i7,i8⟩:=HI.out;have e0:i-i=0:=om;rw[e0] at i2;rw[i2];refine .inr ⟨rfl,pq,rfl,HPQ.out,HP.out.fin ?_ hXl.out hFX.out hB0.out⟩;exact⟨i1,⟨l,i7,fun x hx=>i8 x (by simpa[Po.obs,sK] using hx)⟩,by simpa[Po.obs,sK] using i4,⟨n1,n16⟩,by show R.length≤i;omega,by simp[sK],List.Pairwise.nil,fun t q=>(by cases q),eF,fun g q=>(by cases q),fun g q=>(by cases q),cO _⟩
end
theorem jG {pq y:Nat} {vr vt vw vg:Value}:y∈yD pq vr vt vw vg↔y=pq∨y∈jF vr∨y∈jF vt∨y∈jF vw∨y∈jF vg:=by
 unfold yD;simp
section
variable {B B':Nat} {S:List Nat} {w w':World} {pq pd:Nat} {vr vt vw vg vr' vt' vw' vg':Value} {p p':Po}
theorem xJ.keep (h:xJ B w pq pd vr vt vw vg p) (k:Keep S w w') (hs: ∀s∈S,s∉yD pq vr vt vw vg):xJ B w' pq pd vr vt vw vg p:=
 ⟨h.c.keep k fun q=>hs _ q (jG.2 (.inl rfl)),jE h.r k fun s q r=>hs s q (jG.2 (.inr (.inl r))),jE h.t k fun s q r=>hs s q (jG.2 (.inr (.inr (.inl r)))),jE h.ow k fun s q r=>hs s q (jG.2 (.inr (.inr (.inr (.inl r))))),jE h.g k fun s q r=>hs s q (jG.2 (.inr (.inr (.inr (.inr r))))),h.nd,
  fun y hy=>⟨(h.lim y hy).1,aC (h.lim y hy).2 k.size⟩⟩
theorem xJ.below (h:xJ B w pq pd vr vt vw vg p) (k:Below w.heap.size w w'):xJ B w' pq pd vr vt vw vg p:=h.keep (Keep.of (S:=[]) k) (fun _ q=>by cases q)
end
section
variable {pd e:Nat} {mn:Int} {O:List (List Int)} {w0:World} {E:yO pd e mn O w0} {X X0 F G Y L N:List Nat} {w w' W W':World} {pq b:Nat} {vr vt vw vg vr' vt' vw' vg':Value} {p p':Po} {d:De} {r:Value} {en:Ending}
theorem EB.go (h:EB E X F pq vr vt vw vg p w) (k:Below w.heap.size w w'):EB E X F pq vr vt vw vg p w':=⟨E.go h.s k,h.b.below k,h.f⟩
theorem EB.other (h:EB E X F pq vr vt vw vg p w) (k:Keep G w w') (hs: ∀g∈G,g∈F):EB E X F pq vr vt vw vg p w':=
 ⟨E.other h.s k fun g t=>aj _ (hs g t),h.b.keep k fun s t=>h.f s (hs s t),h.f⟩
theorem EB.uI (h:EB E X F pq vr vt vw vg p w) (hs: ∀g∈G,g∈F):EB E X G pq vr vt vw vg p w:=
 ⟨E.uI h.s fun g t=>(aD.1 t).elim (fun u=>av _ u) (fun u=>aj _ (hs g u)),h.b,fun f t=>h.f f (hs f t)⟩
theorem EB.tQ (h:EB E X F pq vr vt vw vg p w) (k:Keep G w w') (hs: ∀g∈G,g∈F) (hY: ∀y∈Y,w.heap.size≤y∧y<w'.heap.size):EB E (Y++X) (Y++F) pq vr vt vw vg p w':=by
 refine⟨E.uI (E.tQ (Y:=Y) h.s k (fun g t=>aj _ (hs g t)) hY) fun g t=> ?_,h.b.keep k fun s t=>h.f s (hs s t),fun f t r=> ?_⟩
 ·rcases aD.1 t with u|u
  ·exact aj _ (av _ u)
  ·rcases aD.1 u with u|u
   ·exact av _ u
   ·exact aj _ (aj _ u)
 ·rcases aD.1 t with u|u
  ·have:=(hY f u).1;have:=(h.b.lim f r).2;omega
  ·exact h.f f u r
def tY (E:yO pd e mn O w0) (pq:Nat):FEnv Po w0 where
 S X F p w:=∃vr vt vw vg,EB E X F pq vr vt vw vg p w
 bel:=fun⟨_,_,_,_,q⟩=>E.bel q.s
 lim:=fun⟨_,_,_,_,q⟩=>E.lim q.s
 qR:=fun⟨_,_,_,_,q⟩ f hf=>E.qR q.s f (aj _ hf)
 go:=fun⟨_,_,_,_,q⟩ k=>⟨_,_,_,_,q.go k⟩
 other:=fun⟨_,_,_,_,q⟩ k hs=>⟨_,_,_,_,q.other k hs⟩
 tQ:=fun⟨_,_,_,_,q⟩ k hs hy=>⟨_,_,_,_,q.tQ k hs hy⟩
 uI:=fun⟨_,_,_,_,q⟩ hg=>⟨_,_,_,_,q.uI hg⟩
def kE (E:yO pd e mn O w0) (pq:Nat):FEnv Po w0 where
 S X F p w:=tC E X F pq p w
 bel h:=(tY E pq).bel h.1
 lim h:=(tY E pq).lim h.1
 qR h:=(tY E pq).qR h.1
 go h k:=⟨(tY E pq).go h.1 k,h.2⟩
 other h k hs:=⟨(tY E pq).other h.1 k hs,h.2⟩
 tQ h k hs hy:=⟨(tY E pq).tQ h.1 k hs hy,h.2⟩
 uI h hg:=⟨(tY E pq).uI h.1 hg,h.2⟩
structure o9 (E:yO pd e mn O w0) (pq:Nat) (X0 F:List Nat) (w:World) (L X:List Nat) (vr vt vw vg:Value) (p:Po) (W:World):Prop where
 run:oQ (tY E pq) X0 F w L X p W
 at_:EB E X (L++F) pq vr vt vw vg p W
end
section
variable {σ τ σ' τ':Type} {w0 w1:World} {E:FEnv σ w0} {D:FEnv τ w1} {E':FEnv σ' w0} {D':FEnv τ' w1} {w W W':World} {L X F Y G X' Y':List Nat} {d:σ} {m:τ} {d':σ'} {m':τ'} {b:Nat} {r:Value} {en:Ending}
theorem Duo.turn1 (h:Duo E D w L X F Y G d m W) (k1:E'.S X' F d' W') (k2:Keep (off X F) W W') (k3: ∀x∈X',x∈X∨W.heap.size≤x):lK E' D w L d' m W':=by
 have z:=h.bel.size;have hN: ∀y∈X'.filter (fun y=>decide (W.heap.size≤y)),W.heap.size≤y∧y<W'.heap.size:=fun y q=>by
  obtain⟨q1,q2⟩:=bF.1 q;exact⟨of_decide_eq_true q2,(E'.lim k1 y q1).2⟩
 refine⟨X',F,_,_,k1,D.tQ h.t k2 (fun s q=>h.a s q) hN,fun x q=> ?_,fun x q=> ?_,fun b q=>⟨(h.l1 b q).1,aj _ (h.l1 b q).2⟩,fun b q=>⟨(h.l2 b q).1,aC (h.l2 b q).2 k2.size⟩,h.bel.trans (k2.below z fun s q=> ?_),h.lo⟩
 ·obtain⟨q1,q2⟩:=jJ.1 q
  rcases k3 x q1 with t|t
  ·exact aj _ (h.a x (jJ.2 ⟨t,q2⟩))
  ·exact av _ (bF.2 ⟨q1,decide_eq_true t⟩)
 ·obtain⟨q1,q2⟩:=jJ.1 q
  rcases aD.1 q1 with u|u
  ·exact absurd (av _ u) q2
  ·exact h.b x (jJ.2 ⟨u,fun v=>q2 (aj _ v)⟩)
 ·have:=(E.lim h.s s (jJ.1 q).1).1;have:=h.lo.1;omega
theorem Duo.turn2 (h:Duo E D w L X F Y G d m W) (k1:D'.S Y' G m' W') (k2:Keep (off Y G) W W') (k3: ∀x∈Y',x∈Y∨W.heap.size≤x):lK E D' w L d m' W':=by
 have z:=h.bel.size;have hN: ∀y∈Y'.filter (fun y=>decide (W.heap.size≤y)),W.heap.size≤y∧y<W'.heap.size:=fun y q=>by
  obtain⟨q1,q2⟩:=bF.1 q;exact⟨of_decide_eq_true q2,(D'.lim k1 y q1).2⟩
 refine⟨_,_,Y',G,E.tQ h.s k2 (fun s q=>h.b s q) hN,k1,fun x q=> ?_,fun x q=> ?_,fun b q=>⟨aj _ (h.l1 b q).1,(h.l1 b q).2⟩,fun b q=>⟨(h.l2 b q).1,aC (h.l2 b q).2 k2.size⟩,h.bel.trans (k2.below z fun s q=> ?_),h.lo⟩
 ·obtain⟨q1,q2⟩:=jJ.1 q
  rcases aD.1 q1 with u|u
  ·exact absurd (av _ u) q2
  ·exact h.a x (jJ.2 ⟨u,fun v=>q2 (aj _ v)⟩)
 ·obtain⟨q1,q2⟩:=jJ.1 q
  rcases k3 x q1 with t|t
  ·exact aj _ (h.b x (jJ.2 ⟨t,q2⟩))
  ·exact av _ (bF.2 ⟨q1,decide_eq_true t⟩)
 ·have:=(D.lim h.t s (jJ.1 q).1).1;have:=h.lo.2;omega
end
section
variable {w w' w3 W:World} {X L:List Nat} {ev:Nat→Addr} {pd pc pz gh pdm ghm pcm pm gN e pp pq:Nat} {mn lw hi:Int} {O:List (List Int)} {d m:De} {p:Po}
theorem duo_of (hE:pY w3.heap.size ev w3) (hb:Below w.heap.size w w3) (h:DZX w3 X [] pd pc pz gh pdm ghm pcm pm gN e mn lw hi O d m w') (hm:oH e m):
 lK (envP (pd:=pd) (pc:=pc) (pz:=pz) (e:=e) (mn:=mn) (O:=O) gh lw hi hE).dr.toFEnv (envR w3 pdm ghm pcm pm gN e mn lw hi O).toFEnv w [] d m w':=by
 obtain⟨M,v,A,V,vp,U,q⟩:=h;have q1:=q.s;rw[dB] at q1;refine⟨X,rds pdm ghm pcm pm gN A M,X,off X (rds pdm ghm pcm pm gN A M),drS.of (E:=(envP (pd:=pd) (pc:=pc) (pz:=pz) (e:=e) (mn:=mn) (O:=O) gh lw hi hE).toFEnv) q1,⟨M,v,A,V,vp,U,q.r,fun f hf=>jJ.1 hf,q.s.lim,q.s.bel,hm⟩,fun x hx=>hx,fun x hx=> ?_,fun b q=>(by cases q),fun b q=>(by cases q),hb.trans (q.s.bel.mono hb.size),⟨hb.size,hb.size⟩⟩;by_cases t:x∈rds pdm ghm pcm pm gN A M
 ·exact t
 ·exact absurd (jJ.2 ⟨(jJ.1 hx).1,t⟩) (jJ.1 hx).2
end
theorem OH {B:Nat} {ev:Nat→Addr} (pages mn size:Int) (nw:Nat) (w:World) (hE:pY B ev w) (h:tJ [pages] [[0]] mn mn mn≠0∨size<1∨64<size) (n1:1≤nw) (n4:nw≤4):
 Calls Tryz.prog 8 #[.int .i64 pages,.int .i64 mn,.int .i64 size,.int .i64 nw] w fun en w'=>en= .returned (.tuple #[.pointer none,.pointer none,.bool false])∧Below w.heap.size w w':=by
 have hB:=hE.size;have F1:=(((jD.mk_ w [.int .i64 pages] 3 rfl).past (.cells #[.int .i64 0] 3)).past (.cells #[.slice (some ⟨w.heap.size+1,0,none⟩) 1 1] 59)).past (.cells #[.slice (some ⟨w.heap.size,0,none⟩) 1 1,.slice (some ⟨w.heap.size+2,0,none⟩) 1 1,.int .i64 mn,.int .i64 mn,.int .i64 mn] 98);have F2:=((jD.mk_ (w.alloc (.cells #[.int .i64 pages] 3)) [.int .i64 0] 3 (b:=w.heap.size+1) sI).past (.cells #[.slice (some ⟨w.heap.size+1,0,none⟩) 1 1] 59)).past (.cells #[.slice (some ⟨w.heap.size,0,none⟩) 1 1,.slice (some ⟨w.heap.size+2,0,none⟩) 1 1,.int .i64 mn,.int .i64 mn,.int .i64 mn] 98);have F3:=(jD.mk_ ((w.alloc (.cells #[.int .i64 pages] 3)).alloc (.cells #[.int .i64 0] 3)) [.slice (some ⟨w.heap.size+1,0,none⟩) 1 1] 59 (b:=w.heap.size+2) sI).past (.cells #[.slice (some ⟨w.heap.size,0,none⟩) 1 1,.slice (some ⟨w.heap.size+2,0,none⟩) 1 1,.int .i64 mn,.int .i64 mn,.int .i64 mn] 98);have F4:=jD.mk_ (((w.alloc (.cells #[.int .i64 pages] 3)).alloc (.cells #[.int .i64 0] 3)).alloc (.cells #[.slice (some ⟨w.heap.size+1,0,none⟩) 1 1] 59)) [.slice (some ⟨w.heap.size,0,none⟩) 1 1,.slice (some ⟨w.heap.size+2,0,none⟩) 1 1,.int .i64 mn,.int .i64 mn,.int .i64 mn] 98 (b:=w.heap.size+3) sI;have b0:Below w.heap.size w ((((w.alloc (.cells #[.int .i64 pages] 3)).alloc (.cells #[.int .i64 0] 3)).alloc (.cells #[.slice (some ⟨w.heap.size+1,0,none⟩) 1 1] 59)).alloc (.cells #[.slice (some ⟨w.heap.size,0,none⟩) 1 1,.slice (some ⟨w.heap.size+2,0,none⟩) 1 1,.int .i64 mn,.int .i64 mn,.int .i64 mn] 98)):=jK
 obtain⟨W0,hW0⟩:=eX (((((w.alloc (.cells #[.int .i64 pages] 3)).alloc (.cells #[.int .i64 0] 3)).alloc (.cells #[.slice (some ⟨w.heap.size+1,0,none⟩) 1 1] 59)).alloc (.cells #[.slice (some ⟨w.heap.size,0,none⟩) 1 1,.slice (some ⟨w.heap.size+2,0,none⟩) 1 1,.int .i64 mn,.int .i64 mn,.int .i64 mn] 98)));change jD ((((w.alloc _).alloc _).alloc _).alloc _) _ _ at F1;replace F1:jD W0 w.heap.size [.int .i64 pages]:=hW0▸F1;replace F2:jD W0 (w.heap.size+1) [.int .i64 0]:=hW0▸F2;replace F3:jD W0 (w.heap.size+2) [.slice (some ⟨w.heap.size+1,0,none⟩) 1 1]:=hW0▸F3;replace F4:jD W0 (w.heap.size+3) [.slice (some ⟨w.heap.size,0,none⟩) 1 1,.slice (some ⟨w.heap.size+2,0,none⟩) 1 1,.int .i64 mn,.int .i64 mn,.int .i64 mn]:=hW0▸F4;rw[hW0] at b0;have Iw:Cfg [] W0 (.slice (some ⟨w.heap.size,0,none⟩) 1 1) (.slice (some ⟨w.heap.size+2,0,none⟩) 1 1) [pages] [[0]]:=by
  refine⟨wD (us:=ints [pages]) (cap:=1) F1 (fun q=>by cases q) (by simp[ints]) (by unfold maxLen;omega),[.slice (some ⟨w.heap.size+1,0,none⟩) 1 1],rfl,wD (cap:=1) F3 (fun q=>by cases q) sI (by unfold maxLen;omega),fun j u xs hu hxs=> ?_⟩;cases j with
  |zero=>
   simp at hu hxs;subst hu hxs;exact wD (us:=ints [0]) (cap:=1) F2 (fun q=>by cases q) (by simp[ints]) (by unfold maxLen;omega)
  |succ j=>simp at hu
 have CE0:=D8 [] (.slice (some ⟨w.heap.size,0,none⟩) 1 1) (.slice (some ⟨w.heap.size+2,0,none⟩) 1 1) [pages] [[0]] mn mn mn W0 Iw;have HB0:=ah b0;have a0:=F4.gC 0;have a1:=F4.gC 1;have a2:=F4.gC 2;have a3:=F4.gC 3;have a4:=F4.gC 4;have al:=F4.lt;by_cases hc:tJ [pages] [[0]] mn mn mn=0
 ·rw[hc] at CE0
  have CE:=ah (show Calls Tryz.prog 43 #[.agg #[.slice (some ⟨w.heap.size,0,none⟩) 1 1,.slice (some ⟨w.heap.size+2,0,none⟩) 1 1,.int .i64 mn,.int .i64 mn,.int .i64 mn]] W0 fun e w'=>e= .returned (.int .i64 0)∧Below W0.heap.size W0 w' from CE0);have hs:=h.resolve_left (by simpa using hc);have hd:(size<1∧decide (size<1)=true)∨(¬size<1∧decide (size<1)=false∧decide (64<size)=true):=by
   by_cases h0:size<1
   ·exact .inl ⟨h0,decide_eq_true h0⟩
   ·exact .inr ⟨h0,decide_eq_false h0,decide_eq_true om⟩
  clear F1 F2 F3 F4 CE0 hc b0 Iw hE h hs;rcases hd with⟨h0,d0⟩|⟨h0,d0,d1⟩;all_goals
   go_enter Tryz.func8,Tryz.ntmps8;go_wp2_with fail;clear hW0;refine CE.out.mono ?_;rintro r w2 ⟨rfl,hb2⟩;go_wp2;exact bodyPost_ret (v:=.tuple #[.pointer none,.pointer none,.bool false]) (by simp[results,Tryz.results8,go_sem]) rfl ⟨rfl,HB0.out.trans (hb2.mono HB0.out.size)⟩
 ·obtain⟨ce,hce⟩:=eY (tJ [pages] [[0]] mn mn mn)
  rw[←hce] at CE0 hc;have hp:decide ((0:Int)<(ce:Int))=true:=decide_eq_true om;have hp0:0<ce:=om;have hp1:(0:Int)<(ce:Int):=om;have hp2:decide (0<ce)=true:=decide_eq_true hp0;have CE:=ah CE0;clear F1 F2 F3 F4 CE0 hc b0 Iw hE h hce;go_enter Tryz.func8,Tryz.ntmps8;go_wp2_with fail;clear hW0;refine CE.out.mono ?_;rintro r w2 ⟨rfl,hb2⟩;go_wp2;exact bodyPost_ret (v:=.tuple #[.pointer none,.pointer none,.bool false]) (by simp[results,Tryz.results8,go_sem]) rfl ⟨rfl,HB0.out.trans (hb2.mono HB0.out.size)⟩
section
variable {σ:Type} {w w1 W:World} {L:List Nat} {pd e pq:Nat} {mn:Int} {O:List (List Int)} {D:yO pd e mn O w1} {w0:World} {P:FEnv σ w0} {s:σ} {p:Po}
end
section
variable {σ τ:Type} {w0 w1 w W W':World} {E:FEnv σ w0} {D:FEnv τ w1} {L:List Nat} {d:σ} {m:τ} {v v':Value}
end
section
variable {w w0 w1 W:World} {L:List Nat} {pd pc pz pdm e:Nat} {mn:Int} {O:List (List Int)} {ev:Nat→Addr} {E:tu pd pc pz e mn O ev w0} {D:yO pdm e mn O w1} {τ:Type} {T:FEnv τ w1} {d:De} {m:τ} {l:List Ob} {p:Po}
theorem yE (n:Nat) (h:lK E.dr.toFEnv T w L d m W) (hn:1≤n∧n≤16) (hm:MoI e l d) (hH:0<d.H.length) (h0:(lJ mn O e 0 n d []).2.2=0):
 Calls Tryz.prog 9 #[.pointer (some ⟨pd,0,none⟩),.int .i64 0,.int .i64 n] W fun en W'=>∃pp,en= .returned (.tuple #[.pointer (some ⟨pp,0,none⟩),.nilIface])∧lK (jZ E.dr pp) T w L (sK (lJ mn O e 0 n d []).1 n (lJ mn O e 0 n d []).2.1) m W':=by
 obtain⟨X,F,Y,G,q⟩:=h;refine(Ei 0 n q.s hn hm hH).mono fun en W' hp=> ?_
 rcases hp with⟨t,_⟩|⟨_,pp,t1,t2,X',k1,k2,k3,k4⟩
 ·exact absurd h0 t
 ·exact⟨pp,t1,q.turn1 (E':=jZ E.dr pp) k1 k2 k3⟩
end
section
variable {w w0 w1 W:World} {L:List Nat} {pdm e:Nat} {mn:Int} {O:List (List Int)} {D:yO pdm e mn O w1} {σ:Type} {P:FEnv σ w0} {s:σ} {d:De} {l:List Ob}
theorem xK (n:Nat) (h:lK P D.toFEnv w L s d W) (hn:1≤n∧n≤16) (hm:MoI e l d) (hH:0<d.H.length) (h0:(lJ mn O e 0 n d []).2.2=0):
 Calls Tryz.prog 10 #[.pointer (some ⟨pdm,0,none⟩),.int .i64 0,.int .i64 n] W fun en W'=>∃pq,en= .returned (.tuple #[.pointer (some ⟨pq,0,none⟩),.int .i64 0])∧lK P (kE D pq) w L s (sK (lJ mn O e 0 n d []).1 n (lJ mn O e 0 n d []).2.1) W':=by
 obtain⟨X,F,Y,G,q⟩:=h;refine(Gi 0 n q.t hn hm hH).mono fun en W' hp=> ?_
 rcases hp with⟨t,_⟩|⟨_,pq,t1,t2,X',k1,k2,k3,k4⟩
 ·exact absurd h0 t
 ·exact⟨pq,t1,q.turn2 (D':=kE D pq) k1 k2 k3⟩
end
end Go.Proofs.YtehhldljdakgeaaGreatDoor
