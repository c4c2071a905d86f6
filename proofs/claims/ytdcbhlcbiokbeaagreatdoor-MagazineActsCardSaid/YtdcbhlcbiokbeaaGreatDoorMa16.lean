/- Lemmas and contracts for the claim's last text: RCGive, RCShrink. -/
import Derived.Test.YtdcbhlcbiokbeaaGreatDoorMa01
import Derived.Test.YtdcbhlcbiokbeaaGreatDoorMa10
import Derived.Test.YtdcbhlcbiokbeaaGreatDoorMa11
import Derived.Test.YtdcbhlcbiokbeaaGreatDoorMa15
set_option linter.unusedSimpArgs false
set_option linter.unusedVariables false
set_option maxHeartbeats 16000000
set_option maxRecDepth 100000
namespace Go.Proofs.YtdcbhlcbiokbeaaGreatDoor
section
open Go.RowKit Go.Maps
attribute [local go_sem ↓] aW aX
section
variable {X Y S M:List Nat} {w w':World} {pc pm gN e:Nat} {mn lw hi:Int} {O:List (List Int)} {v v':Value} {A A':SA} {C:List Sl} {c:Ca} {L':List Nd}
theorem RC.use (h:RC X w pc pm gN e mn lw hi O M v A c) {i:Nat} {p:Nat×Nat} {s:Sl} (hp:A[i]?=some p) (hC:c.C[i]?=some s) {k:Nat} (b:Bool) (hk:k<s.T.length):
 RC X (w.setCell ⟨p.2,k,none⟩ (.bool b)) pc pm gN e mn lw hi O M v A ⟨c.L,c.C.set i (jH s k b)⟩:=by
 have kk:Keep [p.2] w (w.setCell ⟨p.2,k,none⟩ (.bool b)):=(Keep.refl _ _).setCell (p:=⟨p.2,k,none⟩) (.inl sI) _
 have pm':=ak pc (vM hp).2
 obtain⟨n1,n2,n3⟩:=h.ne _ pm'
 exact⟨h.z.keep kk (fun s q=>by simp at q;subst q;exact .inl ⟨h.b.mem _ pm',n1,n2,n3⟩),h.b.use hp hC b hk,h.ne⟩
def Gt (X:List Nat) (pc pm gN e:Nat) (mn lw hi:Int) (O:List (List Int)) (M:List Nat) (v:Value) (A:SA) (w:World) (r:Ca×Nat) (en:Ending) (w':World):Prop:=
 en= .returned (.int .i64 r.2)∧RC X w' pc pm gN e mn lw hi O M v A r.1∧Keep (nK pc A) w w'
theorem ob_rng {s:Sl} (hI:l8 e c) (hs:s∈c.C) {k:Nat} (hk:k<s.T.length):0≤s.pg∧s.pg<256∧(0:Int)≤(k:Int)*(e:Int)∧(k:Int)*(e:Int)≤4096:=by
 obtain⟨_,_,r3,r4⟩:=hI.rng hs
 have hl:s.T.length≤64:=by rw[hI.len s hs];unfold iM;exact bU _ _
 have e2:=hI.e2
 refine⟨r3,r4,dL om om,?_⟩
 have:=dB (show k≤64 by omega) e2
 have h2:((k*e:Nat):Int)≤((64*64:Nat):Int):=om
 simpa using h2
theorem Gu (o:Ob) (h:RC X w pc pm gN e mn lw hi O M v A c) (hI:l8 e c):
 Calls Tryz.prog 26 #[.pointer (some ⟨pc,0,none⟩),.agg #[.int .i64 o.1,.int .i64 o.2]] w (Gt X pc pm gN e mn lw hi O M v A w (lJ e c o)):=by
 obtain⟨o1,o2⟩:=o
 have e1:=hI.e1
 have b1:Below w.heap.size w (w.alloc (.cells #[.int .i64 o1,.int .i64 o2] 49)):=iB
 have LO:=ah (show iy (w.alloc (.cells #[.int .i64 o1,.int .i64 o2] 49)) w.heap.size [.int .i64 o1,.int .i64 o2] from iy.mk_ w [.int .i64 o1,.int .i64 o2] 49 rfl)
 obtain⟨W1,hW1⟩: ∃W1,W1=w.alloc (.cells #[.int .i64 o1,.int .i64 o2] 49):=⟨_,rfl⟩
 rw[←hW1] at b1 LO
 have z1:=LO.out.lt
 have HC:=ah (h.below b1);have HI:=ah hI;have HB1:=ah b1
 obtain⟨q,kv,ev,kv1,kv2,hrow⟩:=HC.out.b.form
 subst ev
 have rR:=ah hrow
 have few:=hI.few
 obtain⟨n,hn⟩: ∃n,n=c.C.length:=⟨_,rfl⟩
 have EN:=ah hn
 rw[←hn] at kv1
 unfold maxLen at kv2
 have rQ:Hid (∀W,Keep (nK pc A) W1 W→∀r,RC X W pc pm gN e mn lw hi O M (.slice q c.C.length kv) A r.1→lJ e c (o1,o2)=r→Gt X pc pm gN e mn lw hi O M (.slice q c.C.length kv) A w (lJ e c (o1,o2)) (.returned (.int .i64 r.2)) W):=fun W kk r hr er=>by
  rw[er]
  exact⟨rfl,hr,(Keep.of b1).then kk⟩
 have e9: ∀(h: ∀s∈c.C,sW e (o1,o2) s=false),lJ e c (o1,o2)=(c,9):=fun h=>by unfold lJ;rw[findS_no h]
 have H9:=ah e9
 have eb:=eqO;have gb:=vg
 clear h hI b1 hn hrow e9
 go_enter Tryz.func26,Tryz.ntmps26
 go_wp2_with fail
 rw[←hW1]
 clear hW1
 go_loopw [5] (fun iv wr=>∃i:Nat,i≤n∧iv= .int .i64 i∧Hid (∀(j:Nat) (s:Sl),j<i→c.C[j]?=some s→sW e (o1,o2) s=false)∧Below W1.heap.size W1 wr) (fun iv _=>n-(intOf iv).toNat)
 case atStart=>exact⟨0,aO _,by go_num,(fun j s hj=>om),aJ _ _⟩
 case round=>
  obtain⟨i,hi,rfl,NO,hbel⟩:=hrel
  have hcR:=HC.out.b.c.go hbel
  have c1:=hcR.c 1 _ rfl;have c2:=hcR.c 2 _ rfl;have cl:=hcR.lt
  have HCR:=ah hcR
  rw[←EN.out] at c2
  clear hcR
  by_cases hlt:i<n
  ·obtain⟨s,hs⟩: ∃s,c.C[i]?=some s:=⟨c.C[i]'(by rw[←EN.out];exact hlt),au _⟩
   obtain⟨p,hp,hsl0⟩:=HC.out.b.at hs
   have HSL:=ah hsl0
   obtain⟨g,of,rfl,hg,hc0⟩:=rR.out i p hp
   have hsm:=aB hs
   have l64:s.T.length≤64:=by rw[HI.out.len s hsm];unfold iM;exact bU _ _
   have HSM:=ah hsm;have HS:=ah hs;have HP:=ah hp
   have hli:(i:Int)<(n:Int):=om
   have hl0:(0:Int)≤(i:Int):=om
   clear hs hp hsl0 hsm HCR
   have NXT:Hid ((∀k:Nat,k<s.T.length→¬(s.T[k]?=some true∧mg e s k=(o1,o2)))→∀(j:Nat) (z:Sl),j<i+1→c.C[j]?=some z→sW e (o1,o2) z=false):=fun hk j z hj hz=>by
    by_cases hji:j=i
    ·subst hji
     rw[HS.out] at hz
     obtain rfl:=aH hz
     cases hh:sW e (o1,o2) s with
     |false=>rfl
     |true=>
      obtain⟨a1,a2⟩:=(nC HI.out.e1).1 hh
      exact absurd ⟨a1,a2.symm⟩ (hk _ (aj.1 a1).1)
    ·exact NO.out j z om hz
   have HIT:Hid (∀k:Nat,s.T[k]?=some true→mg e s k=(o1,o2)→lJ e c (o1,o2)=(⟨c.L,c.C.set i (jH s k false)⟩,0)):=fun k h1 h2=>by
    have hk:=ou HI.out.e1 h2.symm
    have hh:sW e (o1,o2) s=true:=(nC HI.out.e1).2 ⟨by rw[hk];exact h1,by rw[hk];exact h2.symm⟩
    unfold lJ
    rw[findS_at HS.out hh NO.out]
    simp only[HS.out,hk]
   obtain⟨l,hll⟩: ∃l,l=s.T.length:=⟨_,rfl⟩
   have HLL:=ah hll
   rw[←hll] at l64
   clear hll NO
   have hbr:=ah hbel
   have ck0: ∀W,Below W1.heap.size W1 W→W.cell? ⟨g,of+i,none⟩=some (.pointer (some ⟨p.1,0,none⟩))∧g<W.heap.size:=fun W b=>⟨(b.cell (p:=⟨g,of+i,none⟩) hg).trans hc0,aF hg b.size⟩
   have CK:=ah ck0
   have hik:i<kv:=om
   clear ck0 hc0 hg hbel rR
   go_wp2_with fail
   clear c1 c2 cl
   go_loopw [6] (fun kvv wi=>∃k:Nat,k≤l∧kvv= .int .i64 k∧Hid (∀k':Nat,k'<k→¬(s.T[k']?=some true∧mg e s k'=(o1,o2)))∧Below W1.heap.size W1 wi) (fun kvv _=>l-(intOf kvv).toNat)
   case atStart=>exact⟨0,aO _,by go_num,(fun j hj=>om),hbr.out⟩
   case round=>
    obtain⟨k,hk,rfl,NK,hbk⟩:=hrel
    clear hbr
    obtain⟨ck,gl⟩:=CK.out _ hbk
    have hcR:=HC.out.b.c.go hbk
    have c1:=hcR.c 1 _ rfl;have c2:=hcR.c 2 _ rfl;have cl:=hcR.lt
    rw[←EN.out] at c2
    have SLR:=ah (HSL.out.below hbk)
    obtain⟨d0,d1,d2,d3,dl,dl2⟩:=SLR.out.cells
    rw[←HLL.out] at d3
    have zw:=hbk.size
    clear hcR
    by_cases hkl:k<l
    ·obtain⟨bt,hbt⟩: ∃bt,s.T[k]?=some bt:=⟨s.T[k]'(by rw[←HLL.out];exact hkl),au _⟩
     obtain⟨r1,r2,r3,r4⟩:=ob_rng HI.out HSM.out (k:=k) (by rw[←HLL.out];exact hkl)
     have ct:=SLR.out.2.c k _ (jk hbt)
     have hw1:IntKind.i64.wrap (s.pg*64)=s.pg*64:=aP _ om
     have hw2:IntKind.i64.wrap ((k:Int)*(e:Int))=(k:Int)*(e:Int):=aP _ om
     have hw3:IntKind.i64.wrap (s.pg*64+(k:Int)*(e:Int))=s.pg*64+(k:Int)*(e:Int):=aP _ om
     have hlk:(k:Int)<(l:Int):=om
     have hl0k:(0:Int)≤(k:Int):=om
     have HBT:=ah hbt;have HBK:=ah hbk
     have LOR:=LO.out.go hbk
     have o0:=LOR.c 0 _ rfl;have o01:=LOR.c 1 _ rfl;have ol:=LOR.lt
     have NE:Hid (¬(s.T[k]?=some true∧mg e s k=(o1,o2))→∀k':Nat,k'<k+1→¬(s.T[k']?=some true∧mg e s k'=(o1,o2))):=fun hn k' hk'=>by
      by_cases q:k'=k
      ·subst q;exact hn
      ·exact NK.out k' om
     clear hbt hbk LOR NK
     have fz:wr.frozen? ⟨p.2,k,none⟩=false:=SLR.out.2.f k (by rw[jJ,←HLL.out];exact hkl)
     cases bt with
     |false=>
      have NN:=ah (NE.out (fun q=>by rw[HBT.out] at q;simp at q))
      go_wp2_with fail
      refine iP (S:=(fun w'=>w'.cell? ⟨p.1,0,none⟩=some (.int .i64 s.nd)∧w'.cell? ⟨p.1,1,none⟩=some (.int .i64 s.pg)∧w'.cell? ⟨pc,1,none⟩=some (.int .i64 e)∧w'.cell? ⟨pc,2,none⟩=some (.slice (some ⟨g,of,none⟩) n kv)∧w'.cell? ⟨g,of+i,none⟩=some (.pointer (some ⟨p.1,0,none⟩)))) 33 #[false,false,false,false,false,false,false,false,false,false,false,false,false,false,false,false,false,false,false,false,false,false,false,false,false,false,false,false,false,false,false,false,false] rfl kR kR (by(try dsimp only);go_keep) (fun hHeld=> ?_)
      simp only[aV,bB]
      refine ctk (i:=0) (v:= ?_) rfl (fun _ _ _ h=>h) (Or.inl ⟨rf,?_⟩) ?_
      rotate_left
      ·(intro w hSw;(try dsimp only at hSw);go_simp<;>with_reducible rfl)
      try simp only[Act.put,pA,pZ,pS]
      refine ctk (i:=1) (v:= ?_) rfl (fun _ _ _ h=>h) (Or.inl ⟨rf,?_⟩) ?_
      rotate_left
      ·(intro w hSw;(try dsimp only at hSw);go_simp<;>with_reducible rfl)
      try simp only[Act.put,pA,pZ,pS]
      refine ctk (i:=2) (v:= ?_) rfl (fun _ _ _ h=>h) (Or.inl ⟨rf,?_⟩) ?_
      rotate_left
      ·(intro w hSw;(try dsimp only at hSw);go_simp<;>with_reducible rfl)
      try simp only[Act.put,pA,pZ,pS]
      refine ctk (i:=3) (v:= ?_) rfl (fun _ _ _ h=>h) (Or.inl ⟨rf,?_⟩) ?_
      rotate_left
      ·(intro w hSw;(try dsimp only at hSw);go_simp<;>with_reducible rfl)
      try simp only[Act.put,pA,pZ,pS]
      refine ctk (i:=4) (v:= ?_) rfl (fun _ _ _ h=>h) (Or.inl ⟨rf,?_⟩) ?_
      rotate_left
      ·(intro w hSw;(try dsimp only at hSw);go_simp<;>with_reducible rfl)
      try simp only[Act.put,pA,pZ,pS]
      refine ctk (i:=5) (v:= ?_) rfl (fun _ _ _ h=>h) (Or.inl ⟨rf,?_⟩) ?_
      rotate_left
      ·(intro w hSw;(try dsimp only at hSw);go_simp<;>with_reducible rfl)
      try simp only[Act.put,pA,pZ,pS]
      refine ctk (i:=6) (v:= ?_) rfl (fun _ _ _ h=>h) (Or.inl ⟨rf,?_⟩) ?_
      rotate_left
      ·(intro w hSw;(try dsimp only at hSw);go_simp<;>with_reducible rfl)
      try simp only[Act.put,pA,pZ,pS]
      refine ctk (i:=7) (v:= ?_) rfl (fun _ _ _ h=>h) (Or.inl ⟨rf,?_⟩) ?_
      rotate_left
      ·(intro w hSw;(try dsimp only at hSw);go_simp<;>with_reducible rfl)
      try simp only[Act.put,pA,pZ,pS]
      refine ctk (i:=8) (v:= ?_) rfl (fun _ _ _ h=>h) (Or.inl ⟨rf,?_⟩) ?_
      rotate_left
      ·(intro w hSw;(try dsimp only at hSw);go_simp<;>with_reducible rfl)
      try simp only[Act.put,pA,pZ,pS]
      refine ctk (i:=9) (v:= ?_) rfl (fun _ _ _ h=>h) (Or.inl ⟨rf,?_⟩) ?_
      rotate_left
      ·(intro w hSw;(try dsimp only at hSw);go_simp<;>with_reducible rfl)
      try simp only[Act.put,pA,pZ,pS]
      refine ctk (i:=10) (v:= ?_) rfl (fun _ _ _ h=>h) (Or.inl ⟨rf,?_⟩) ?_
      rotate_left
      ·(intro w hSw;(try dsimp only at hSw);go_simp<;>with_reducible rfl)
      try simp only[Act.put,pA,pZ,pS]
      refine ctk (i:=11) (v:= ?_) rfl (fun _ _ _ h=>h) (Or.inl ⟨rf,?_⟩) ?_
      rotate_left
      ·(intro w hSw;(try dsimp only at hSw);go_simp<;>with_reducible rfl)
      try simp only[Act.put,pA,pZ,pS]
      refine ctk (i:=12) (v:= ?_) rfl (fun _ _ _ h=>h) (Or.inl ⟨rf,?_⟩) ?_
      rotate_left
      ·(intro w hSw;(try dsimp only at hSw);go_simp<;>with_reducible rfl)
      try simp only[Act.put,pA,pZ,pS]
      refine ctk (i:=13) (v:= ?_) rfl (fun _ _ _ h=>h) (Or.inl ⟨rf,?_⟩) ?_
      rotate_left
      ·(intro w hSw;(try dsimp only at hSw);go_simp<;>with_reducible rfl)
      try simp only[Act.put,pA,pZ,pS]
      refine ctk (i:=14) (v:= ?_) rfl (fun _ _ _ h=>h) (Or.inl ⟨rf,?_⟩) ?_
      rotate_left
      ·(intro w hSw;(try dsimp only at hSw);go_simp<;>with_reducible rfl)
      try simp only[Act.put,pA,pZ,pS]
      refine ctk (i:=15) (v:= ?_) rfl (fun _ _ _ h=>h) (Or.inl ⟨rf,?_⟩) ?_
      rotate_left
      ·(intro w hSw;(try dsimp only at hSw);go_simp<;>with_reducible rfl)
      try simp only[Act.put,pA,pZ,pS]
      refine ctk (i:=16) (v:= ?_) rfl (fun _ _ _ h=>h) (Or.inl ⟨rf,?_⟩) ?_
      rotate_left
      ·(intro w hSw;(try dsimp only at hSw);go_simp<;>with_reducible rfl)
      try simp only[Act.put,pA,pZ,pS]
      refine ctk (i:=17) (v:= ?_) rfl (fun _ _ _ h=>h) (Or.inl ⟨rf,?_⟩) ?_
      rotate_left
      ·(intro w hSw;(try dsimp only at hSw);go_simp<;>with_reducible rfl)
      try simp only[Act.put,pA,pZ,pS]
      refine ctk (i:=18) (v:= ?_) rfl (fun _ _ _ h=>h) (Or.inl ⟨rf,?_⟩) ?_
      rotate_left
      ·(intro w hSw;(try dsimp only at hSw);go_simp<;>with_reducible rfl)
      try simp only[Act.put,pA,pZ,pS]
      refine ctk (i:=19) (v:= ?_) rfl (fun _ _ _ h=>h) (Or.inl ⟨rf,?_⟩) ?_
      rotate_left
      ·(intro w hSw;(try dsimp only at hSw);go_simp<;>with_reducible rfl)
      try simp only[Act.put,pA,pZ,pS]
      refine ctk (i:=20) (v:= ?_) rfl (fun _ _ _ h=>h) (Or.inl ⟨rf,?_⟩) ?_
      rotate_left
      ·(intro w hSw;(try dsimp only at hSw);go_simp<;>with_reducible rfl)
      try simp only[Act.put,pA,pZ,pS]
      refine ctk (i:=21) (v:= ?_) rfl (fun _ _ _ h=>h) (Or.inl ⟨rf,?_⟩) ?_
      rotate_left
      ·(intro w hSw;(try dsimp only at hSw);go_simp<;>with_reducible rfl)
      try simp only[Act.put,pA,pZ,pS]
      refine ctk (i:=22) (v:= ?_) rfl (fun _ _ _ h=>h) (Or.inl ⟨rf,?_⟩) ?_
      rotate_left
      ·(intro w hSw;(try dsimp only at hSw);go_simp<;>with_reducible rfl)
      try simp only[Act.put,pA,pZ,pS]
      refine ctk (i:=23) (v:= ?_) rfl (fun _ _ _ h=>h) (Or.inl ⟨rf,?_⟩) ?_
      rotate_left
      ·(intro w hSw;(try dsimp only at hSw);go_simp<;>with_reducible rfl)
      try simp only[Act.put,pA,pZ,pS]
      refine ctk (i:=24) (v:= ?_) rfl (fun _ _ _ h=>h) (Or.inl ⟨rf,?_⟩) ?_
      rotate_left
      ·(intro w hSw;(try dsimp only at hSw);go_simp<;>with_reducible rfl)
      try simp only[Act.put,pA,pZ,pS]
      refine ctk (i:=25) (v:= ?_) rfl (fun _ _ _ h=>h) (Or.inl ⟨rf,?_⟩) ?_
      rotate_left
      ·(intro w hSw;(try dsimp only at hSw);go_simp<;>with_reducible rfl)
      try simp only[Act.put,pA,pZ,pS]
      refine ctk (i:=26) (v:= ?_) rfl (fun _ _ _ h=>h) (Or.inl ⟨rf,?_⟩) ?_
      rotate_left
      ·(intro w hSw;(try dsimp only at hSw);go_simp<;>with_reducible rfl)
      try simp only[Act.put,pA,pZ,pS]
      refine ctk (i:=27) (v:= ?_) rfl (fun _ _ _ h=>h) (Or.inl ⟨rf,?_⟩) ?_
      rotate_left
      ·(intro w hSw;(try dsimp only at hSw);go_simp<;>with_reducible rfl)
      try simp only[Act.put,pA,pZ,pS]
      refine ctk (i:=28) (v:= ?_) rfl (fun _ _ _ h=>h) (Or.inl ⟨rf,?_⟩) ?_
      rotate_left
      ·(intro w hSw;(try dsimp only at hSw);go_simp<;>with_reducible rfl)
      try simp only[Act.put,pA,pZ,pS]
      refine ctk (i:=29) (v:= ?_) rfl (fun _ _ _ h=>h) (Or.inl ⟨rf,?_⟩) ?_
      rotate_left
      ·(intro w hSw;(try dsimp only at hSw);go_simp<;>with_reducible rfl)
      try simp only[Act.put,pA,pZ,pS]
      refine ctk (i:=30) (v:= ?_) rfl (fun _ _ _ h=>h) (Or.inl ⟨rf,?_⟩) ?_
      rotate_left
      ·(intro w hSw;(try dsimp only at hSw);go_simp<;>with_reducible rfl)
      try simp only[Act.put,pA,pZ,pS]
      refine ctk (i:=31) (v:= ?_) rfl (fun _ _ _ h=>h) (Or.inl ⟨rf,?_⟩) ?_
      rotate_left
      ·(intro w hSw;(try dsimp only at hSw);go_simp<;>with_reducible rfl)
      try simp only[Act.put,pA,pZ,pS]
      refine wpAnyH_ready (rs:=[32]) kR sI ?_
      refine aY (iH rfl) (fun K hK=> ?_) bC
      go_simp
      refine hK.out _ _ (by(try dsimp only);go_keep) (fun hHeld=> ?_)
      clear hK K
      try simp only[Act.put,pA,pZ,pS]
      refine wpAnyH_done kR ?_ _
      simp only[nR,aS,bq]
      go_wp2_with fail
      go_round
      case rel=>exact⟨k+1,om,by go_num,NN,HBK.out.trans iB⟩
      case measure=>simp[intOf];omega
     |true=>
      by_cases hh:s.nd=o1∧s.pg*64+(k:Int)*(e:Int)=o2
      ·have hq:(s.nd==o1&&s.pg*64+(k:Int)*(e:Int)==o2)=true:=by simp[hh.1,hh.2]
       have ho:mg e s k=(o1,o2):=Prod.ext hh.1 hh.2
       have GC:=ah (HIT.out k HBT.out ho)
       have R5:=ah ((HC.out.below HBK.out).use HP.out HS.out (k:=k) false (by rw[←HLL.out];exact hkl))
       have K5:Hid (Keep (nK pc A) W1 (wr.setCell ⟨p.2,k,none⟩ (.bool false))):=(Keep.of HBK.out).setCell (p:=⟨p.2,k,none⟩) (.inl (ak _ (vM HP.out).2)) _
       clear hh ho
       go_wp2_with fail
       refine iP (S:=(fun w'=>w'.cell? ⟨p.1,0,none⟩=some (.int .i64 s.nd)∧w'.cell? ⟨p.1,1,none⟩=some (.int .i64 s.pg)∧w'.cell? ⟨pc,1,none⟩=some (.int .i64 e)∧w'.cell? ⟨pc,2,none⟩=some (.slice (some ⟨g,of,none⟩) n kv)∧w'.cell? ⟨g,of+i,none⟩=some (.pointer (some ⟨p.1,0,none⟩)))) 33 #[false,false,false,false,false,false,false,false,false,false,false,false,false,false,false,false,false,false,false,false,false,false,false,false,false,false,false,false,false,false,false,false,false] rfl kR kR (by(try dsimp only);go_keep) (fun hHeld=> ?_)
       simp only[aV,bB]
       refine ctk (i:=0) (v:= ?_) rfl (fun _ _ _ h=>h) (Or.inl ⟨rf,?_⟩) ?_
       rotate_left
       ·(intro w hSw;(try dsimp only at hSw);go_simp<;>with_reducible rfl)
       try simp only[Act.put,pA,pZ,pS]
       refine ctk (i:=1) (v:= ?_) rfl (fun _ _ _ h=>h) (Or.inl ⟨rf,?_⟩) ?_
       rotate_left
       ·(intro w hSw;(try dsimp only at hSw);go_simp<;>with_reducible rfl)
       try simp only[Act.put,pA,pZ,pS]
       refine ctk (i:=2) (v:= ?_) rfl (fun _ _ _ h=>h) (Or.inl ⟨rf,?_⟩) ?_
       rotate_left
       ·(intro w hSw;(try dsimp only at hSw);go_simp<;>with_reducible rfl)
       try simp only[Act.put,pA,pZ,pS]
       refine ctk (i:=3) (v:= ?_) rfl (fun _ _ _ h=>h) (Or.inl ⟨rf,?_⟩) ?_
       rotate_left
       ·(intro w hSw;(try dsimp only at hSw);go_simp<;>with_reducible rfl)
       try simp only[Act.put,pA,pZ,pS]
       refine ctk (i:=4) (v:= ?_) rfl (fun _ _ _ h=>h) (Or.inl ⟨rf,?_⟩) ?_
       rotate_left
       ·(intro w hSw;(try dsimp only at hSw);go_simp<;>with_reducible rfl)
       try simp only[Act.put,pA,pZ,pS]
       refine ctk (i:=5) (v:= ?_) rfl (fun _ _ _ h=>h) (Or.inl ⟨rf,?_⟩) ?_
       rotate_left
       ·(intro w hSw;(try dsimp only at hSw);go_simp<;>with_reducible rfl)
       try simp only[Act.put,pA,pZ,pS]
       refine ctk (i:=6) (v:= ?_) rfl (fun _ _ _ h=>h) (Or.inl ⟨rf,?_⟩) ?_
       rotate_left
       ·(intro w hSw;(try dsimp only at hSw);go_simp<;>with_reducible rfl)
       try simp only[Act.put,pA,pZ,pS]
       refine ctk (i:=7) (v:= ?_) rfl (fun _ _ _ h=>h) (Or.inl ⟨rf,?_⟩) ?_
       rotate_left
       ·(intro w hSw;(try dsimp only at hSw);go_simp<;>with_reducible rfl)
       try simp only[Act.put,pA,pZ,pS]
       refine ctk (i:=8) (v:= ?_) rfl (fun _ _ _ h=>h) (Or.inl ⟨rf,?_⟩) ?_
       rotate_left
       ·(intro w hSw;(try dsimp only at hSw);go_simp<;>with_reducible rfl)
       try simp only[Act.put,pA,pZ,pS]
       refine ctk (i:=9) (v:= ?_) rfl (fun _ _ _ h=>h) (Or.inl ⟨rf,?_⟩) ?_
       rotate_left
       ·(intro w hSw;(try dsimp only at hSw);go_simp<;>with_reducible rfl)
       try simp only[Act.put,pA,pZ,pS]
       refine ctk (i:=10) (v:= ?_) rfl (fun _ _ _ h=>h) (Or.inl ⟨rf,?_⟩) ?_
       rotate_left
       ·(intro w hSw;(try dsimp only at hSw);go_simp<;>with_reducible rfl)
       try simp only[Act.put,pA,pZ,pS]
       refine ctk (i:=11) (v:= ?_) rfl (fun _ _ _ h=>h) (Or.inl ⟨rf,?_⟩) ?_
       rotate_left
       ·(intro w hSw;(try dsimp only at hSw);go_simp<;>with_reducible rfl)
       try simp only[Act.put,pA,pZ,pS]
       refine ctk (i:=12) (v:= ?_) rfl (fun _ _ _ h=>h) (Or.inl ⟨rf,?_⟩) ?_
       rotate_left
       ·(intro w hSw;(try dsimp only at hSw);go_simp<;>with_reducible rfl)
       try simp only[Act.put,pA,pZ,pS]
       refine ctk (i:=13) (v:= ?_) rfl (fun _ _ _ h=>h) (Or.inl ⟨rf,?_⟩) ?_
       rotate_left
       ·(intro w hSw;(try dsimp only at hSw);go_simp<;>with_reducible rfl)
       try simp only[Act.put,pA,pZ,pS]
       refine ctk (i:=14) (v:= ?_) rfl (fun _ _ _ h=>h) (Or.inl ⟨rf,?_⟩) ?_
       rotate_left
       ·(intro w hSw;(try dsimp only at hSw);go_simp<;>with_reducible rfl)
       try simp only[Act.put,pA,pZ,pS]
       refine ctk (i:=15) (v:= ?_) rfl (fun _ _ _ h=>h) (Or.inl ⟨rf,?_⟩) ?_
       rotate_left
       ·(intro w hSw;(try dsimp only at hSw);go_simp<;>with_reducible rfl)
       try simp only[Act.put,pA,pZ,pS]
       refine ctk (i:=16) (v:= ?_) rfl (fun _ _ _ h=>h) (Or.inl ⟨rf,?_⟩) ?_
       rotate_left
       ·(intro w hSw;(try dsimp only at hSw);go_simp<;>with_reducible rfl)
       try simp only[Act.put,pA,pZ,pS]
       refine ctk (i:=17) (v:= ?_) rfl (fun _ _ _ h=>h) (Or.inl ⟨rf,?_⟩) ?_
       rotate_left
       ·(intro w hSw;(try dsimp only at hSw);go_simp<;>with_reducible rfl)
       try simp only[Act.put,pA,pZ,pS]
       refine ctk (i:=18) (v:= ?_) rfl (fun _ _ _ h=>h) (Or.inl ⟨rf,?_⟩) ?_
       rotate_left
       ·(intro w hSw;(try dsimp only at hSw);go_simp<;>with_reducible rfl)
       try simp only[Act.put,pA,pZ,pS]
       refine ctk (i:=19) (v:= ?_) rfl (fun _ _ _ h=>h) (Or.inl ⟨rf,?_⟩) ?_
       rotate_left
       ·(intro w hSw;(try dsimp only at hSw);go_simp<;>with_reducible rfl)
       try simp only[Act.put,pA,pZ,pS]
       refine ctk (i:=20) (v:= ?_) rfl (fun _ _ _ h=>h) (Or.inl ⟨rf,?_⟩) ?_
       rotate_left
       ·(intro w hSw;(try dsimp only at hSw);go_simp<;>with_reducible rfl)
       try simp only[Act.put,pA,pZ,pS]
       refine ctk (i:=21) (v:= ?_) rfl (fun _ _ _ h=>h) (Or.inl ⟨rf,?_⟩) ?_
       rotate_left
       ·(intro w hSw;(try dsimp only at hSw);go_simp<;>with_reducible rfl)
       try simp only[Act.put,pA,pZ,pS]
       refine ctk (i:=22) (v:= ?_) rfl (fun _ _ _ h=>h) (Or.inl ⟨rf,?_⟩) ?_
       rotate_left
       ·(intro w hSw;(try dsimp only at hSw);go_simp<;>with_reducible rfl)
       try simp only[Act.put,pA,pZ,pS]
       refine ctk (i:=23) (v:= ?_) rfl (fun _ _ _ h=>h) (Or.inl ⟨rf,?_⟩) ?_
       rotate_left
       ·(intro w hSw;(try dsimp only at hSw);go_simp<;>with_reducible rfl)
       try simp only[Act.put,pA,pZ,pS]
       refine ctk (i:=24) (v:= ?_) rfl (fun _ _ _ h=>h) (Or.inl ⟨rf,?_⟩) ?_
       rotate_left
       ·(intro w hSw;(try dsimp only at hSw);go_simp<;>with_reducible rfl)
       try simp only[Act.put,pA,pZ,pS]
       refine ctk (i:=25) (v:= ?_) rfl (fun _ _ _ h=>h) (Or.inl ⟨rf,?_⟩) ?_
       rotate_left
       ·(intro w hSw;(try dsimp only at hSw);go_simp<;>with_reducible rfl)
       try simp only[Act.put,pA,pZ,pS]
       refine ctk (i:=26) (v:= ?_) rfl (fun _ _ _ h=>h) (Or.inl ⟨rf,?_⟩) ?_
       rotate_left
       ·(intro w hSw;(try dsimp only at hSw);go_simp<;>with_reducible rfl)
       try simp only[Act.put,pA,pZ,pS]
       refine ctk (i:=27) (v:= ?_) rfl (fun _ _ _ h=>h) (Or.inl ⟨rf,?_⟩) ?_
       rotate_left
       ·(intro w hSw;(try dsimp only at hSw);go_simp<;>with_reducible rfl)
       try simp only[Act.put,pA,pZ,pS]
       refine ctk (i:=28) (v:= ?_) rfl (fun _ _ _ h=>h) (Or.inl ⟨rf,?_⟩) ?_
       rotate_left
       ·(intro w hSw;(try dsimp only at hSw);go_simp<;>with_reducible rfl)
       try simp only[Act.put,pA,pZ,pS]
       refine ctk (i:=29) (v:= ?_) rfl (fun _ _ _ h=>h) (Or.inl ⟨rf,?_⟩) ?_
       rotate_left
       ·(intro w hSw;(try dsimp only at hSw);go_simp<;>with_reducible rfl)
       try simp only[Act.put,pA,pZ,pS]
       refine ctk (i:=30) (v:= ?_) rfl (fun _ _ _ h=>h) (Or.inl ⟨rf,?_⟩) ?_
       rotate_left
       ·(intro w hSw;(try dsimp only at hSw);go_simp<;>with_reducible rfl)
       try simp only[Act.put,pA,pZ,pS]
       refine ctk (i:=31) (v:= ?_) rfl (fun _ _ _ h=>h) (Or.inl ⟨rf,?_⟩) ?_
       rotate_left
       ·(intro w hSw;(try dsimp only at hSw);go_simp<;>with_reducible rfl)
       try simp only[Act.put,pA,pZ,pS]
       refine wpAnyH_ready (rs:=[32]) kR sI ?_
       refine aY (iH rfl) (fun K hK=> ?_) bC
       go_simp
       refine hK.out _ _ (by(try dsimp only);go_keep) (fun hHeld=> ?_)
       clear hK K
       try simp only[Act.put,pA,pZ,pS]
       refine wpAnyH_done kR ?_ _
       simp only[nR,aS,bq]
       go_wp2
       go_ret
       exact rQ.out _ (K5.out.alloc _).drew _ (R5.out.below iB) GC.out
      ·have hq:(s.nd==o1&&s.pg*64+(k:Int)*(e:Int)==o2)=false:=by
        cases ha:(s.nd==o1&&s.pg*64+(k:Int)*(e:Int)==o2) with
        |false=>rfl
        |true=>simp at ha;exact absurd ha hh
       have NN:=ah (NE.out (fun q=>hh ⟨congrArg Prod.fst q.2,congrArg Prod.snd q.2⟩))
       clear hh
       go_wp2_with fail
       refine iP (S:=(fun w'=>w'.cell? ⟨p.1,0,none⟩=some (.int .i64 s.nd)∧w'.cell? ⟨p.1,1,none⟩=some (.int .i64 s.pg)∧w'.cell? ⟨pc,1,none⟩=some (.int .i64 e)∧w'.cell? ⟨pc,2,none⟩=some (.slice (some ⟨g,of,none⟩) n kv)∧w'.cell? ⟨g,of+i,none⟩=some (.pointer (some ⟨p.1,0,none⟩)))) 33 #[false,false,false,false,false,false,false,false,false,false,false,false,false,false,false,false,false,false,false,false,false,false,false,false,false,false,false,false,false,false,false,false,false] rfl kR kR (by(try dsimp only);go_keep) (fun hHeld=> ?_)
       simp only[aV,bB]
       refine ctk (i:=0) (v:= ?_) rfl (fun _ _ _ h=>h) (Or.inl ⟨rf,?_⟩) ?_
       rotate_left
       ·(intro w hSw;(try dsimp only at hSw);go_simp<;>with_reducible rfl)
       try simp only[Act.put,pA,pZ,pS]
       refine ctk (i:=1) (v:= ?_) rfl (fun _ _ _ h=>h) (Or.inl ⟨rf,?_⟩) ?_
       rotate_left
       ·(intro w hSw;(try dsimp only at hSw);go_simp<;>with_reducible rfl)
       try simp only[Act.put,pA,pZ,pS]
       refine ctk (i:=2) (v:= ?_) rfl (fun _ _ _ h=>h) (Or.inl ⟨rf,?_⟩) ?_
       rotate_left
       ·(intro w hSw;(try dsimp only at hSw);go_simp<;>with_reducible rfl)
       try simp only[Act.put,pA,pZ,pS]
       refine ctk (i:=3) (v:= ?_) rfl (fun _ _ _ h=>h) (Or.inl ⟨rf,?_⟩) ?_
       rotate_left
       ·(intro w hSw;(try dsimp only at hSw);go_simp<;>with_reducible rfl)
       try simp only[Act.put,pA,pZ,pS]
       refine ctk (i:=4) (v:= ?_) rfl (fun _ _ _ h=>h) (Or.inl ⟨rf,?_⟩) ?_
       rotate_left
       ·(intro w hSw;(try dsimp only at hSw);go_simp<;>with_reducible rfl)
       try simp only[Act.put,pA,pZ,pS]
       refine ctk (i:=5) (v:= ?_) rfl (fun _ _ _ h=>h) (Or.inl ⟨rf,?_⟩) ?_
       rotate_left
       ·(intro w hSw;(try dsimp only at hSw);go_simp<;>with_reducible rfl)
       try simp only[Act.put,pA,pZ,pS]
       refine ctk (i:=6) (v:= ?_) rfl (fun _ _ _ h=>h) (Or.inl ⟨rf,?_⟩) ?_
       rotate_left
       ·(intro w hSw;(try dsimp only at hSw);go_simp<;>with_reducible rfl)
       try simp only[Act.put,pA,pZ,pS]
       refine ctk (i:=7) (v:= ?_) rfl (fun _ _ _ h=>h) (Or.inl ⟨rf,?_⟩) ?_
       rotate_left
       ·(intro w hSw;(try dsimp only at hSw);go_simp<;>with_reducible rfl)
       try simp only[Act.put,pA,pZ,pS]
       refine ctk (i:=8) (v:= ?_) rfl (fun _ _ _ h=>h) (Or.inl ⟨rf,?_⟩) ?_
       rotate_left
       ·(intro w hSw;(try dsimp only at hSw);go_simp<;>with_reducible rfl)
       try simp only[Act.put,pA,pZ,pS]
       refine ctk (i:=9) (v:= ?_) rfl (fun _ _ _ h=>h) (Or.inl ⟨rf,?_⟩) ?_
       rotate_left
       ·(intro w hSw;(try dsimp only at hSw);go_simp<;>with_reducible rfl)
       try simp only[Act.put,pA,pZ,pS]
       refine ctk (i:=10) (v:= ?_) rfl (fun _ _ _ h=>h) (Or.inl ⟨rf,?_⟩) ?_
       rotate_left
       ·(intro w hSw;(try dsimp only at hSw);go_simp<;>with_reducible rfl)
       try simp only[Act.put,pA,pZ,pS]
       refine ctk (i:=11) (v:= ?_) rfl (fun _ _ _ h=>h) (Or.inl ⟨rf,?_⟩) ?_
       rotate_left
       ·(intro w hSw;(try dsimp only at hSw);go_simp<;>with_reducible rfl)
       try simp only[Act.put,pA,pZ,pS]
       refine ctk (i:=12) (v:= ?_) rfl (fun _ _ _ h=>h) (Or.inl ⟨rf,?_⟩) ?_
       rotate_left
       ·(intro w hSw;(try dsimp only at hSw);go_simp<;>with_reducible rfl)
       try simp only[Act.put,pA,pZ,pS]
       refine ctk (i:=13) (v:= ?_) rfl (fun _ _ _ h=>h) (Or.inl ⟨rf,?_⟩) ?_
       rotate_left
       ·(intro w hSw;(try dsimp only at hSw);go_simp<;>with_reducible rfl)
       try simp only[Act.put,pA,pZ,pS]
       refine ctk (i:=14) (v:= ?_) rfl (fun _ _ _ h=>h) (Or.inl ⟨rf,?_⟩) ?_
       rotate_left
       ·(intro w hSw;(try dsimp only at hSw);go_simp<;>with_reducible rfl)
       try simp only[Act.put,pA,pZ,pS]
       refine ctk (i:=15) (v:= ?_) rfl (fun _ _ _ h=>h) (Or.inl ⟨rf,?_⟩) ?_
       rotate_left
       ·(intro w hSw;(try dsimp only at hSw);go_simp<;>with_reducible rfl)
       try simp only[Act.put,pA,pZ,pS]
       refine ctk (i:=16) (v:= ?_) rfl (fun _ _ _ h=>h) (Or.inl ⟨rf,?_⟩) ?_
       rotate_left
       ·(intro w hSw;(try dsimp only at hSw);go_simp<;>with_reducible rfl)
       try simp only[Act.put,pA,pZ,pS]
       refine ctk (i:=17) (v:= ?_) rfl (fun _ _ _ h=>h) (Or.inl ⟨rf,?_⟩) ?_
       rotate_left
       ·(intro w hSw;(try dsimp only at hSw);go_simp<;>with_reducible rfl)
       try simp only[Act.put,pA,pZ,pS]
       refine ctk (i:=18) (v:= ?_) rfl (fun _ _ _ h=>h) (Or.inl ⟨rf,?_⟩) ?_
       rotate_left
       ·(intro w hSw;(try dsimp only at hSw);go_simp<;>with_reducible rfl)
       try simp only[Act.put,pA,pZ,pS]
       refine ctk (i:=19) (v:= ?_) rfl (fun _ _ _ h=>h) (Or.inl ⟨rf,?_⟩) ?_
       rotate_left
       ·(intro w hSw;(try dsimp only at hSw);go_simp<;>with_reducible rfl)
       try simp only[Act.put,pA,pZ,pS]
       refine ctk (i:=20) (v:= ?_) rfl (fun _ _ _ h=>h) (Or.inl ⟨rf,?_⟩) ?_
       rotate_left
       ·(intro w hSw;(try dsimp only at hSw);go_simp<;>with_reducible rfl)
       try simp only[Act.put,pA,pZ,pS]
       refine ctk (i:=21) (v:= ?_) rfl (fun _ _ _ h=>h) (Or.inl ⟨rf,?_⟩) ?_
       rotate_left
       ·(intro w hSw;(try dsimp only at hSw);go_simp<;>with_reducible rfl)
       try simp only[Act.put,pA,pZ,pS]
       refine ctk (i:=22) (v:= ?_) rfl (fun _ _ _ h=>h) (Or.inl ⟨rf,?_⟩) ?_
       rotate_left
       ·(intro w hSw;(try dsimp only at hSw);go_simp<;>with_reducible rfl)
       try simp only[Act.put,pA,pZ,pS]
       refine ctk (i:=23) (v:= ?_) rfl (fun _ _ _ h=>h) (Or.inl ⟨rf,?_⟩) ?_
       rotate_left
       ·(intro w hSw;(try dsimp only at hSw);go_simp<;>with_reducible rfl)
       try simp only[Act.put,pA,pZ,pS]
       refine ctk (i:=24) (v:= ?_) rfl (fun _ _ _ h=>h) (Or.inl ⟨rf,?_⟩) ?_
       rotate_left
       ·(intro w hSw;(try dsimp only at hSw);go_simp<;>with_reducible rfl)
       try simp only[Act.put,pA,pZ,pS]
       refine ctk (i:=25) (v:= ?_) rfl (fun _ _ _ h=>h) (Or.inl ⟨rf,?_⟩) ?_
       rotate_left
       ·(intro w hSw;(try dsimp only at hSw);go_simp<;>with_reducible rfl)
       try simp only[Act.put,pA,pZ,pS]
       refine ctk (i:=26) (v:= ?_) rfl (fun _ _ _ h=>h) (Or.inl ⟨rf,?_⟩) ?_
       rotate_left
       ·(intro w hSw;(try dsimp only at hSw);go_simp<;>with_reducible rfl)
       try simp only[Act.put,pA,pZ,pS]
       refine ctk (i:=27) (v:= ?_) rfl (fun _ _ _ h=>h) (Or.inl ⟨rf,?_⟩) ?_
       rotate_left
       ·(intro w hSw;(try dsimp only at hSw);go_simp<;>with_reducible rfl)
       try simp only[Act.put,pA,pZ,pS]
       refine ctk (i:=28) (v:= ?_) rfl (fun _ _ _ h=>h) (Or.inl ⟨rf,?_⟩) ?_
       rotate_left
       ·(intro w hSw;(try dsimp only at hSw);go_simp<;>with_reducible rfl)
       try simp only[Act.put,pA,pZ,pS]
       refine ctk (i:=29) (v:= ?_) rfl (fun _ _ _ h=>h) (Or.inl ⟨rf,?_⟩) ?_
       rotate_left
       ·(intro w hSw;(try dsimp only at hSw);go_simp<;>with_reducible rfl)
       try simp only[Act.put,pA,pZ,pS]
       refine ctk (i:=30) (v:= ?_) rfl (fun _ _ _ h=>h) (Or.inl ⟨rf,?_⟩) ?_
       rotate_left
       ·(intro w hSw;(try dsimp only at hSw);go_simp<;>with_reducible rfl)
       try simp only[Act.put,pA,pZ,pS]
       refine ctk (i:=31) (v:= ?_) rfl (fun _ _ _ h=>h) (Or.inl ⟨rf,?_⟩) ?_
       rotate_left
       ·(intro w hSw;(try dsimp only at hSw);go_simp<;>with_reducible rfl)
       try simp only[Act.put,pA,pZ,pS]
       refine wpAnyH_ready (rs:=[32]) kR sI ?_
       refine aY (iH rfl) (fun K hK=> ?_) bC
       go_simp
       refine hK.out _ _ (by(try dsimp only);go_keep) (fun hHeld=> ?_)
       clear hK K
       try simp only[Act.put,pA,pZ,pS]
       refine wpAnyH_done kR ?_ _
       simp only[nR,aS,bq]
       go_wp2_with fail
       go_round
       case rel=>exact⟨k+1,om,by go_num,NN,HBK.out.trans iB⟩
       case measure=>simp[intOf];omega
    ·obtain rfl:k=l:=by omega
     have NN:=ah (NXT.out (fun k' hk'=>NK.out k' (by rw[HLL.out];exact hk')))
     clear NK
     go_wp2_with fail
     go_round
     case rel=>exact⟨i+1,om,by go_num,NN,hbk⟩
     case measure=>simp[intOf];omega
  ·obtain rfl:i=n:=by omega
   have E9:=ah (H9.out (fun s hs=>by
    obtain⟨j,hj⟩:=bR hs
    exact NO.out j s (by rw[EN.out];exact(aj.1 hj).1) hj))
   have HBR:=ah hbel
   clear NO hbel
   go_wp2
   go_ret
   exact rQ.out _ (Keep.of HBR.out) _ (HC.out.below HBR.out) E9.out
end
end
section
open Go.RowKit Go.Maps
attribute [local go_sem ↓] aW aX
theorem tK:El 45 215 (.pointer none) 8:=⟨Tryz.underlying45,kR,rfl,om⟩
theorem iT {T E:TypeId} {z:Value} {b:Nat} (hE:El T E z b) {base:Nat} {v:Value} {us ms:List Value} {w:World} {p:Option Addr} {c:Nat} {ops:Array Oper} {rest:List Oper} {o:Oper} {a:Act} {Q:Exit→Act→World→Prop} (hgd:o.guard=none) (s x:Operand)
 (ho:o.op= .call {callee:=.builtin .append,args:=#[s,x],argTypes:=#[T,T]}) (hv:a.eval s=v) (un mn:Nat) (hx:a.eval x= .slice p mn c) (hun:us.length=un) (hmn:ms.length=mn)
 (hown:w.ownsRow base E 1 v un us) (hs:rY w p ms) (h1: ∀u∈ms,u.oneCell'=true) (hl:un+mn≤65536) (hb:base≤w.heap.size)
 (h: ∀q k w',w'.ownsRow base E 1 (.slice q (un+mn) k) (un+mn) (us++ms)→w.grownBy w' v.ownBlock→((Value.slice q (un+mn) k).ownBlock=v.ownBlock∨(Value.slice q (un+mn) k).ownBlock=some w.heap.size)→wpList Tryz.prog ops Q rest (a.put o.dst (.slice q (un+mn) k)) w'):wpList Tryz.prog ops Q (o::rest) a w:=by
 refine mH hE hgd s x ho hv mn hx hmn (by rw[hun];exact hown) hs h1 (by rw[hun,hmn];exact hl) hb fun q k w' h2 h3 h4=> ?_
 rw[aU,hun,hmn] at h2 h4 ⊢
 exact h q k w' h2 h3 h4
section
variable {X Y S M:List Nat} {w w':World} {pc pm gN e:Nat} {mn lw hi:Int} {O:List (List Int)} {v v':Value} {A A':SA} {C:List Sl} {c:Ca} {L':List Nd}
def RShPost (X:List Nat) (pc pm gN e:Nat) (mn lw hi:Int) (O:List (List Int)) (M:List Nat) (A:SA) (w:World) (r:Ca×Nat) (en:Ending) (w':World):Prop:=
 en= .returned (.int .i64 r.2)∧∃v' A',RC X w' pc pm gN e mn lw hi O M v' A' r.1∧Keep (pc::M) w w'∧∀y∈ay A',y∈ay A
end
end
end Go.Proofs.YtdcbhlcbiokbeaaGreatDoor
