/- Lemmas and contracts for the claim's last text: RCGive, RCShrink. -/
import Derived.Test.YtdcbhlcbiokbeaaGreatDoorSa01
import Derived.Test.YtdcbhlcbiokbeaaGreatDoorSa13
set_option linter.unusedSimpArgs false
set_option linter.unusedVariables false
set_option maxHeartbeats 16000000
set_option maxRecDepth 100000
namespace Go.Proofs.YtdcbhlcbiokbeaaGreatDoor
section
open Go.RowKit Go.Maps
attribute [local go_sem ↓] bA bB
section
variable {X Y S M:List Nat} {w w':World} {pc pm gN e:Nat} {mn lw hi:Int} {O:List (List Int)} {v v':Value} {A A':SA} {C:List Sl} {c:Ca} {L':List Nd}
theorem RC.use (h:RC X w pc pm gN e mn lw hi O M v A c) {i:Nat} {p:Nat×Nat} {s:Sl} (hp:A[i]?=some p) (hC:c.C[i]?=some s) {k:Nat} (b:Bool) (hk:k<s.T.length):
 RC X (w.setCell ⟨p.2,k,none⟩ (.bool b)) pc pm gN e mn lw hi O M v A ⟨c.L,c.C.set i (jc s k b)⟩:=by
 have kk:Keep [p.2] w (w.setCell ⟨p.2,k,none⟩ (.bool b)):=(Keep.refl _ _).setCell (p:=⟨p.2,k,none⟩) (.inl sI) _
 have pm':=aj pc (sM hp).2
 obtain⟨n1,n2,n3⟩:=h.ne _ pm'
 exact⟨h.z.keep kk (fun s q=>by simp at q;subst q;exact .inl ⟨h.b.mem _ pm',n1,n2,n3⟩),h.b.use hp hC b hk,h.ne⟩
def DX (X:List Nat) (pc pm gN e:Nat) (mn lw hi:Int) (O:List (List Int)) (M:List Nat) (v:Value) (A:SA) (w:World) (r:Ca×Nat) (en:Ending) (w':World):Prop:=
 en= .returned (.int .i64 r.2)∧RC X w' pc pm gN e mn lw hi O M v A r.1∧Keep (vO pc A) w w'
theorem ob_rng {s:Sl} (hI:jD e c) (hs:s∈c.C) {k:Nat} (hk:k<s.T.length):0≤s.pg∧s.pg<256∧(0:Int)≤(k:Int)*(e:Int)∧(k:Int)*(e:Int)≤4096:=by
 obtain⟨_,_,r3,r4⟩:=hI.rng hs
 have hl:s.T.length≤64:=by rw[hI.len s hs];unfold gP;exact bP _ _
 have e2:=hI.e2
 refine⟨r3,r4,dW om om,?_⟩
 have:=dH (show k≤64 by omega) e2
 have h2:((k*e:Nat):Int)≤((64*64:Nat):Int):=om
 simpa using h2
theorem DY (o:Ob) (h:RC X w pc pm gN e mn lw hi O M v A c) (hI:jD e c):
 Calls Tryz.prog 26 #[.pointer (some ⟨pc,0,none⟩),.agg #[.int .i64 o.1,.int .i64 o.2]] w (DX X pc pm gN e mn lw hi O M v A w (jB e c o)):=by
 obtain⟨o1,o2⟩:=o
 have e1:=hI.e1
 have b1:Below w.heap.size w (w.alloc (.cells #[.int .i64 o1,.int .i64 o2] 49)):=gI
 have LO:=ah (show gH (w.alloc (.cells #[.int .i64 o1,.int .i64 o2] 49)) w.heap.size [.int .i64 o1,.int .i64 o2] from gH.mk_ w [.int .i64 o1,.int .i64 o2] 49 rfl)
 obtain⟨W1,hW1⟩: ∃W1,W1=w.alloc (.cells #[.int .i64 o1,.int .i64 o2] 49):=⟨_,rfl⟩
 rw[←hW1] at b1 LO
 have z1:=LO.out.lt
 have HC:=ah (h.below b1);have HI:=ah hI;have HB1:=ah b1
 obtain⟨q,kv,ev,kv1,kv2,hrow⟩:=HC.out.b.form
 subst ev
 have qI:=ah hrow
 have few:=hI.few
 obtain⟨n,hn⟩: ∃n,n=c.C.length:=⟨_,rfl⟩
 have EN:=ah hn
 rw[←hn] at kv1
 unfold maxLen at kv2
 have HFIN:Hid (∀W,Keep (vO pc A) W1 W→∀r,RC X W pc pm gN e mn lw hi O M (.slice q c.C.length kv) A r.1→jB e c (o1,o2)=r→DX X pc pm gN e mn lw hi O M (.slice q c.C.length kv) A w (jB e c (o1,o2)) (.returned (.int .i64 r.2)) W):=fun W kk r hr er=>by
  rw[er]
  exact⟨rfl,hr,(Keep.of b1).then kk⟩
 have e9: ∀(h: ∀s∈c.C,rY e (o1,o2) s=false),jB e c (o1,o2)=(c,9):=fun h=>by unfold jB;rw[findS_no h]
 have H9:=ah e9
 have eb:=eqO;have gb:=zX
 clear h hI b1 hn hrow e9
 go_enter Tryz.func26,Tryz.ntmps26
 go_wp2_with fail
 rw[←hW1]
 clear hW1
 go_loopw [5] (fun iv wr=>∃i:Nat,i≤n∧iv= .int .i64 i∧Hid (∀(j:Nat) (s:Sl),j<i→c.C[j]?=some s→rY e (o1,o2) s=false)∧Below W1.heap.size W1 wr) (fun iv _=>n-(intOf iv).toNat)
 case atStart=>exact⟨0,aQ _,by go_num,(fun j s hj=>om),aK _ _⟩
 case round=>
  obtain⟨i,hi,rfl,NO,hbel⟩:=hrel
  have hcR:=HC.out.b.c.go hbel
  have c1:=hcR.c 1 _ rfl;have c2:=hcR.c 2 _ rfl;have cl:=hcR.lt
  have HCR:=ah hcR
  rw[←EN.out] at c2
  clear hcR
  by_cases hlt:i<n
  ·obtain⟨s,hs⟩: ∃s,c.C[i]?=some s:=⟨c.C[i]'(by rw[←EN.out];exact hlt),au _⟩
   obtain⟨p,hp,hsl0⟩:=HC.out.b.at hs
   have HSL:=ah hsl0
   obtain⟨g,of,rfl,hg,hc0⟩:=qI.out i p hp
   have hsm:=aA hs
   have l64:s.T.length≤64:=by rw[HI.out.len s hsm];unfold gP;exact bP _ _
   have HSM:=ah hsm;have HS:=ah hs;have HP:=ah hp
   have hli:(i:Int)<(n:Int):=om
   have hl0:(0:Int)≤(i:Int):=om
   clear hs hp hsl0 hsm HCR
   have NXT:Hid ((∀k:Nat,k<s.T.length→¬(s.T[k]?=some true∧oQ e s k=(o1,o2)))→∀(j:Nat) (z:Sl),j<i+1→c.C[j]?=some z→rY e (o1,o2) z=false):=fun hk j z hj hz=>by
    by_cases hji:j=i
    ·subst hji
     rw[HS.out] at hz
     obtain rfl:=aI hz
     cases hh:rY e (o1,o2) s with
     |false=>rfl
     |true=>
      obtain⟨a1,a2⟩:=(uY HI.out.e1).1 hh
      exact absurd ⟨a1,a2.symm⟩ (hk _ (ak.1 a1).1)
    ·exact NO.out j z om hz
   have HIT:Hid (∀k:Nat,s.T[k]?=some true→oQ e s k=(o1,o2)→jB e c (o1,o2)=(⟨c.L,c.C.set i (jc s k false)⟩,0)):=fun k h1 h2=>by
    have hk:=kOf_uniq HI.out.e1 h2.symm
    have hh:rY e (o1,o2) s=true:=(uY HI.out.e1).2 ⟨by rw[hk];exact h1,by rw[hk];exact h2.symm⟩
    unfold jB
    rw[findS_at HS.out hh NO.out]
    simp only[HS.out,hk]
   obtain⟨l,hll⟩: ∃l,l=s.T.length:=⟨_,rfl⟩
   have HLL:=ah hll
   rw[←hll] at l64
   clear hll NO
   have hbr:=ah hbel
   have ck0: ∀W,Below W1.heap.size W1 W→W.cell? ⟨g,of+i,none⟩=some (.pointer (some ⟨p.1,0,none⟩))∧g<W.heap.size:=fun W b=>⟨(b.cell (p:=⟨g,of+i,none⟩) hg).trans hc0,aG hg b.size⟩
   have CK:=ah ck0
   have hik:i<kv:=om
   clear ck0 hc0 hg hbel qI
   go_wp2_with fail
   clear c1 c2 cl
   go_loopw [6] (fun kvv wi=>∃k:Nat,k≤l∧kvv= .int .i64 k∧Hid (∀k':Nat,k'<k→¬(s.T[k']?=some true∧oQ e s k'=(o1,o2)))∧Below W1.heap.size W1 wi) (fun kvv _=>l-(intOf kvv).toNat)
   case atStart=>exact⟨0,aQ _,by go_num,(fun j hj=>om),hbr.out⟩
   case round=>
    obtain⟨k,hk,rfl,NK,hbk⟩:=hrel
    clear hbr
    obtain⟨ck,gl⟩:=CK.out _ hbk
    have hcR:=HC.out.b.c.go hbk
    have c1:=hcR.c 1 _ rfl;have c2:=hcR.c 2 _ rfl;have cl:=hcR.lt
    rw[←EN.out] at c2
    have SLR:=ah (HSL.out.below hbk)
    obtain⟨d0,d1,d2,d3,dl,dl2⟩:=SLR.out.cells
    rw[←HLL.out] at d3
    have zw:=hbk.size
    clear hcR
    by_cases hkl:k<l
    ·obtain⟨bt,hbt⟩: ∃bt,s.T[k]?=some bt:=⟨s.T[k]'(by rw[←HLL.out];exact hkl),au _⟩
     obtain⟨r1,r2,r3,r4⟩:=ob_rng HI.out HSM.out (k:=k) (by rw[←HLL.out];exact hkl)
     have ct:=SLR.out.2.c k _ (iC hbt)
     have hw1:IntKind.i64.wrap (s.pg*64)=s.pg*64:=aT _ om
     have hw2:IntKind.i64.wrap ((k:Int)*(e:Int))=(k:Int)*(e:Int):=aT _ om
     have hw3:IntKind.i64.wrap (s.pg*64+(k:Int)*(e:Int))=s.pg*64+(k:Int)*(e:Int):=aT _ om
     have hlk:(k:Int)<(l:Int):=om
     have hl0k:(0:Int)≤(k:Int):=om
     have HBT:=ah hbt;have HBK:=ah hbk
     have LOR:=LO.out.go hbk
     have o0:=LOR.c 0 _ rfl;have o01:=LOR.c 1 _ rfl;have ol:=LOR.lt
     have NE:Hid (¬(s.T[k]?=some true∧oQ e s k=(o1,o2))→∀k':Nat,k'<k+1→¬(s.T[k']?=some true∧oQ e s k'=(o1,o2))):=fun hn k' hk'=>by
      by_cases q:k'=k
      ·subst q;exact hn
      ·exact NK.out k' om
     clear hbt hbk LOR NK
     have fz:wr.frozen? ⟨p.2,k,none⟩=false:=SLR.out.2.f k (by rw[iJ,←HLL.out];exact hkl)
     cases bt with
     |false=>
      have NN:=ah (NE.out (fun q=>by rw[HBT.out] at q;simp at q))
      go_wp2_with fail
      refine iA (S:=(fun w'=>w'.cell? ⟨p.1,0,none⟩=some (.int .i64 s.nd)∧w'.cell? ⟨p.1,1,none⟩=some (.int .i64 s.pg)∧w'.cell? ⟨pc,1,none⟩=some (.int .i64 e)∧w'.cell? ⟨pc,2,none⟩=some (.slice (some ⟨g,of,none⟩) n kv)∧w'.cell? ⟨g,of+i,none⟩=some (.pointer (some ⟨p.1,0,none⟩)))) 33 #[false,false,false,false,false,false,false,false,false,false,false,false,false,false,false,false,false,false,false,false,false,false,false,false,false,false,false,false,false,false,false,false,false] rfl kR kR (by(try dsimp only);go_keep) (fun hHeld=> ?_)
      simp only[aO,aX]
      refine ctk (i:=0) (v:= ?_) rfl (fun _ _ _ h=>h) (Or.inl ⟨rf,?_⟩) ?_
      rotate_left
      ·(intro w hSw;(try dsimp only at hSw);go_simp<;>with_reducible rfl)
      try simp only[Act.put,pA,pZ,pS]
      refine ctk (i:=1) (v:= ?_) rfl (fun _ _ _ h=>h) (Or.inl ⟨rf,?_⟩) ?_
      rotate_left
      ·(intro w hSw;(try dsimp only at hSw);go_simp<;>with_reducible rfl)
      try simp only[Act.put,pA,pZ,pS]
      refine ctk (i:=2) (v:= ?_) rfl (fun _ _ _ h=>h) (Or.inl ⟨rf,?_⟩) ?_
      rotate_left
      ·(intro w hSw;(try dsimp only at hSw);go_simp<;>with_reducible rfl)
      try simp only[Act.put,pA,pZ,pS]
      refine ctk (i:=3) (v:= ?_) rfl (fun _ _ _ h=>h) (Or.inl ⟨rf,?_⟩) ?_
      rotate_left
      ·(intro w hSw;(try dsimp only at hSw);go_simp<;>with_reducible rfl)
      try simp only[Act.put,pA,pZ,pS]
      refine ctk (i:=4) (v:= ?_) rfl (fun _ _ _ h=>h) (Or.inl ⟨rf,?_⟩) ?_
      rotate_left
      ·(intro w hSw;(try dsimp only at hSw);go_simp<;>with_reducible rfl)
      try simp only[Act.put,pA,pZ,pS]
      refine ctk (i:=5) (v:= ?_) rfl (fun _ _ _ h=>h) (Or.inl ⟨rf,?_⟩) ?_
      rotate_left
      ·(intro w hSw;(try dsimp only at hSw);go_simp<;>with_reducible rfl)
      try simp only[Act.put,pA,pZ,pS]
      refine ctk (i:=6) (v:= ?_) rfl (fun _ _ _ h=>h) (Or.inl ⟨rf,?_⟩) ?_
      rotate_left
      ·(intro w hSw;(try dsimp only at hSw);go_simp<;>with_reducible rfl)
      try simp only[Act.put,pA,pZ,pS]
      refine ctk (i:=7) (v:= ?_) rfl (fun _ _ _ h=>h) (Or.inl ⟨rf,?_⟩) ?_
      rotate_left
      ·(intro w hSw;(try dsimp only at hSw);go_simp<;>with_reducible rfl)
      try simp only[Act.put,pA,pZ,pS]
      refine ctk (i:=8) (v:= ?_) rfl (fun _ _ _ h=>h) (Or.inl ⟨rf,?_⟩) ?_
      rotate_left
      ·(intro w hSw;(try dsimp only at hSw);go_simp<;>with_reducible rfl)
      try simp only[Act.put,pA,pZ,pS]
      refine ctk (i:=9) (v:= ?_) rfl (fun _ _ _ h=>h) (Or.inl ⟨rf,?_⟩) ?_
      rotate_left
      ·(intro w hSw;(try dsimp only at hSw);go_simp<;>with_reducible rfl)
      try simp only[Act.put,pA,pZ,pS]
      refine ctk (i:=10) (v:= ?_) rfl (fun _ _ _ h=>h) (Or.inl ⟨rf,?_⟩) ?_
      rotate_left
      ·(intro w hSw;(try dsimp only at hSw);go_simp<;>with_reducible rfl)
      try simp only[Act.put,pA,pZ,pS]
      refine ctk (i:=11) (v:= ?_) rfl (fun _ _ _ h=>h) (Or.inl ⟨rf,?_⟩) ?_
      rotate_left
      ·(intro w hSw;(try dsimp only at hSw);go_simp<;>with_reducible rfl)
      try simp only[Act.put,pA,pZ,pS]
      refine ctk (i:=12) (v:= ?_) rfl (fun _ _ _ h=>h) (Or.inl ⟨rf,?_⟩) ?_
      rotate_left
      ·(intro w hSw;(try dsimp only at hSw);go_simp<;>with_reducible rfl)
      try simp only[Act.put,pA,pZ,pS]
      refine ctk (i:=13) (v:= ?_) rfl (fun _ _ _ h=>h) (Or.inl ⟨rf,?_⟩) ?_
      rotate_left
      ·(intro w hSw;(try dsimp only at hSw);go_simp<;>with_reducible rfl)
      try simp only[Act.put,pA,pZ,pS]
      refine ctk (i:=14) (v:= ?_) rfl (fun _ _ _ h=>h) (Or.inl ⟨rf,?_⟩) ?_
      rotate_left
      ·(intro w hSw;(try dsimp only at hSw);go_simp<;>with_reducible rfl)
      try simp only[Act.put,pA,pZ,pS]
      refine ctk (i:=15) (v:= ?_) rfl (fun _ _ _ h=>h) (Or.inl ⟨rf,?_⟩) ?_
      rotate_left
      ·(intro w hSw;(try dsimp only at hSw);go_simp<;>with_reducible rfl)
      try simp only[Act.put,pA,pZ,pS]
      refine ctk (i:=16) (v:= ?_) rfl (fun _ _ _ h=>h) (Or.inl ⟨rf,?_⟩) ?_
      rotate_left
      ·(intro w hSw;(try dsimp only at hSw);go_simp<;>with_reducible rfl)
      try simp only[Act.put,pA,pZ,pS]
      refine ctk (i:=17) (v:= ?_) rfl (fun _ _ _ h=>h) (Or.inl ⟨rf,?_⟩) ?_
      rotate_left
      ·(intro w hSw;(try dsimp only at hSw);go_simp<;>with_reducible rfl)
      try simp only[Act.put,pA,pZ,pS]
      refine ctk (i:=18) (v:= ?_) rfl (fun _ _ _ h=>h) (Or.inl ⟨rf,?_⟩) ?_
      rotate_left
      ·(intro w hSw;(try dsimp only at hSw);go_simp<;>with_reducible rfl)
      try simp only[Act.put,pA,pZ,pS]
      refine ctk (i:=19) (v:= ?_) rfl (fun _ _ _ h=>h) (Or.inl ⟨rf,?_⟩) ?_
      rotate_left
      ·(intro w hSw;(try dsimp only at hSw);go_simp<;>with_reducible rfl)
      try simp only[Act.put,pA,pZ,pS]
      refine ctk (i:=20) (v:= ?_) rfl (fun _ _ _ h=>h) (Or.inl ⟨rf,?_⟩) ?_
      rotate_left
      ·(intro w hSw;(try dsimp only at hSw);go_simp<;>with_reducible rfl)
      try simp only[Act.put,pA,pZ,pS]
      refine ctk (i:=21) (v:= ?_) rfl (fun _ _ _ h=>h) (Or.inl ⟨rf,?_⟩) ?_
      rotate_left
      ·(intro w hSw;(try dsimp only at hSw);go_simp<;>with_reducible rfl)
      try simp only[Act.put,pA,pZ,pS]
      refine ctk (i:=22) (v:= ?_) rfl (fun _ _ _ h=>h) (Or.inl ⟨rf,?_⟩) ?_
      rotate_left
      ·(intro w hSw;(try dsimp only at hSw);go_simp<;>with_reducible rfl)
      try simp only[Act.put,pA,pZ,pS]
      refine ctk (i:=23) (v:= ?_) rfl (fun _ _ _ h=>h) (Or.inl ⟨rf,?_⟩) ?_
      rotate_left
      ·(intro w hSw;(try dsimp only at hSw);go_simp<;>with_reducible rfl)
      try simp only[Act.put,pA,pZ,pS]
      refine ctk (i:=24) (v:= ?_) rfl (fun _ _ _ h=>h) (Or.inl ⟨rf,?_⟩) ?_
      rotate_left
      ·(intro w hSw;(try dsimp only at hSw);go_simp<;>with_reducible rfl)
      try simp only[Act.put,pA,pZ,pS]
      refine ctk (i:=25) (v:= ?_) rfl (fun _ _ _ h=>h) (Or.inl ⟨rf,?_⟩) ?_
      rotate_left
      ·(intro w hSw;(try dsimp only at hSw);go_simp<;>with_reducible rfl)
      try simp only[Act.put,pA,pZ,pS]
      refine ctk (i:=26) (v:= ?_) rfl (fun _ _ _ h=>h) (Or.inl ⟨rf,?_⟩) ?_
      rotate_left
      ·(intro w hSw;(try dsimp only at hSw);go_simp<;>with_reducible rfl)
      try simp only[Act.put,pA,pZ,pS]
      refine ctk (i:=27) (v:= ?_) rfl (fun _ _ _ h=>h) (Or.inl ⟨rf,?_⟩) ?_
      rotate_left
      ·(intro w hSw;(try dsimp only at hSw);go_simp<;>with_reducible rfl)
      try simp only[Act.put,pA,pZ,pS]
      refine ctk (i:=28) (v:= ?_) rfl (fun _ _ _ h=>h) (Or.inl ⟨rf,?_⟩) ?_
      rotate_left
      ·(intro w hSw;(try dsimp only at hSw);go_simp<;>with_reducible rfl)
      try simp only[Act.put,pA,pZ,pS]
      refine ctk (i:=29) (v:= ?_) rfl (fun _ _ _ h=>h) (Or.inl ⟨rf,?_⟩) ?_
      rotate_left
      ·(intro w hSw;(try dsimp only at hSw);go_simp<;>with_reducible rfl)
      try simp only[Act.put,pA,pZ,pS]
      refine ctk (i:=30) (v:= ?_) rfl (fun _ _ _ h=>h) (Or.inl ⟨rf,?_⟩) ?_
      rotate_left
      ·(intro w hSw;(try dsimp only at hSw);go_simp<;>with_reducible rfl)
      try simp only[Act.put,pA,pZ,pS]
      refine ctk (i:=31) (v:= ?_) rfl (fun _ _ _ h=>h) (Or.inl ⟨rf,?_⟩) ?_
      rotate_left
      ·(intro w hSw;(try dsimp only at hSw);go_simp<;>with_reducible rfl)
      try simp only[Act.put,pA,pZ,pS]
      refine wpAnyH_ready (rs:=[32]) kR sI ?_
      refine bE (iq rfl) (fun K hK=> ?_) bH
      go_simp
      refine hK.out _ _ (by(try dsimp only);go_keep) (fun hHeld=> ?_)
      clear hK K
      try simp only[Act.put,pA,pZ,pS]
      refine wpAnyH_done kR ?_ _
      simp only[lU,aP,aV]
      go_wp2_with fail
      go_round
      case rel=>exact⟨k+1,om,by go_num,NN,HBK.out.trans gI⟩
      case measure=>simp[intOf];omega
     |true=>
      by_cases hh:s.nd=o1∧s.pg*64+(k:Int)*(e:Int)=o2
      ·have hq:(s.nd==o1&&s.pg*64+(k:Int)*(e:Int)==o2)=true:=by simp[hh.1,hh.2]
       have ho:oQ e s k=(o1,o2):=Prod.ext hh.1 hh.2
       have GC:=ah (HIT.out k HBT.out ho)
       have R5:=ah ((HC.out.below HBK.out).use HP.out HS.out (k:=k) false (by rw[←HLL.out];exact hkl))
       have K5:Hid (Keep (vO pc A) W1 (wr.setCell ⟨p.2,k,none⟩ (.bool false))):=(Keep.of HBK.out).setCell (p:=⟨p.2,k,none⟩) (.inl (aj _ (sM HP.out).2)) _
       clear hh ho
       go_wp2_with fail
       refine iA (S:=(fun w'=>w'.cell? ⟨p.1,0,none⟩=some (.int .i64 s.nd)∧w'.cell? ⟨p.1,1,none⟩=some (.int .i64 s.pg)∧w'.cell? ⟨pc,1,none⟩=some (.int .i64 e)∧w'.cell? ⟨pc,2,none⟩=some (.slice (some ⟨g,of,none⟩) n kv)∧w'.cell? ⟨g,of+i,none⟩=some (.pointer (some ⟨p.1,0,none⟩)))) 33 #[false,false,false,false,false,false,false,false,false,false,false,false,false,false,false,false,false,false,false,false,false,false,false,false,false,false,false,false,false,false,false,false,false] rfl kR kR (by(try dsimp only);go_keep) (fun hHeld=> ?_)
       simp only[aO,aX]
       refine ctk (i:=0) (v:= ?_) rfl (fun _ _ _ h=>h) (Or.inl ⟨rf,?_⟩) ?_
       rotate_left
       ·(intro w hSw;(try dsimp only at hSw);go_simp<;>with_reducible rfl)
       try simp only[Act.put,pA,pZ,pS]
       refine ctk (i:=1) (v:= ?_) rfl (fun _ _ _ h=>h) (Or.inl ⟨rf,?_⟩) ?_
       rotate_left
       ·(intro w hSw;(try dsimp only at hSw);go_simp<;>with_reducible rfl)
       try simp only[Act.put,pA,pZ,pS]
       refine ctk (i:=2) (v:= ?_) rfl (fun _ _ _ h=>h) (Or.inl ⟨rf,?_⟩) ?_
       rotate_left
       ·(intro w hSw;(try dsimp only at hSw);go_simp<;>with_reducible rfl)
       try simp only[Act.put,pA,pZ,pS]
       refine ctk (i:=3) (v:= ?_) rfl (fun _ _ _ h=>h) (Or.inl ⟨rf,?_⟩) ?_
       rotate_left
       ·(intro w hSw;(try dsimp only at hSw);go_simp<;>with_reducible rfl)
       try simp only[Act.put,pA,pZ,pS]
       refine ctk (i:=4) (v:= ?_) rfl (fun _ _ _ h=>h) (Or.inl ⟨rf,?_⟩) ?_
       rotate_left
       ·(intro w hSw;(try dsimp only at hSw);go_simp<;>with_reducible rfl)
       try simp only[Act.put,pA,pZ,pS]
       refine ctk (i:=5) (v:= ?_) rfl (fun _ _ _ h=>h) (Or.inl ⟨rf,?_⟩) ?_
       rotate_left
       ·(intro w hSw;(try dsimp only at hSw);go_simp<;>with_reducible rfl)
       try simp only[Act.put,pA,pZ,pS]
       refine ctk (i:=6) (v:= ?_) rfl (fun _ _ _ h=>h) (Or.inl ⟨rf,?_⟩) ?_
       rotate_left
       ·(intro w hSw;(try dsimp only at hSw);go_simp<;>with_reducible rfl)
       try simp only[Act.put,pA,pZ,pS]
       refine ctk (i:=7) (v:= ?_) rfl (fun _ _ _ h=>h) (Or.inl ⟨rf,?_⟩) ?_
       rotate_left
       ·(intro w hSw;(try dsimp only at hSw);go_simp<;>with_reducible rfl)
       try simp only[Act.put,pA,pZ,pS]
       refine ctk (i:=8) (v:= ?_) rfl (fun _ _ _ h=>h) (Or.inl ⟨rf,?_⟩) ?_
       rotate_left
       ·(intro w hSw;(try dsimp only at hSw);go_simp<;>with_reducible rfl)
       try simp only[Act.put,pA,pZ,pS]
       refine ctk (i:=9) (v:= ?_) rfl (fun _ _ _ h=>h) (Or.inl ⟨rf,?_⟩) ?_
       rotate_left
       ·(intro w hSw;(try dsimp only at hSw);go_simp<;>with_reducible rfl)
       try simp only[Act.put,pA,pZ,pS]
       refine ctk (i:=10) (v:= ?_) rfl (fun _ _ _ h=>h) (Or.inl ⟨rf,?_⟩) ?_
       rotate_left
       ·(intro w hSw;(try dsimp only at hSw);go_simp<;>with_reducible rfl)
       try simp only[Act.put,pA,pZ,pS]
       refine ctk (i:=11) (v:= ?_) rfl (fun _ _ _ h=>h) (Or.inl ⟨rf,?_⟩) ?_
       rotate_left
       ·(intro w hSw;(try dsimp only at hSw);go_simp<;>with_reducible rfl)
       try simp only[Act.put,pA,pZ,pS]
       refine ctk (i:=12) (v:= ?_) rfl (fun _ _ _ h=>h) (Or.inl ⟨rf,?_⟩) ?_
       rotate_left
       ·(intro w hSw;(try dsimp only at hSw);go_simp<;>with_reducible rfl)
       try simp only[Act.put,pA,pZ,pS]
       refine ctk (i:=13) (v:= ?_) rfl (fun _ _ _ h=>h) (Or.inl ⟨rf,?_⟩) ?_
       rotate_left
       ·(intro w hSw;(try dsimp only at hSw);go_simp<;>with_reducible rfl)
       try simp only[Act.put,pA,pZ,pS]
       refine ctk (i:=14) (v:= ?_) rfl (fun _ _ _ h=>h) (Or.inl ⟨rf,?_⟩) ?_
       rotate_left
       ·(intro w hSw;(try dsimp only at hSw);go_simp<;>with_reducible rfl)
       try simp only[Act.put,pA,pZ,pS]
       refine ctk (i:=15) (v:= ?_) rfl (fun _ _ _ h=>h) (Or.inl ⟨rf,?_⟩) ?_
       rotate_left
       ·(intro w hSw;(try dsimp only at hSw);go_simp<;>with_reducible rfl)
       try simp only[Act.put,pA,pZ,pS]
       refine ctk (i:=16) (v:= ?_) rfl (fun _ _ _ h=>h) (Or.inl ⟨rf,?_⟩) ?_
       rotate_left
       ·(intro w hSw;(try dsimp only at hSw);go_simp<;>with_reducible rfl)
       try simp only[Act.put,pA,pZ,pS]
       refine ctk (i:=17) (v:= ?_) rfl (fun _ _ _ h=>h) (Or.inl ⟨rf,?_⟩) ?_
       rotate_left
       ·(intro w hSw;(try dsimp only at hSw);go_simp<;>with_reducible rfl)
       try simp only[Act.put,pA,pZ,pS]
       refine ctk (i:=18) (v:= ?_) rfl (fun _ _ _ h=>h) (Or.inl ⟨rf,?_⟩) ?_
       rotate_left
       ·(intro w hSw;(try dsimp only at hSw);go_simp<;>with_reducible rfl)
       try simp only[Act.put,pA,pZ,pS]
       refine ctk (i:=19) (v:= ?_) rfl (fun _ _ _ h=>h) (Or.inl ⟨rf,?_⟩) ?_
       rotate_left
       ·(intro w hSw;(try dsimp only at hSw);go_simp<;>with_reducible rfl)
       try simp only[Act.put,pA,pZ,pS]
       refine ctk (i:=20) (v:= ?_) rfl (fun _ _ _ h=>h) (Or.inl ⟨rf,?_⟩) ?_
       rotate_left
       ·(intro w hSw;(try dsimp only at hSw);go_simp<;>with_reducible rfl)
       try simp only[Act.put,pA,pZ,pS]
       refine ctk (i:=21) (v:= ?_) rfl (fun _ _ _ h=>h) (Or.inl ⟨rf,?_⟩) ?_
       rotate_left
       ·(intro w hSw;(try dsimp only at hSw);go_simp<;>with_reducible rfl)
       try simp only[Act.put,pA,pZ,pS]
       refine ctk (i:=22) (v:= ?_) rfl (fun _ _ _ h=>h) (Or.inl ⟨rf,?_⟩) ?_
       rotate_left
       ·(intro w hSw;(try dsimp only at hSw);go_simp<;>with_reducible rfl)
       try simp only[Act.put,pA,pZ,pS]
       refine ctk (i:=23) (v:= ?_) rfl (fun _ _ _ h=>h) (Or.inl ⟨rf,?_⟩) ?_
       rotate_left
       ·(intro w hSw;(try dsimp only at hSw);go_simp<;>with_reducible rfl)
       try simp only[Act.put,pA,pZ,pS]
       refine ctk (i:=24) (v:= ?_) rfl (fun _ _ _ h=>h) (Or.inl ⟨rf,?_⟩) ?_
       rotate_left
       ·(intro w hSw;(try dsimp only at hSw);go_simp<;>with_reducible rfl)
       try simp only[Act.put,pA,pZ,pS]
       refine ctk (i:=25) (v:= ?_) rfl (fun _ _ _ h=>h) (Or.inl ⟨rf,?_⟩) ?_
       rotate_left
       ·(intro w hSw;(try dsimp only at hSw);go_simp<;>with_reducible rfl)
       try simp only[Act.put,pA,pZ,pS]
       refine ctk (i:=26) (v:= ?_) rfl (fun _ _ _ h=>h) (Or.inl ⟨rf,?_⟩) ?_
       rotate_left
       ·(intro w hSw;(try dsimp only at hSw);go_simp<;>with_reducible rfl)
       try simp only[Act.put,pA,pZ,pS]
       refine ctk (i:=27) (v:= ?_) rfl (fun _ _ _ h=>h) (Or.inl ⟨rf,?_⟩) ?_
       rotate_left
       ·(intro w hSw;(try dsimp only at hSw);go_simp<;>with_reducible rfl)
       try simp only[Act.put,pA,pZ,pS]
       refine ctk (i:=28) (v:= ?_) rfl (fun _ _ _ h=>h) (Or.inl ⟨rf,?_⟩) ?_
       rotate_left
       ·(intro w hSw;(try dsimp only at hSw);go_simp<;>with_reducible rfl)
       try simp only[Act.put,pA,pZ,pS]
       refine ctk (i:=29) (v:= ?_) rfl (fun _ _ _ h=>h) (Or.inl ⟨rf,?_⟩) ?_
       rotate_left
       ·(intro w hSw;(try dsimp only at hSw);go_simp<;>with_reducible rfl)
       try simp only[Act.put,pA,pZ,pS]
       refine ctk (i:=30) (v:= ?_) rfl (fun _ _ _ h=>h) (Or.inl ⟨rf,?_⟩) ?_
       rotate_left
       ·(intro w hSw;(try dsimp only at hSw);go_simp<;>with_reducible rfl)
       try simp only[Act.put,pA,pZ,pS]
       refine ctk (i:=31) (v:= ?_) rfl (fun _ _ _ h=>h) (Or.inl ⟨rf,?_⟩) ?_
       rotate_left
       ·(intro w hSw;(try dsimp only at hSw);go_simp<;>with_reducible rfl)
       try simp only[Act.put,pA,pZ,pS]
       refine wpAnyH_ready (rs:=[32]) kR sI ?_
       refine bE (iq rfl) (fun K hK=> ?_) bH
       go_simp
       refine hK.out _ _ (by(try dsimp only);go_keep) (fun hHeld=> ?_)
       clear hK K
       try simp only[Act.put,pA,pZ,pS]
       refine wpAnyH_done kR ?_ _
       simp only[lU,aP,aV]
       go_wp2
       go_ret
       exact HFIN.out _ (K5.out.alloc _).drew _ (R5.out.below gI) GC.out
      ·have hq:(s.nd==o1&&s.pg*64+(k:Int)*(e:Int)==o2)=false:=by
        cases ha:(s.nd==o1&&s.pg*64+(k:Int)*(e:Int)==o2) with
        |false=>rfl
        |true=>simp at ha;exact absurd ha hh
       have NN:=ah (NE.out (fun q=>hh ⟨congrArg Prod.fst q.2,congrArg Prod.snd q.2⟩))
       clear hh
       go_wp2_with fail
       refine iA (S:=(fun w'=>w'.cell? ⟨p.1,0,none⟩=some (.int .i64 s.nd)∧w'.cell? ⟨p.1,1,none⟩=some (.int .i64 s.pg)∧w'.cell? ⟨pc,1,none⟩=some (.int .i64 e)∧w'.cell? ⟨pc,2,none⟩=some (.slice (some ⟨g,of,none⟩) n kv)∧w'.cell? ⟨g,of+i,none⟩=some (.pointer (some ⟨p.1,0,none⟩)))) 33 #[false,false,false,false,false,false,false,false,false,false,false,false,false,false,false,false,false,false,false,false,false,false,false,false,false,false,false,false,false,false,false,false,false] rfl kR kR (by(try dsimp only);go_keep) (fun hHeld=> ?_)
       simp only[aO,aX]
       refine ctk (i:=0) (v:= ?_) rfl (fun _ _ _ h=>h) (Or.inl ⟨rf,?_⟩) ?_
       rotate_left
       ·(intro w hSw;(try dsimp only at hSw);go_simp<;>with_reducible rfl)
       try simp only[Act.put,pA,pZ,pS]
       refine ctk (i:=1) (v:= ?_) rfl (fun _ _ _ h=>h) (Or.inl ⟨rf,?_⟩) ?_
       rotate_left
       ·(intro w hSw;(try dsimp only at hSw);go_simp<;>with_reducible rfl)
       try simp only[Act.put,pA,pZ,pS]
       refine ctk (i:=2) (v:= ?_) rfl (fun _ _ _ h=>h) (Or.inl ⟨rf,?_⟩) ?_
       rotate_left
       ·(intro w hSw;(try dsimp only at hSw);go_simp<;>with_reducible rfl)
       try simp only[Act.put,pA,pZ,pS]
       refine ctk (i:=3) (v:= ?_) rfl (fun _ _ _ h=>h) (Or.inl ⟨rf,?_⟩) ?_
       rotate_left
       ·(intro w hSw;(try dsimp only at hSw);go_simp<;>with_reducible rfl)
       try simp only[Act.put,pA,pZ,pS]
       refine ctk (i:=4) (v:= ?_) rfl (fun _ _ _ h=>h) (Or.inl ⟨rf,?_⟩) ?_
       rotate_left
       ·(intro w hSw;(try dsimp only at hSw);go_simp<;>with_reducible rfl)
       try simp only[Act.put,pA,pZ,pS]
       refine ctk (i:=5) (v:= ?_) rfl (fun _ _ _ h=>h) (Or.inl ⟨rf,?_⟩) ?_
       rotate_left
       ·(intro w hSw;(try dsimp only at hSw);go_simp<;>with_reducible rfl)
       try simp only[Act.put,pA,pZ,pS]
       refine ctk (i:=6) (v:= ?_) rfl (fun _ _ _ h=>h) (Or.inl ⟨rf,?_⟩) ?_
       rotate_left
       ·(intro w hSw;(try dsimp only at hSw);go_simp<;>with_reducible rfl)
       try simp only[Act.put,pA,pZ,pS]
       refine ctk (i:=7) (v:= ?_) rfl (fun _ _ _ h=>h) (Or.inl ⟨rf,?_⟩) ?_
       rotate_left
       ·(intro w hSw;(try dsimp only at hSw);go_simp<;>with_reducible rfl)
       try simp only[Act.put,pA,pZ,pS]
       refine ctk (i:=8) (v:= ?_) rfl (fun _ _ _ h=>h) (Or.inl ⟨rf,?_⟩) ?_
       rotate_left
       ·(intro w hSw;(try dsimp only at hSw);go_simp<;>with_reducible rfl)
       try simp only[Act.put,pA,pZ,pS]
       refine ctk (i:=9) (v:= ?_) rfl (fun _ _ _ h=>h) (Or.inl ⟨rf,?_⟩) ?_
       rotate_left
       ·(intro w hSw;(try dsimp only at hSw);go_simp<;>with_reducible rfl)
       try simp only[Act.put,pA,pZ,pS]
       refine ctk (i:=10) (v:= ?_) rfl (fun _ _ _ h=>h) (Or.inl ⟨rf,?_⟩) ?_
       rotate_left
       ·(intro w hSw;(try dsimp only at hSw);go_simp<;>with_reducible rfl)
       try simp only[Act.put,pA,pZ,pS]
       refine ctk (i:=11) (v:= ?_) rfl (fun _ _ _ h=>h) (Or.inl ⟨rf,?_⟩) ?_
       rotate_left
       ·(intro w hSw;(try dsimp only at hSw);go_simp<;>with_reducible rfl)
       try simp only[Act.put,pA,pZ,pS]
       refine ctk (i:=12) (v:= ?_) rfl (fun _ _ _ h=>h) (Or.inl ⟨rf,?_⟩) ?_
       rotate_left
       ·(intro w hSw;(try dsimp only at hSw);go_simp<;>with_reducible rfl)
       try simp only[Act.put,pA,pZ,pS]
       refine ctk (i:=13) (v:= ?_) rfl (fun _ _ _ h=>h) (Or.inl ⟨rf,?_⟩) ?_
       rotate_left
       ·(intro w hSw;(try dsimp only at hSw);go_simp<;>with_reducible rfl)
       try simp only[Act.put,pA,pZ,pS]
       refine ctk (i:=14) (v:= ?_) rfl (fun _ _ _ h=>h) (Or.inl ⟨rf,?_⟩) ?_
       rotate_left
       ·(intro w hSw;(try dsimp only at hSw);go_simp<;>with_reducible rfl)
       try simp only[Act.put,pA,pZ,pS]
       refine ctk (i:=15) (v:= ?_) rfl (fun _ _ _ h=>h) (Or.inl ⟨rf,?_⟩) ?_
       rotate_left
       ·(intro w hSw;(try dsimp only at hSw);go_simp<;>with_reducible rfl)
       try simp only[Act.put,pA,pZ,pS]
       refine ctk (i:=16) (v:= ?_) rfl (fun _ _ _ h=>h) (Or.inl ⟨rf,?_⟩) ?_
       rotate_left
       ·(intro w hSw;(try dsimp only at hSw);go_simp<;>with_reducible rfl)
       try simp only[Act.put,pA,pZ,pS]
       refine ctk (i:=17) (v:= ?_) rfl (fun _ _ _ h=>h) (Or.inl ⟨rf,?_⟩) ?_
       rotate_left
       ·(intro w hSw;(try dsimp only at hSw);go_simp<;>with_reducible rfl)
       try simp only[Act.put,pA,pZ,pS]
       refine ctk (i:=18) (v:= ?_) rfl (fun _ _ _ h=>h) (Or.inl ⟨rf,?_⟩) ?_
       rotate_left
       ·(intro w hSw;(try dsimp only at hSw);go_simp<;>with_reducible rfl)
       try simp only[Act.put,pA,pZ,pS]
       refine ctk (i:=19) (v:= ?_) rfl (fun _ _ _ h=>h) (Or.inl ⟨rf,?_⟩) ?_
       rotate_left
       ·(intro w hSw;(try dsimp only at hSw);go_simp<;>with_reducible rfl)
       try simp only[Act.put,pA,pZ,pS]
       refine ctk (i:=20) (v:= ?_) rfl (fun _ _ _ h=>h) (Or.inl ⟨rf,?_⟩) ?_
       rotate_left
       ·(intro w hSw;(try dsimp only at hSw);go_simp<;>with_reducible rfl)
       try simp only[Act.put,pA,pZ,pS]
       refine ctk (i:=21) (v:= ?_) rfl (fun _ _ _ h=>h) (Or.inl ⟨rf,?_⟩) ?_
       rotate_left
       ·(intro w hSw;(try dsimp only at hSw);go_simp<;>with_reducible rfl)
       try simp only[Act.put,pA,pZ,pS]
       refine ctk (i:=22) (v:= ?_) rfl (fun _ _ _ h=>h) (Or.inl ⟨rf,?_⟩) ?_
       rotate_left
       ·(intro w hSw;(try dsimp only at hSw);go_simp<;>with_reducible rfl)
       try simp only[Act.put,pA,pZ,pS]
       refine ctk (i:=23) (v:= ?_) rfl (fun _ _ _ h=>h) (Or.inl ⟨rf,?_⟩) ?_
       rotate_left
       ·(intro w hSw;(try dsimp only at hSw);go_simp<;>with_reducible rfl)
       try simp only[Act.put,pA,pZ,pS]
       refine ctk (i:=24) (v:= ?_) rfl (fun _ _ _ h=>h) (Or.inl ⟨rf,?_⟩) ?_
       rotate_left
       ·(intro w hSw;(try dsimp only at hSw);go_simp<;>with_reducible rfl)
       try simp only[Act.put,pA,pZ,pS]
       refine ctk (i:=25) (v:= ?_) rfl (fun _ _ _ h=>h) (Or.inl ⟨rf,?_⟩) ?_
       rotate_left
       ·(intro w hSw;(try dsimp only at hSw);go_simp<;>with_reducible rfl)
       try simp only[Act.put,pA,pZ,pS]
       refine ctk (i:=26) (v:= ?_) rfl (fun _ _ _ h=>h) (Or.inl ⟨rf,?_⟩) ?_
       rotate_left
       ·(intro w hSw;(try dsimp only at hSw);go_simp<;>with_reducible rfl)
       try simp only[Act.put,pA,pZ,pS]
       refine ctk (i:=27) (v:= ?_) rfl (fun _ _ _ h=>h) (Or.inl ⟨rf,?_⟩) ?_
       rotate_left
       ·(intro w hSw;(try dsimp only at hSw);go_simp<;>with_reducible rfl)
       try simp only[Act.put,pA,pZ,pS]
       refine ctk (i:=28) (v:= ?_) rfl (fun _ _ _ h=>h) (Or.inl ⟨rf,?_⟩) ?_
       rotate_left
       ·(intro w hSw;(try dsimp only at hSw);go_simp<;>with_reducible rfl)
       try simp only[Act.put,pA,pZ,pS]
       refine ctk (i:=29) (v:= ?_) rfl (fun _ _ _ h=>h) (Or.inl ⟨rf,?_⟩) ?_
       rotate_left
       ·(intro w hSw;(try dsimp only at hSw);go_simp<;>with_reducible rfl)
       try simp only[Act.put,pA,pZ,pS]
       refine ctk (i:=30) (v:= ?_) rfl (fun _ _ _ h=>h) (Or.inl ⟨rf,?_⟩) ?_
       rotate_left
       ·(intro w hSw;(try dsimp only at hSw);go_simp<;>with_reducible rfl)
       try simp only[Act.put,pA,pZ,pS]
       refine ctk (i:=31) (v:= ?_) rfl (fun _ _ _ h=>h) (Or.inl ⟨rf,?_⟩) ?_
       rotate_left
       ·(intro w hSw;(try dsimp only at hSw);go_simp<;>with_reducible rfl)
       try simp only[Act.put,pA,pZ,pS]
       refine wpAnyH_ready (rs:=[32]) kR sI ?_
       refine bE (iq rfl) (fun K hK=> ?_) bH
       go_simp
       refine hK.out _ _ (by(try dsimp only);go_keep) (fun hHeld=> ?_)
       clear hK K
       try simp only[Act.put,pA,pZ,pS]
       refine wpAnyH_done kR ?_ _
       simp only[lU,aP,aV]
       go_wp2_with fail
       go_round
       case rel=>exact⟨k+1,om,by go_num,NN,HBK.out.trans gI⟩
       case measure=>simp[intOf];omega
    ·obtain rfl:k=l:=by omega
     have NN:=ah (NXT.out (fun k' hk'=>NK.out k' (by rw[HLL.out];exact hk')))
     clear NK
     go_wp2_with fail
     go_round
     case rel=>exact⟨i+1,om,by go_num,NN,hbk⟩
     case measure=>simp[intOf];omega
  ·obtain rfl:i=n:=by omega
   have E9:=ah (H9.out (fun s hs=>by
    obtain⟨j,hj⟩:=bV hs
    exact NO.out j s (by rw[EN.out];exact(ak.1 hj).1) hj))
   have HBR:=ah hbel
   clear NO hbel
   go_wp2
   go_ret
   exact HFIN.out _ (Keep.of HBR.out) _ (HC.out.below HBR.out) E9.out
end
end
section
open Go.RowKit Go.Maps
attribute [local go_sem ↓] bA bB
theorem nH:El 45 215 (.pointer none) 8:=⟨Tryz.underlying45,kR,rfl,om⟩
theorem gT {T E:TypeId} {z:Value} {b:Nat} (hE:El T E z b) {base:Nat} {v:Value} {us ms:List Value} {w:World} {p:Option Addr} {c:Nat} {ops:Array Oper} {rest:List Oper} {o:Oper} {a:Act} {Q:Exit→Act→World→Prop} (hgd:o.guard=none) (s x:Operand)
 (ho:o.op= .call {callee:=.builtin .append,args:=#[s,x],argTypes:=#[T,T]}) (hv:a.eval s=v) (un mn:Nat) (hx:a.eval x= .slice p mn c) (hun:us.length=un) (hmn:ms.length=mn)
 (hown:w.ownsRow base E 1 v un us) (hs:sS w p ms) (h1: ∀u∈ms,u.oneCell'=true) (hl:un+mn≤65536) (hb:base≤w.heap.size)
 (h: ∀q k w',w'.ownsRow base E 1 (.slice q (un+mn) k) (un+mn) (us++ms)→w.grownBy w' v.ownBlock→((Value.slice q (un+mn) k).ownBlock=v.ownBlock∨(Value.slice q (un+mn) k).ownBlock=some w.heap.size)→wpList Tryz.prog ops Q rest (a.put o.dst (.slice q (un+mn) k)) w'):wpList Tryz.prog ops Q (o::rest) a w:=by
 refine jW hE hgd s x ho hv mn hx hmn (by rw[hun];exact hown) hs h1 (by rw[hun,hmn];exact hl) hb fun q k w' h2 h3 h4=> ?_
 rw[aW,hun,hmn] at h2 h4 ⊢
 exact h q k w' h2 h3 h4
theorem xu {v most:Int} {i n:Nat} {c:Ca} {s:Sl} (hs:c.C[i]?=some s) (h: ¬((n:Int)<most∧goS v s=true)):ig v most (i+1) (c,n)=ig v most i (c,n):=by
 show(match c.C[i]? with|none=>_|some s=>_)=_
 rw[hs];simp only[if_neg h]
theorem Bc {v most:Int} {i n:Nat} {c:Ca} {s:Sl} (hs:c.C[i]?=some s) (h:(n:Int)<most∧goS v s=true):ig v most (i+1) (c,n)=ig v most i (⟨(jH c.L s.nd s.pg 0).1,c.C.eraseIdx i⟩,n+1):=by
 show(match c.C[i]? with|none=>_|some s=>_)=_
 rw[hs];simp only[if_pos h]
theorem sN (A:SA) (i:Nat):gJ (A.eraseIdx i)=(gJ A).take i++(gJ A).drop (i+1):=by
 rw[dz];simp[gJ,List.map_take,List.map_drop]
theorem ay_sub {A A':SA} (h:A'.Sublist A):(ay A').Sublist (ay A):=by
 have e: ∀(p:Nat×Nat) (B:SA),ay (p::B)=p.1::p.2::ay B:=fun p B=>by simp[ay]
 induction h with
 |slnil=>exact List.Sublist.refl _
 |cons a _ ih=>rw[e];exact(ih.cons _).cons _
 |cons_cons a _ ih=>rw[e,e];exact(ih.cons_cons _).cons_cons _
theorem zZ (A:SA) (i:Nat):(ay (A.eraseIdx i)).Sublist (ay A):=ay_sub (fV ..)
theorem get_erase {α:Type} {l:List α} {i j:Nat}:(l.eraseIdx i)[j]?=if j<i then l[j]? else l[j+1]?:=List.getElem?_eraseIdx
section
variable {X Y S M:List Nat} {w w':World} {pc pm gN e:Nat} {mn lw hi:Int} {O:List (List Int)} {v v':Value} {A A':SA} {C:List Sl} {c:Ca} {L':List Nd}
theorem RC.gone (h:RC X w pc pm gN e mn lw hi O M v A c) {i:Nat} (hr:j6 X w v' (gJ (A.eraseIdx i))) (hv:v'= .slice none 0 0∨∃g n k,v'= .slice (some ⟨g,0,none⟩) n k) (hw:w'=w.setCell ⟨pc,2,none⟩ v'):RC X w' pc pm gN e mn lw hi O M v' (A.eraseIdx i) ⟨c.L,c.C.eraseIdx i⟩:=by
 have kk:Keep [pc] w w':=by rw[hw];exact(Keep.refl _ _).setCell (p:=⟨pc,2,none⟩) (.inl sI) _
 have hpc:pc∈vO pc A:=aD ..
 obtain⟨n1,n2,n3⟩:=h.ne pc hpc
 have sub:=zZ A i
 refine⟨h.z.keep kk (fun s q=>by simp at q;subst q;exact .inl ⟨h.b.mem _ hpc,n1,n2,n3⟩),h.b.put hw hr ?_ (fun j p s hp hs=> ?_) (fun y hy=>h.b.mem y (aj _ (sub.subset hy))) ?_ hv,fun y hy=> ?_⟩
 ·rw[dw,dw,h.b.len]
 ·rw[get_erase] at hp hs
  split at hp
  ·rw[if_pos aM] at hs
   exact h.b.sl _ _ _ hp hs
  ·rw[if_neg aM] at hs
   exact h.b.sl _ _ _ hp hs
 ·exact(List.Sublist.cons_cons pc sub).nodup h.b.nd
 ·rcases aC.1 hy with rfl|q
  ·exact⟨n1,n2,n3⟩
  ·exact h.ne y (aj _ (sub.subset q))
theorem RC.zone (h:RC X w pc pm gN e mn lw hi O M v A c) (hz:RZ X w' pm gN mn lw hi O M L') (k:Keep M w w'):RC X w' pc pm gN e mn lw hi O M v A ⟨L',c.C⟩:=
 ⟨hz,h.b.keep k (fun s q=>⟨fun t=>(h.ne s t).2.2 q,.inl (h.z.memM q)⟩),h.ne⟩
def RShPost (X:List Nat) (pc pm gN e:Nat) (mn lw hi:Int) (O:List (List Int)) (M:List Nat) (A:SA) (w:World) (r:Ca×Nat) (en:Ending) (w':World):Prop:=
 en= .returned (.int .i64 r.2)∧∃v' A',RC X w' pc pm gN e mn lw hi O M v' A' r.1∧Keep (pc::M) w w'∧∀y∈ay A',y∈ay A
theorem Bd (nd most:Int) (h:RC X w pc pm gN e mn lw hi O M v A c) (hI:jD e c) (hX: ∀x∈X,x<w.heap.size):
 Calls Tryz.prog 31 #[.pointer (some ⟨pc,0,none⟩),.int .i64 nd,.int .i64 most] w (RShPost X pc pm gN e mn lw hi O M A w (ig nd most c.C.length (c,0))):=by
 obtain⟨q0,k0,ev,kv1,kv2,_⟩:=h.b.form
 have few:=hI.few
 have HX:=ah hX
 have START:Hid (RC X w pc pm gN e mn lw hi O M v A c):=h
 have HL0:Hid (∀s∈c.C,s.T.length≤64):=fun s hs=>by rw[hI.len s hs];unfold gP;exact bP _ _
 obtain⟨R,hR⟩: ∃R,R=ig nd most c.C.length (c,0):=⟨_,rfl⟩
 have HR:=ah hR.symm
 have c2:=h.b.c.c 2 _ rfl;have cl:=h.b.c.lt
 rw[←hR]
 obtain⟨N,hN⟩: ∃N,N=c.C.length:=⟨_,rfl⟩
 have EN:=ah hN
 rw[ev,←hN] at c2
 rw[←hN] at kv1 few HR
 have hw1:IntKind.i64.wrap ((N:Int)-1)=(N:Int)-1:=aT _ om
 clear h hI hX hR hN ev
 go_enter Tryz.func31,Tryz.ntmps31
 go_wp2_with fail
 go_loopw [7,8] (fun nv iv wr=>∃(i n:Nat) (c':Ca) (v':Value) (A':SA),i≤N∧n+i≤N∧iv= .int .i64 ((i:Int)-1)∧nv= .int .i64 n∧Hid (ig nd most i (c',n)=R)∧Hid (RC X wr pc pm gN e mn lw hi O M v' A' c')∧i≤c'.C.length∧c'.C.length≤N∧Hid (∀s∈c'.C,s.T.length≤64)∧Hid (Keep (pc::M) w wr)∧Hid (∀y∈ay A',y∈ay A)) (fun _ iv _=>(intOf iv+1).toNat)
 case atStart=>exact⟨N,0,c,v,A,aH _,om,rfl,rfl,HR,START,by rw[EN.out];exact aH _,by rw[EN.out];exact aH _,HL0,Keep.refl _ _,fun _ q=>q⟩
 case round=>
  obtain⟨i,n,c',v',A',hiN,hnN,rfl,rfl,HRR,HC,hic,hcN,HL,HK,HA⟩:=hrel
  clear START HL0
  cases i with
  |zero=>
   have hz: ¬((0:Int)≤((0:Nat):Int)-1):=om
   have hz':decide ((0:Int)≤((0:Nat):Int)-1)=false:=decide_eq_false hz
   have HRR':=ah (show(c',n)=R from HRR.out)
   go_wp2
   go_ret
   exact⟨by rw[←HRR'.out];rfl,v',A',by rw[←HRR'.out];exact HC.out,HK.out,HA.out⟩
  |succ i=>
   have et:(((i+1:Nat):Int)-1)=(i:Int):=om
   rw[et]
   obtain⟨q,kv,ev,kw1,kw2,hrow⟩:=HC.out.b.form
   subst ev
   obtain⟨s,hs⟩: ∃s,c'.C[i]?=some s:=⟨c'.C[i]' om,au _⟩
   obtain⟨p,hp,hsl⟩:=HC.out.b.at hs
   obtain⟨g,of,rfl,hg,hc0⟩:=hrow i p hp
   have qI:=ah hrow
   have HS:=ah hs;have HP:=ah hp
   obtain⟨d0,d1,d2,d3,dl,dl2⟩:=hsl.cells
   have c0:=HC.out.b.c.c 0 _ rfl;have c2:=HC.out.b.c.c 2 _ rfl;have cl:=HC.out.b.c.lt
   have l64:=HL.out s (aA hs)
   have MN:=ah (zV p s wr hsl l64)
   have hm64:gF s≤64:=cZ (iZ _) l64
   obtain⟨N',hN'⟩: ∃N',N'=c'.C.length:=⟨_,rfl⟩
   have EN':=ah hN'
   rw[←hN'] at c2 kw1 hic hcN
   have hii:(i:Int)<(N':Int):=om
   have hi0:(0:Int)≤(i:Int):=om
   have hik:i<kv:=om
   have hwi:IntKind.i64.wrap ((i:Int)-1)=(i:Int)-1:=aT _ om
   unfold maxLen at kw2
   have STAY:Hid (¬((n:Int)<most∧goS nd s=true)→ig nd most i (c',n)=R):=fun hn=>by rw[←xu HS.out hn];exact HRR.out
   have GO:Hid ((n:Int)<most→s.nd=nd→gF s=0→ig nd most i (⟨(jH c'.L s.nd s.pg 0).1,c'.C.eraseIdx i⟩,n+1)=R):=fun h1 h2 h3=>by
    rw[←Bc HS.out ⟨h1,by unfold goS;simp[h2,h3]⟩];exact HRR.out
   clear hrow hs hp hN' HRR hsl et
   by_cases h1:most≤(n:Int)
   ·have b1:decide (most≤(n:Int))=true:=decide_eq_true h1
    have ST:=ah (STAY.out (fun q=>om))
    clear STAY GO
    go_wp2
    go_roundw
    case rel=>exact⟨i,n,c',_,A',om,om,rfl,rfl,ST,HC,by rw[←EN'.out];omega,by rw[←EN'.out];omega,HL,HK,HA⟩
    case measure=>simp[intOf]
   have b1:decide (most≤(n:Int))=false:=decide_eq_false h1
   by_cases h2:s.nd=nd
   ·have b2:decide (s.nd=nd)=true:=decide_eq_true h2
    by_cases h3:gF s=0
    ·have G:=ah (GO.out om h2 h3)
     have GV:=ah (fun W (b:Below wr.heap.size wr W)=>rgiveZ pm gN mn lw hi O M c'.L s.nd s.pg 0 W (HC.out.below b).z (fun x hx=>by have:=HX.out x hx;have:=HK.out.size;have:=b.size;omega))
     rw[h3] at MN
     rw[h2] at GV G
     have hnw:IntKind.i64.wrap ((n:Int)+1)=((n+1:Nat):Int):=by rw[aT _ om];omega
     have hi1:IntKind.i64.wrap ((i:Int)+1)=((i+1:Nat):Int):=by rw[aT _ om];omega
     clear STAY GO HS
     go_wp2_with fail
     refine MN.out.mono ?_
     rintro r w1 ⟨rfl,rfl⟩
     go_wp2_with fail
     refine iK 8 kR kR ?_
     simp only[aO,aX,aP,aV]
     repeat still_step
     refine wpStill_nil ?_
     go_wp2_with fail
     refine(GV.out _ gI).mono ?_
     rintro r w2 ⟨rfl,hz2,hk2⟩
     have K2:Keep M w1 w2:=(Keep.of (show Below w1.heap.size w1 w1.drew from gI)).then hk2
     have C2:=ah (HC.out.zone hz2 K2)
     have f2:=C2.out.b.c.c 2 _ rfl;have fz:=C2.out.b.c.f 2 sI;have fl:=C2.out.b.c.lt
     have hrow2:=C2.out.b.row
     rw[show c'.C.length=N' from EN'.out.symm] at f2
     obtain⟨BS,hBS⟩: ∃B,B=w2.heap.size:=⟨_,rfl⟩
     have XB:Hid (∀x∈X,x<BS):=fun x hx=>by have:=HX.out x hx;have:=HK.out.size;have:=K2.size;omega
     have HK2:=ah (HK.out.trans K2 (fun s q=>.inl (aj _ q)))
     have hsp:Hid ((gJ A').length=N'):=by show _=_;rw[iX,HC.out.b.len,EN'.out]
     have HR2:=ah hrow2
     have lj:((gJ A').take i).length=i:=by rw[aU,hsp.out];omega
     have ld:((gJ A').drop (i+1)).length=N'-(i+1):=by rw[bT,hsp.out]
     have LJ:=ah lj;have LD:=ah ld
     have CEL:Hid (∀j u,(gJ A')[j]?=some u→∃g' of',(some ⟨g,of,none⟩:Option Addr)=some ⟨g',of',none⟩∧g'<w2.heap.size∧w2.cell? ⟨g',of'+j,none⟩=some u):=fun j u hj=>by
      obtain⟨p',cap',e1,_,_,e4⟩:=HR2.out
      injection e1 with e5 e6 e7
      obtain⟨g',of',e8,_,e9,e10⟩:=e4 j u hj
      exact⟨g',of',e5.trans e8,e9,e10⟩
     have s1:Hid (sS w2 (some ⟨g,of,none⟩) ((gJ A').take i)):=.inr ⟨_,rfl,fun j u hj=>by
      have hij:j<i:=by have:=(ak.1 hj).1;rw[LJ.out] at this;exact this
      rw[bO hij] at hj
      obtain⟨g',of',e1,e2,e3⟩:=CEL.out j u hj
      injection e1 with e1;injection e1 with e1 e1'
      subst e1 e1'
      rw[addr_add];exact e3⟩
     have o1:Hid (∀u∈(gJ A').take i,u.oneCell'=true):=fun u hu=>lH A' u (dh hu)
     have o2:Hid (∀u∈(gJ A').drop (i+1),u.oneCell'=true):=fun u hu=>lH A' u (dJ hu)
     have FIN:Hid (∀w4 q4 k4,Below w2.heap.size w2 w4→w4.ownsRow w2.heap.size 215 1 (.slice q4 (i+(N'-(i+1))) k4) (i+(N'-(i+1))) ((gJ A').take i++(gJ A').drop (i+1))→∀W,W=w4.setCell ⟨pc,2,none⟩ (.slice q4 (i+(N'-(i+1))) k4)→RC X W pc pm gN e mn lw hi O M (.slice q4 (i+(N'-(i+1))) k4) (A'.eraseIdx i) ⟨(jH c'.L nd s.pg 0).1,c'.C.eraseIdx i⟩∧Keep (pc::M) w W):=fun w4 q4 k4 b hown W hW=>by
      have el:i+(N'-(i+1))=(gJ (A'.eraseIdx i)).length:=by rw[sN,aW,LJ.out,LD.out]
      have hv:=own_vn hown
      have hr:j6 X w4 (.slice q4 (i+(N'-(i+1))) k4) (gJ (A'.eraseIdx i)):=by
       rw[←sN,el] at hown
       rw[el]
       exact jP hown (fun x hx g' hg' r=>by have:=XB.out x hx;have:=(hown.lt g' hg').1;omega)
      refine⟨(C2.out.below b).gone hr hv hW,?_⟩
      rw[hW]
      exact(HK2.out.step b).setCell (p:=⟨pc,2,none⟩) (.inl (aD ..)) _
     have SUB:Hid (∀y∈ay (A'.eraseIdx i),y∈ay A):=fun y hy=>HA.out y ((zZ A' i).subset hy)
     have HLE:Hid (∀s∈c'.C.eraseIdx i,s.T.length≤64):=fun s hs=>HL.out s ((fV ..).subset hs)
     have HLN:Hid ((c'.C.eraseIdx i).length=N'-1):=by
      show _=_
      rw[dw,if_pos (by rw[←EN'.out];omega),EN'.out]
     clear MN GV hz2 hk2 K2 C2 hrow2 HR2 lj ld d0 d1 d2 d3 dl dl2 c0 c2 cl hc0 h1 h2 h3 HC HK HA HL HK2 hBS
     by_cases hk:kv=i+1
     ·have hN1:N'=i+1:=by omega
      have KP:Hid (∀w4,Below w2.heap.size w2 w4→w4.cell? ⟨pc,2,none⟩=some (.slice (some ⟨g,of,none⟩) N' kv)∧w4.frozen? ⟨pc,2,none⟩=false∧pc<w4.heap.size):=fun w4 b=>⟨(b.cell (p:=⟨pc,2,none⟩) fl).trans f2,(b.frozen (p:=⟨pc,2,none⟩) fl).trans fz,aG fl b.size⟩
      have s2:Hid (∀w3,Below w2.heap.size w2 w3→sS w3 (some ⟨g,of,none⟩) ((gJ A').drop (i+1))):=fun w3 _=>.inr ⟨_,rfl,fun j u hj=>by
       have:=(ak.1 hj).1
       rw[LD.out] at this;omega⟩
      go_wp2_with (first
       |(at_builtin;refine gT nH (base:=w2.heap.size) (v:=.slice none 0 0) (us:=[]) (ms:=(gJ A').take i) (p:=some ⟨g,of,none⟩) rf (.tmp 54) (.tmp 60) rf rf 0 i rf rfl LJ.out (aR _ _ _ _) s1.out o1.out om (aH _) ?_;intro q3 k3 w3 hown3 hg3 xw;have b3:Below w2.heap.size w2 w3:=(aK _ _).grown hg3 (aH _) (fun r hr=>by cases hr);rw[bN] at hown3 xw;rw[eD] at hown3;have x2:=(KP.out w3 b3).1;have xf:=(KP.out w3 b3).2.1;have xl:=(KP.out w3 b3).2.2;have HO3:=ah hown3;have HB3:=ah b3;have HG3:=ah (fun(w4:World) (hg:w3.grownBy w4 (Value.slice q3 i k3).ownBlock)=>b3.grown hg b3.size (fun r hr=>(hown3.lt r hr).1));clear hown3 hg3 xw b3)
       |(at_builtin;go_loud (refine gT nH (base:=w2.heap.size) (v:=.slice q3 i k3) (us:=(gJ A').take i) (ms:=(gJ A').drop (i+1)) (p:=some ⟨g,of,none⟩) rf (.tmp 63) (.tmp 70) rf rf i (0) rf LJ.out (by rw[LD.out];omega) HO3.out (s2.out _ HB3.out) o2.out om HB3.out.size ?_);intro q4 k4 w4 iy hg4 BI;have b4:=HG3.out w4 hg4;have z2:=(KP.out w4 b4).1;have zf:=(KP.out w4 b4).2.1;have zl:=(KP.out w4 b4).2.2;have FF:=ah (by have t:=FIN.out w4 q4 k4 b4;rw[show i+(N'-(i+1))=i from om] at t;exact t iy);clear iy hg4 BI b4))
      go_roundw
      case rel=>exact⟨i,n+1,_,_,A'.eraseIdx i,om,om,rfl,by go_num,G,(FF.out _ rfl).1,by rw[HLN.out];omega,by rw[HLN.out];omega,HLE,(FF.out _ rfl).2,SUB⟩
      case measure=>simp[intOf]
     ·skip
      have KP:Hid (∀w4,Below w2.heap.size w2 w4→w4.cell? ⟨pc,2,none⟩=some (.slice (some ⟨g,of,none⟩) N' kv)∧w4.frozen? ⟨pc,2,none⟩=false∧pc<w4.heap.size):=fun w4 b=>⟨(b.cell (p:=⟨pc,2,none⟩) fl).trans f2,(b.frozen (p:=⟨pc,2,none⟩) fl).trans fz,aG fl b.size⟩
      have s2:Hid (∀w3,Below w2.heap.size w2 w3→sS w3 (some ⟨g,of+(i+1),none⟩) ((gJ A').drop (i+1))):=fun w3 b3=>.inr ⟨_,rfl,fun j u hj=>by
       rw[bM] at hj
       obtain⟨g',of',e1,e2,e3⟩:=CEL.out _ u hj
       injection e1 with e1;injection e1 with e1 e1'
       subst e1 e1'
       rw[addr_add,fU]
       exact(b3.cell (p:=⟨g,of+(i+1+j),none⟩) e2).trans e3⟩
      go_wp2_with (first
       |(at_builtin;refine gT nH (base:=w2.heap.size) (v:=.slice none 0 0) (us:=[]) (ms:=(gJ A').take i) (p:=some ⟨g,of,none⟩) rf (.tmp 54) (.tmp 60) rf rf 0 i rf rfl LJ.out (aR _ _ _ _) s1.out o1.out om (aH _) ?_;intro q3 k3 w3 hown3 hg3 xw;have b3:Below w2.heap.size w2 w3:=(aK _ _).grown hg3 (aH _) (fun r hr=>by cases hr);rw[bN] at hown3 xw;rw[eD] at hown3;have x2:=(KP.out w3 b3).1;have xf:=(KP.out w3 b3).2.1;have xl:=(KP.out w3 b3).2.2;have HO3:=ah hown3;have HB3:=ah b3;have HG3:=ah (fun(w4:World) (hg:w3.grownBy w4 (Value.slice q3 i k3).ownBlock)=>b3.grown hg b3.size (fun r hr=>(hown3.lt r hr).1));clear hown3 hg3 xw b3)
       |(at_builtin;go_loud (refine gT nH (base:=w2.heap.size) (v:=.slice q3 i k3) (us:=(gJ A').take i) (ms:=(gJ A').drop (i+1)) (p:=some ⟨g,of+(i+1),none⟩) rf (.tmp 63) (.tmp 70) rf rf i (N'-(i+1)) rf LJ.out (LD.out) HO3.out (s2.out _ HB3.out) o2.out om HB3.out.size ?_);intro q4 k4 w4 iy hg4 BI;have b4:=HG3.out w4 hg4;have z2:=(KP.out w4 b4).1;have zf:=(KP.out w4 b4).2.1;have zl:=(KP.out w4 b4).2.2;have FF:=ah (FIN.out w4 q4 k4 b4 iy);clear iy hg4 BI b4))
      go_roundw
      case rel=>exact⟨i,n+1,_,_,A'.eraseIdx i,om,om,rfl,by go_num,G,(FF.out _ rfl).1,by rw[HLN.out];omega,by rw[HLN.out];omega,HLE,(FF.out _ rfl).2,SUB⟩
      case measure=>simp[intOf]
    ·have b3:decide (gF s=0)=false:=decide_eq_false h3
     have b3':decide (0<gF s)=true:=decide_eq_true om
     have b3'':decide ((0:Int)<(gF s:Int))=true:=decide_eq_true om
     have ST:=ah (STAY.out (fun q=>by unfold goS at q;simp[h3] at q))
     clear STAY GO
     generalize gF s=ms at*
     go_wp2_with fail
     refine MN.out.mono ?_
     rintro r w1 ⟨rfl,rfl⟩
     go_wp2
     go_roundw
     case rel=>exact⟨i,n,c',_,A',om,om,rfl,rfl,ST,HC,by rw[←EN'.out];omega,by rw[←EN'.out];omega,HL,HK,HA⟩
     case measure=>simp[intOf]
   ·have b2:decide (s.nd=nd)=false:=decide_eq_false h2
    have ST:=ah (STAY.out (fun q=>by unfold goS at q;simp[h2] at q))
    clear STAY GO
    go_wp2
    go_roundw
    case rel=>exact⟨i,n,c',_,A',om,om,rfl,rfl,ST,HC,by rw[←EN'.out];omega,by rw[←EN'.out];omega,HL,HK,HA⟩
    case measure=>simp[intOf]
end
end
end Go.Proofs.YtdcbhlcbiokbeaaGreatDoor
