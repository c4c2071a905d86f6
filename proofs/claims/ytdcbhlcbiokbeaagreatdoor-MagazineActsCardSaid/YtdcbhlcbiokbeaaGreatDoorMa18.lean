/- Lemmas and contracts for the claim's last text: RCTaken, AsC, CZ, RD, DZ. -/
import Derived.Test.YtdcbhlcbiokbeaaGreatDoorMa01
import Derived.Test.YtdcbhlcbiokbeaaGreatDoorMa12
import Derived.Test.YtdcbhlcbiokbeaaGreatDoorMa13
import Derived.Test.YtdcbhlcbiokbeaaGreatDoorMa14
import Derived.Test.YtdcbhlcbiokbeaaGreatDoorMa16
import Derived.Test.YtdcbhlcbiokbeaaGreatDoorMa17
set_option linter.unusedSimpArgs false
set_option linter.unusedVariables false
set_option maxHeartbeats 16000000
set_option maxRecDepth 100000
namespace Go.Proofs.YtdcbhlcbiokbeaaGreatDoor
section
open Go.RowKit Go.Maps
attribute [local go_sem ↓] aW aX
section
variable {X Y S M:List Nat} {w w':World} {pc pm gN e:Nat} {mn lw hi:Int} {O:List (List Int)} {v v':Value} {A A':SA} {C:List Sl} {c:Ca} {L':List Nd}
theorem zN (h:RC X w pc pm gN e mn lw hi O M v A c) (hI:l8 e c):
 Calls Tryz.prog 134 #[.pointer (some ⟨pc,0,none⟩)] w fun r w'=>∃v,r= .returned v∧OwnO w w' v (jQ e c.C):=by
 obtain⟨q,kv,ev,kv1,kv2,hrow⟩:=h.b.form
 subst ev
 have e1:=hI.e1;have e2:=hI.e2
 have few:=hI.few
 have HIN:=ah hI
 have rR:=ah hrow;have HC:=ah h.b
 have HL64:Hid (∀s∈c.C,s.T.length≤64):=fun s hs=>by rw[hI.len s hs];unfold iM;exact bU _ _
 have ALL:Hid (c.C.take c.C.length=c.C):=by show _=_;simp
 obtain⟨nn,hnn⟩: ∃nn,nn=c.C.length:=⟨_,rfl⟩
 have EN:=ah hnn
 have OL:Hid (∀i,i≤nn→(jQ e (c.C.take i)).length≤65536):=fun i hi=>by
  have:=xV (e:=e) (C:=c.C.take i) fun s hs=>HL64.out s (d9 hs)
  rw[aQ] at this
  omega
 rw[←hnn] at few kv1 ALL
 unfold maxLen at kv2
 have KC:Hid (∀W,Below w.heap.size w W→W.cell? ⟨pc,1,none⟩=some (.int .i64 e)∧W.cell? ⟨pc,2,none⟩=some (.slice q nn kv)∧pc<W.heap.size):=fun W b=>by
  have t:=h.b.c.go b
  rw[hnn]
  exact⟨t.c 1 _ rfl,t.c 2 _ rfl,t.lt⟩
 clear h hI hrow hnn
 go_enter Tryz.func134,Tryz.ntmps134
 go_wp2_with fail
 go_loopw [3,4] (fun ov iv wr=>∃(i:Nat),i≤nn∧iv= .int .i64 i∧Hid (wr.ownsRow w.heap.size 49 2 ov (jQ e (c.C.take i)).length (jc (jQ e (c.C.take i))))∧Below w.heap.size w wr) (fun _ iv _=>nn-(intOf iv).toNat)
 case atStart=>exact⟨0,om,by go_num,aR _ _ _ _,aJ _ _⟩
 case round=>
  obtain⟨i,hile,rfl,HO,hbel⟩:=hrel
  obtain⟨c1,c2,cl⟩:=KC.out _ hbel
  by_cases hin:i<nn
  ·obtain⟨s,hs⟩: ∃s,c.C[i]?=some s:=⟨c.C[i]'(by rw[←EN.out];exact hin),au _⟩
   obtain⟨p,hp,hsl⟩:=HC.out.at hs
   obtain⟨g,of,rfl,hg,hc0⟩:=rR.out i p hp
   have hik:i<kv:=om
   have hsm:=aB hs
   obtain⟨_,_,r3,r4⟩:=HIN.out.rng hsm
   have l64:=HL64.out s hsm
   have OLi:=OL.out i hile
   have SN:=ah (zF (e:=e) hs)
   have HKA:=ah (xS e s)
   obtain⟨l,hll⟩: ∃l,l=s.T.length:=⟨_,rfl⟩
   have HLL:=ah hll
   rw[←hll] at l64 HKA
   have hli:(i:Int)<(nn:Int):=om
   have hl0:(0:Int)≤(i:Int):=om
   have SK:Hid (∀W,Below w.heap.size w W→W.cell? ⟨g,of+i,none⟩=some (.pointer (some ⟨p.1,0,none⟩))∧g<W.heap.size∧W.cell? ⟨p.1,0,none⟩=some (.int .i64 s.nd)∧W.cell? ⟨p.1,1,none⟩=some (.int .i64 s.pg)∧W.cell? ⟨p.1,3,none⟩=some (.slice (some ⟨p.2,0,none⟩) l l)∧p.1<W.heap.size∧p.2<W.heap.size∧iy W p.2 (bools s.T)):=fun W b=>by
    have t:=hsl.below b
    obtain⟨d0,d1,d2,d3,dl,dl2⟩:=t.cells
    rw[hll]
    exact⟨(b.cell (p:=⟨g,of+i,none⟩) hg).trans hc0,aF hg b.size,d0,d1,d3,dl,dl2,t.2⟩
   have HBR:=ah hbel
   clear hc0 hsl hs hp hsm hll hbel hg
   go_wp2_with fail
   clear c1 c2 cl
   go_loopw [3,5] (fun ov kv wi=>∃(k:Nat),k≤l∧kv= .int .i64 k∧Hid (wi.ownsRow w.heap.size 49 2 ov ((jQ e (c.C.take i)).length+(AA e s k).length) (jc (jQ e (c.C.take i)++AA e s k)))∧Below w.heap.size w wi) (fun _ kv _=>l-(intOf kv).toNat)
   case atStart=>exact⟨0,om,by go_num,(show wr.ownsRow _ _ _ _ _ _ from by have:=HO.out;simpa[AA] using this),HBR.out⟩
   case round=>
    obtain⟨k,hkl,rfl,HOk,hbk⟩:=hrel
    obtain⟨c1,c2,cl⟩:=KC.out _ hbk
    obtain⟨ck,gl,y0,y1,y3,yl,yl2,yb⟩:=SK.out _ hbk
    have HYB:=ah yb
    clear yb HBR
    by_cases hlt:k<l
    ·obtain⟨bt,hbt⟩: ∃bt,s.T[k]?=some bt:=⟨s.T[k]'(by rw[←HLL.out];exact hlt),au _⟩
     have ct:=HYB.out.c k _ (jk hbt)
     have hlk:(k:Int)<(l:Int):=om
     have hl0k:(0:Int)≤(k:Int):=om
     cases bt with
     |false=>
      have KN:=ah (FT (e:=e) hbt)
      clear hbt
      go_wp2
      go_round
      case rel=>exact⟨k+1,om,by go_num,by rw[KN.out];exact HOk,hbk⟩
      case measure=>simp[intOf];omega
     |true=>
      have KN:=ah (C9 (e:=e) hbt)
      have ke0:(0:Int)≤(k:Int)*(e:Int):=dL om om
      have ke1:(k:Int)*(e:Int)≤4096:=by
       have:=dB (show k≤64 by omega) e2
       have h2:((k*e:Nat):Int)≤((64*64:Nat):Int):=om
       simpa using h2
      have OLK:=xU e s k
      have HB2:=ah hbk
      have hw1:IntKind.i64.wrap (s.pg*64)=s.pg*64:=aP _ om
      have hw2:IntKind.i64.wrap ((k:Int)*(e:Int))=(k:Int)*(e:Int):=aP _ om
      have hw3:IntKind.i64.wrap (s.pg*64+(k:Int)*(e:Int))=s.pg*64+(k:Int)*(e:Int):=aP _ om
      clear hbt
      go_wp2_with fail
      refine iP (S:=(fun w'=>w'.cell? ⟨p.1,0,none⟩=some (.int .i64 s.nd)∧w'.cell? ⟨p.1,1,none⟩=some (.int .i64 s.pg)∧w'.cell? ⟨pc,1,none⟩=some (.int .i64 e)∧w'.cell? ⟨pc,2,none⟩=some (.slice (some ⟨g,of,none⟩) nn kv)∧w'.cell? ⟨g,of+i,none⟩=some (.pointer (some ⟨p.1,0,none⟩)))) 35 #[false,false,false,false,false,false,false,false,false,false,false,false,false,false,false,false,false,false,false,false,false,false,false,false,false,false,false,false,false,false,false,false,false,false,false] rfl kR kR (by(try dsimp only);go_keep) (fun hHeld=> ?_)
      simp only[aV,bB]
      refine ctk (i:=0) (v:= ?_) rfl (fun _ _ _ h=>h) (Or.inl ⟨rf,?_⟩) ?_
      rotate_left
      ·(intro w hSw;(try dsimp only at hSw);go_simp<;>with_reducible rfl)
      try simp only[Act.put,pA,pZ,pS]
      refine ctk (i:=1) (v:= ?_) rfl (fun _ _ _ h=>h) (Or.inl ⟨rf,?_⟩) ?_
      rotate_left
      ·(intro w hSw;(try dsimp only at hSw);go_simp<;>with_reducible rfl)
      try simp only[Act.put,pA,pZ,pS]
      refine ctk (i:=2) (v:= ?_) rfl (fun _ _ _ h=>h) (Or.inl ⟨rf,?_⟩) ?_
      rotate_left
      ·(intro w hSw;(try dsimp only at hSw);go_simp<;>with_reducible rfl)
      try simp only[Act.put,pA,pZ,pS]
      refine ctk (i:=3) (v:= ?_) rfl (fun _ _ _ h=>h) (Or.inl ⟨rf,?_⟩) ?_
      rotate_left
      ·(intro w hSw;(try dsimp only at hSw);go_simp<;>with_reducible rfl)
      try simp only[Act.put,pA,pZ,pS]
      refine ctk (i:=4) (v:= ?_) rfl (fun _ _ _ h=>h) (Or.inl ⟨rf,?_⟩) ?_
      rotate_left
      ·(intro w hSw;(try dsimp only at hSw);go_simp<;>with_reducible rfl)
      try simp only[Act.put,pA,pZ,pS]
      refine ctk (i:=5) (v:= ?_) rfl (fun _ _ _ h=>h) (Or.inl ⟨rf,?_⟩) ?_
      rotate_left
      ·(intro w hSw;(try dsimp only at hSw);go_simp<;>with_reducible rfl)
      try simp only[Act.put,pA,pZ,pS]
      refine ctk (i:=6) (v:= ?_) rfl (fun _ _ _ h=>h) (Or.inl ⟨rf,?_⟩) ?_
      rotate_left
      ·(intro w hSw;(try dsimp only at hSw);go_simp<;>with_reducible rfl)
      try simp only[Act.put,pA,pZ,pS]
      refine ctk (i:=7) (v:= ?_) rfl (fun _ _ _ h=>h) (Or.inl ⟨rf,?_⟩) ?_
      rotate_left
      ·(intro w hSw;(try dsimp only at hSw);go_simp<;>with_reducible rfl)
      try simp only[Act.put,pA,pZ,pS]
      refine ctk (i:=8) (v:= ?_) rfl (fun _ _ _ h=>h) (Or.inl ⟨rf,?_⟩) ?_
      rotate_left
      ·(intro w hSw;(try dsimp only at hSw);go_simp<;>with_reducible rfl)
      try simp only[Act.put,pA,pZ,pS]
      refine ctk (i:=9) (v:= ?_) rfl (fun _ _ _ h=>h) (Or.inl ⟨rf,?_⟩) ?_
      rotate_left
      ·(intro w hSw;(try dsimp only at hSw);go_simp<;>with_reducible rfl)
      try simp only[Act.put,pA,pZ,pS]
      refine ctk (i:=10) (v:= ?_) rfl (fun _ _ _ h=>h) (Or.inl ⟨rf,?_⟩) ?_
      rotate_left
      ·(intro w hSw;(try dsimp only at hSw);go_simp<;>with_reducible rfl)
      try simp only[Act.put,pA,pZ,pS]
      refine ctk (i:=11) (v:= ?_) rfl (fun _ _ _ h=>h) (Or.inl ⟨rf,?_⟩) ?_
      rotate_left
      ·(intro w hSw;(try dsimp only at hSw);go_simp<;>with_reducible rfl)
      try simp only[Act.put,pA,pZ,pS]
      refine ctk (i:=12) (v:= ?_) rfl (fun _ _ _ h=>h) (Or.inl ⟨rf,?_⟩) ?_
      rotate_left
      ·(intro w hSw;(try dsimp only at hSw);go_simp<;>with_reducible rfl)
      try simp only[Act.put,pA,pZ,pS]
      refine ctk (i:=13) (v:= ?_) rfl (fun _ _ _ h=>h) (Or.inl ⟨rf,?_⟩) ?_
      rotate_left
      ·(intro w hSw;(try dsimp only at hSw);go_simp<;>with_reducible rfl)
      try simp only[Act.put,pA,pZ,pS]
      refine ctk (i:=14) (v:= ?_) rfl (fun _ _ _ h=>h) (Or.inl ⟨rf,?_⟩) ?_
      rotate_left
      ·(intro w hSw;(try dsimp only at hSw);go_simp<;>with_reducible rfl)
      try simp only[Act.put,pA,pZ,pS]
      refine ctk (i:=15) (v:= ?_) rfl (fun _ _ _ h=>h) (Or.inl ⟨rf,?_⟩) ?_
      rotate_left
      ·(intro w hSw;(try dsimp only at hSw);go_simp<;>with_reducible rfl)
      try simp only[Act.put,pA,pZ,pS]
      refine ctk (i:=16) (v:= ?_) rfl (fun _ _ _ h=>h) (Or.inl ⟨rf,?_⟩) ?_
      rotate_left
      ·(intro w hSw;(try dsimp only at hSw);go_simp<;>with_reducible rfl)
      try simp only[Act.put,pA,pZ,pS]
      refine ctk (i:=17) (v:= ?_) rfl (fun _ _ _ h=>h) (Or.inl ⟨rf,?_⟩) ?_
      rotate_left
      ·(intro w hSw;(try dsimp only at hSw);go_simp<;>with_reducible rfl)
      try simp only[Act.put,pA,pZ,pS]
      refine ctk (i:=18) (v:= ?_) rfl (fun _ _ _ h=>h) (Or.inl ⟨rf,?_⟩) ?_
      rotate_left
      ·(intro w hSw;(try dsimp only at hSw);go_simp<;>with_reducible rfl)
      try simp only[Act.put,pA,pZ,pS]
      refine ctk (i:=19) (v:= ?_) rfl (fun _ _ _ h=>h) (Or.inl ⟨rf,?_⟩) ?_
      rotate_left
      ·(intro w hSw;(try dsimp only at hSw);go_simp<;>with_reducible rfl)
      try simp only[Act.put,pA,pZ,pS]
      refine ctk (i:=20) (v:= ?_) rfl (fun _ _ _ h=>h) (Or.inl ⟨rf,?_⟩) ?_
      rotate_left
      ·(intro w hSw;(try dsimp only at hSw);go_simp<;>with_reducible rfl)
      try simp only[Act.put,pA,pZ,pS]
      refine ctk (i:=21) (v:= ?_) rfl (fun _ _ _ h=>h) (Or.inl ⟨rf,?_⟩) ?_
      rotate_left
      ·(intro w hSw;(try dsimp only at hSw);go_simp<;>with_reducible rfl)
      try simp only[Act.put,pA,pZ,pS]
      refine ctk (i:=22) (v:= ?_) rfl (fun _ _ _ h=>h) (Or.inl ⟨rf,?_⟩) ?_
      rotate_left
      ·(intro w hSw;(try dsimp only at hSw);go_simp<;>with_reducible rfl)
      try simp only[Act.put,pA,pZ,pS]
      refine ctk (i:=23) (v:= ?_) rfl (fun _ _ _ h=>h) (Or.inl ⟨rf,?_⟩) ?_
      rotate_left
      ·(intro w hSw;(try dsimp only at hSw);go_simp<;>with_reducible rfl)
      try simp only[Act.put,pA,pZ,pS]
      refine ctk (i:=24) (v:= ?_) rfl (fun _ _ _ h=>h) (Or.inl ⟨rf,?_⟩) ?_
      rotate_left
      ·(intro w hSw;(try dsimp only at hSw);go_simp<;>with_reducible rfl)
      try simp only[Act.put,pA,pZ,pS]
      refine ctk (i:=25) (v:= ?_) rfl (fun _ _ _ h=>h) (Or.inl ⟨rf,?_⟩) ?_
      rotate_left
      ·(intro w hSw;(try dsimp only at hSw);go_simp<;>with_reducible rfl)
      try simp only[Act.put,pA,pZ,pS]
      refine ctk (i:=26) (v:= ?_) rfl (fun _ _ _ h=>h) (Or.inl ⟨rf,?_⟩) ?_
      rotate_left
      ·(intro w hSw;(try dsimp only at hSw);go_simp<;>with_reducible rfl)
      try simp only[Act.put,pA,pZ,pS]
      refine ctk (i:=27) (v:= ?_) rfl (fun _ _ _ h=>h) (Or.inl ⟨rf,?_⟩) ?_
      rotate_left
      ·(intro w hSw;(try dsimp only at hSw);go_simp<;>with_reducible rfl)
      try simp only[Act.put,pA,pZ,pS]
      refine ctk (i:=28) (v:= ?_) rfl (fun _ _ _ h=>h) (Or.inl ⟨rf,?_⟩) ?_
      rotate_left
      ·(intro w hSw;(try dsimp only at hSw);go_simp<;>with_reducible rfl)
      try simp only[Act.put,pA,pZ,pS]
      refine ctk (i:=29) (v:= ?_) rfl (fun _ _ _ h=>h) (Or.inl ⟨rf,?_⟩) ?_
      rotate_left
      ·(intro w hSw;(try dsimp only at hSw);go_simp<;>with_reducible rfl)
      try simp only[Act.put,pA,pZ,pS]
      refine ctk (i:=30) (v:= ?_) rfl (fun _ _ _ h=>h) (Or.inl ⟨rf,?_⟩) ?_
      rotate_left
      ·(intro w hSw;(try dsimp only at hSw);go_simp<;>with_reducible rfl)
      try simp only[Act.put,pA,pZ,pS]
      refine ctk (i:=31) (v:= ?_) rfl (fun _ _ _ h=>h) (Or.inl ⟨rf,?_⟩) ?_
      rotate_left
      ·(intro w hSw;(try dsimp only at hSw);go_simp<;>with_reducible rfl)
      try simp only[Act.put,pA,pZ,pS]
      refine ctk (i:=32) (v:= ?_) rfl (fun _ _ _ h=>h) (Or.inl ⟨rf,?_⟩) ?_
      rotate_left
      ·(intro w hSw;(try dsimp only at hSw);go_simp<;>with_reducible rfl)
      try simp only[Act.put,pA,pZ,pS]
      refine wpAnyH_ready (rs:=[33]) kR sI ?_
      refine aY (iH rfl) (fun K hK=> ?_) bC
      go_simp
      refine hK.out _ _ (by(try dsimp only);go_keep) (fun hHeld=> ?_)
      clear hK K
      try simp only[Act.put,pA,pZ,pS]
      refine wpAnyH_ready (rs:=[34]) kR sI ?_
      refine aY (iH rfl) (fun K hK=> ?_) bC
      refine zx sH (base:=w.heap.size) (ms:=[.int .i64 s.nd,.int .i64 (s.pg*64+(k:Int)*(e:Int))]) rf (.tmp 43) (.tmp 76) rf rf rf ((HOk.out.alloc _).drew) rfl (fun j u hj=>nN wr _ _ _ j u hj) (nO _ _) om (by have:=HB2.out.size;simp;omega) ?_
      intro q4 k4 w4 iK hg4
      have hb4:Below w.heap.size w w4:=(HB2.out.alloc (by have:=HB2.out.size;simpa using this) _).drew.grown hg4 (by have:=HB2.out.size;simp;omega) (fun r hr=>(HOk.out.lt r hr).1)
      obtain⟨zk,zg,z0,z1,z3,zl,zl2,_⟩:=SK.out _ hb4
      obtain⟨zp,zp2,zpl⟩:=KC.out _ hb4
      refine hK.out _ _ (by(try dsimp only);go_keep) (fun hHeld=> ?_)
      clear hK K
      try simp only[Act.put,pA,pZ,pS]
      refine wpAnyH_done kR ?_ _
      simp only[nR,aS,bq]
      go_wp2
      go_round
      case rel=>
       refine⟨k+1,om,by go_num,?_,hb4⟩
       show World.ownsRow _ _ _ _ _ _ _
       rw[KN.out,aU,←Nat.add_assoc,←cK,jS]
       exact iK
      case measure=>simp[intOf];omega
    ·obtain rfl:k=l:=by omega
     go_wp2
     go_round
     case rel=>
      refine⟨i+1,om,by go_num,?_,hbk⟩
      show World.ownsRow _ _ _ _ _ _ _
      have:=HOk.out
      rw[HKA.out,←aU,←SN.out] at this
      exact this
     case measure=>simp[intOf];omega
  ·obtain rfl:i=nn:=by omega
   have HO':=HO.out
   rw[ALL.out] at HO'
   have HOO:=ah HO'
   clear HO HO'
   go_wp2
   go_ret
   exact⟨_,rfl,HOO.out,hbel⟩
end
end
section
open Go.RowKit Go.Maps
attribute [local go_sem ↓] aW aX
def RdO (w:World) (v:Value) (l:List Ob):Prop:=∃q k,v= .slice q l.length k∧l.length≤k∧k≤maxLen∧∀(j:Nat) (o:Ob),l[j]?=some o→∃g off,q=some ⟨g,off,none⟩∧g<w.heap.size∧w.cell? ⟨g,off+j*2,none⟩=some (.int .i64 o.1)∧w.cell? ⟨g,off+j*2+1,none⟩=some (.int .i64 o.2)
theorem RdO.below {w w':World} {v:Value} {l:List Ob} (h:RdO w v l) (k:Below w.heap.size w w'):RdO w' v l:=by
 obtain⟨q,c,h1,h2,h3,h4⟩:=h
 refine⟨q,c,h1,h2,h3,fun j o hj=> ?_⟩
 obtain⟨g,off,e1,e2,e3,e4⟩:=h4 j o hj
 exact⟨g,off,e1,aF e2 k.size,(k.cell (p:=⟨g,off+j*2,none⟩) e2).trans e3,(k.cell (p:=⟨g,off+j*2+1,none⟩) e2).trans e4⟩
theorem AX {base:Nat} {w:World} {v:Value} {l:List Ob} (h:w.ownsRow base 49 2 v l.length (jc l)):RdO w v l:=by
 have ho:=h
 obtain⟨_,h2⟩:=h
 rcases h2 with⟨rfl,h3⟩|⟨g,cap,cur,rfl,hg,hh,hcap,hmax,_⟩
 ·have hl:l=[]:=eF.1 h3
  subst hl
  exact⟨none,0,rfl,aI _,aO _,fun j o hj=>by simp at hj⟩
 ·refine⟨some ⟨g,0,none⟩,cap,rfl,hcap,hmax,fun j o hj=>⟨g,0,rfl,(ho.lt g rfl).2,?_⟩⟩
  have hlt:j<l.length:=(aj.1 hj).1
  obtain⟨e1,e2⟩:=oh l j o.1 o.2 hj
  rw[bO,ho.cellAt (j*2) om,ho.cellAt (j*2+1) om]
  exact⟨e1,e2⟩
def RdP (w:World) (v:Value) (l:List Pl):Prop:=∃q k,v= .slice q l.length k∧l.length≤k∧k≤maxLen∧∀(j:Nat) (o:Pl),l[j]?=some o→∃g off,q=some ⟨g,off,none⟩∧g<w.heap.size∧w.cell? ⟨g,off+j*3,none⟩=some (.int .i64 o.1)∧w.cell? ⟨g,off+j*3+1,none⟩=some (.int .i64 o.2.1)∧w.cell? ⟨g,off+j*3+2,none⟩=some (.int .i64 o.2.2)
theorem RdP.below {w w':World} {v:Value} {l:List Pl} (h:RdP w v l) (k:Below w.heap.size w w'):RdP w' v l:=by
 obtain⟨q,c,h1,h2,h3,h4⟩:=h
 refine⟨q,c,h1,h2,h3,fun j o hj=> ?_⟩
 obtain⟨g,off,e1,e2,e3,e4,e5⟩:=h4 j o hj
 exact⟨g,off,e1,aF e2 k.size,(k.cell (p:=⟨g,off+j*3,none⟩) e2).trans e3,(k.cell (p:=⟨g,off+j*3+1,none⟩) e2).trans e4,(k.cell (p:=⟨g,off+j*3+2,none⟩) e2).trans e5⟩
theorem Cm: ∀(l:List Pl) (j:Nat) (o:Pl),l[j]?=some o→(AJ l)[j*3]?=some (.int .i64 o.1)∧(AJ l)[j*3+1]?=some (.int .i64 o.2.1)∧(AJ l)[j*3+2]?=some (.int .i64 o.2.2)
 |[],j,o,h=>by simp at h
 |a::l,0,o,h=>by simp at h;subst h;simp[AJ]
 |a::l,j+1,o,h=>by
  have ih:=Cm l j o (by simpa using h)
  have e:AJ (a::l)= .int .i64 a.1:: .int .i64 a.2.1:: .int .i64 a.2.2::AJ l:=by simp[AJ]
  rw[e,show(j+1)*3=j*3+1+1+1 from om]
  simpa using ih
theorem Gx {base:Nat} {w:World} {v:Value} {l:List Pl} (h:w.ownsRow base 61 3 v l.length (AJ l)):RdP w v l:=by
 have ho:=h
 obtain⟨_,h2⟩:=h
 rcases h2 with⟨rfl,h3⟩|⟨g,cap,cur,rfl,hg,hh,hcap,hmax,_⟩
 ·have hl:l=[]:=eF.1 h3
  subst hl
  exact⟨none,0,rfl,aI _,aO _,fun j o hj=>by simp at hj⟩
 ·refine⟨some ⟨g,0,none⟩,cap,rfl,hcap,hmax,fun j o hj=>⟨g,0,rfl,(ho.lt g rfl).2,?_⟩⟩
  have hlt:j<l.length:=(aj.1 hj).1
  obtain⟨e1,e2,e3⟩:=Cm l j o hj
  rw[bO,ho.cellAt (j*3) om,ho.cellAt (j*3+1) om,ho.cellAt (j*3+2) om]
  exact⟨e1,e2,e3⟩
theorem neqO2 (a k b m:Int) (w:World):(binOp .neq 49 (.agg #[.int .i64 a,.int .i64 k]) (.agg #[.int .i64 b,.int .i64 m])).run Tryz.prog w= .ok (.bool (!(a==b&&k==m))) w:=by
 have u3:=bg
 have a3:=fD
 have z3:=fA
 have hS:Tryz.prog.underlying 49=some (.struct (Tryz.prog.fieldsOf 49)):=kR
 have hp:Tryz.prog.stoodInHeld 49=false:=kR
 rw[run_neq_struct,show(10000:Nat)=9999+1 from rfl,run_equalIn_agg w 9999 49 _ _ hS hp]
 simp only[Program.fieldsOf,Tryz.underlying49]
 go_simp
 by_cases h1:a=b<;>by_cases h2:k=m<;>simp[h1,h2]
theorem Gy (va vb:Value) (l:List Ob) (w:World) (ha:RdO w va l) (hb:RdO w vb l):
 Calls Tryz.prog 139 #[va,vb] w fun e w'=>e= .returned (.bool true)∧Below w.heap.size w w':=by
 have eb:=neqO2;have gb:=vg
 have HA:=ah ha;have HB:=ah hb
 obtain⟨q,k,rfl,k1,k2,_⟩:=ha
 obtain⟨q',k',rfl,k1',k2',_⟩:=hb
 obtain⟨n,hn⟩: ∃n,n=l.length:=⟨_,rfl⟩
 have HN:=ah hn
 rw[←hn] at k1 k1' HA HB ⊢
 unfold maxLen at k2 k2'
 clear hn
 go_enter Tryz.func139,Tryz.ntmps139
 go_wp2_with fail
 go_loopw [5] (fun i wr=>∃j:Nat,j≤n∧i= .int .i64 j∧Below w.heap.size w wr) (fun i _=>n-(intOf i).toNat)
 case atStart=>exact⟨0,aO _,rfl,aJ _ _⟩
 case round=>
  obtain⟨j,hj,rfl,hbel⟩:=hrel
  by_cases hlt:j<n
  ·obtain⟨o,ho⟩: ∃o,l[j]?=some o:=⟨l[j]'(by rw[←HN.out];exact hlt),au _⟩
   have hA:=HA.out;have hB:=HB.out
   rw[HN.out] at hA hB
   obtain⟨qa,ca,ea,_,_,h4⟩:=(show RdO w _ l from hA).below hbel
   obtain⟨qb,cb,eb',_,_,h5⟩:=(show RdO w _ l from hB).below hbel
   have ea1:=(dM ea).1;have eb1:=(dM eb').1
   clear ea eb'
   obtain⟨g,of,eg,gl,c0,c1⟩:=h4 j o ho
   obtain⟨g',of',eg',gl',c0',c1'⟩:=h5 j o ho
   have e1:=ea1.trans eg;have e2:=eb1.trans eg'
   subst e1 e2
   have hji:(j:Int)<(n:Int):=om
   have hj0:(0:Int)≤(j:Int):=om
   have HBL:=ah hbel
   clear hA hB h4 h5 ea1 eb1 eg eg' ho hbel HA HB
   go_wp2_with fail
   go_quiet (fail)
   go_wp2
   go_round
   case rel=>exact⟨j+1,om,by go_num,HBL.out.trans iB⟩
   case measure=>simp[intOf];omega
  ·go_wp2
   go_ret
   exact⟨rfl,hbel⟩
theorem Gz (va vb:Value) (l:List Pl) (w:World) (ha:RdP w va l) (hb:RdP w vb l):
 Calls Tryz.prog 136 #[va,vb] w fun e w'=>e= .returned (.bool true)∧Below w.heap.size w w':=by
 have eb:=neqP;have gb:=guardP
 have HA:=ah ha;have HB:=ah hb
 obtain⟨q,k,rfl,k1,k2,_⟩:=ha
 obtain⟨q',k',rfl,k1',k2',_⟩:=hb
 obtain⟨n,hn⟩: ∃n,n=l.length:=⟨_,rfl⟩
 have HN:=ah hn
 rw[←hn] at k1 k1' HA HB ⊢
 unfold maxLen at k2 k2'
 clear hn
 go_enter Tryz.func136,Tryz.ntmps136
 go_wp2_with fail
 go_loopw [5] (fun i wr=>∃j:Nat,j≤n∧i= .int .i64 j∧Below w.heap.size w wr) (fun i _=>n-(intOf i).toNat)
 case atStart=>exact⟨0,aO _,rfl,aJ _ _⟩
 case round=>
  obtain⟨j,hj,rfl,hbel⟩:=hrel
  by_cases hlt:j<n
  ·obtain⟨o,ho⟩: ∃o,l[j]?=some o:=⟨l[j]'(by rw[←HN.out];exact hlt),au _⟩
   have hA:=HA.out;have hB:=HB.out
   rw[HN.out] at hA hB
   obtain⟨qa,ca,ea,_,_,h4⟩:=(show RdP w _ l from hA).below hbel
   obtain⟨qb,cb,eb',_,_,h5⟩:=(show RdP w _ l from hB).below hbel
   have ea1:=(dM ea).1;have eb1:=(dM eb').1
   clear ea eb'
   obtain⟨g,of,eg,gl,c0,c1,c2⟩:=h4 j o ho
   obtain⟨g',of',eg',gl',c0',c1',c2'⟩:=h5 j o ho
   have e1:=ea1.trans eg;have e2:=eb1.trans eg'
   subst e1 e2
   have hji:(j:Int)<(n:Int):=om
   have hj0:(0:Int)≤(j:Int):=om
   have HBL:=ah hbel
   clear hA hB h4 h5 ea1 eb1 eg eg' ho hbel HA HB
   go_wp2_with fail
   go_quiet (fail)
   go_wp2
   go_round
   case rel=>exact⟨j+1,om,by go_num,HBL.out.trans iB⟩
   case measure=>simp[intOf];omega
  ·go_wp2
   go_ret
   exact⟨rfl,hbel⟩
section
variable {X Y S M:List Nat} {w w':World} {B pc pz pcm pm gN e:Nat} {mn lw hi:Int} {O:List (List Int)} {v v' vs:Value} {A A' As:SA} {C:List Sl} {c:Ca} {L':List Nd}
theorem GA (h:RC X w pcm pm gN e mn lw hi O M v A c) (hI:l8 e c):
 Calls Tryz.prog 138 #[v] w fun r w'=>∃q k,r= .returned (.slice q c.C.length k)∧w'.ownsRow w.heap.size 61 3 (.slice q c.C.length k) c.C.length (AJ (kJ c.C))∧Below w.heap.size w w':=by
 obtain⟨qv,kv,evs,kv1,kv2,hrow⟩:=h.b.form
 subst evs
 have few:=hI.few
 have rR:=ah hrow;have HC:=ah h.b
 have ALL:Hid (c.C.take c.C.length=c.C):=by show _=_;simp
 obtain⟨nn,hnn⟩: ∃nn,nn=c.C.length:=⟨_,rfl⟩
 have EN:=ah hnn
 rw[←hnn] at few kv1 ALL ⊢
 unfold maxLen at kv2
 clear h hI hrow hnn
 go_enter Tryz.func138,Tryz.ntmps138
 go_wp2_with fail
 go_loopw [3,4] (fun ov iv wr=>∃(i:Nat) (q:Option Addr) (k:Nat),i≤nn∧iv= .int .i64 i∧ov= .slice q i k∧Hid (wr.ownsRow w.heap.size 61 3 (.slice q i k) i (AJ (kJ (c.C.take i))))∧Below w.heap.size w wr) (fun _ iv _=>nn-(intOf iv).toNat)
 case atStart=>exact⟨0,none,0,om,by go_num,rfl,aR _ _ _ _,aJ _ _⟩
 case round=>
  obtain⟨i,q,k,hile,rfl,rfl,HO,hbel⟩:=hrel
  by_cases hin:i<nn
  ·obtain⟨s,hs⟩: ∃s,c.C[i]?=some s:=⟨c.C[i]'(by rw[←EN.out];exact hin),au _⟩
   obtain⟨p,hp,hsl0⟩:=HC.out.at hs
   have hsl:=hsl0.below hbel
   obtain⟨g,of,rfl,hg,hc0⟩:=rR.out i p hp
   have ck:wr.cell? ⟨g,of+i,none⟩=some (.pointer (some ⟨p.1,0,none⟩)):=(hbel.cell (p:=⟨g,of+i,none⟩) hg).trans hc0
   have gl:g<wr.heap.size:=aF hg hbel.size
   have hik:i<kv:=om
   obtain⟨d0,d1,d2,d3,dl,dl2⟩:=hsl.cells
   have SN:=ah (vw hs)
   have HB:=ah hbel
   have hji:(i:Int)<(nn:Int):=om
   have hj0:(0:Int)≤(i:Int):=om
   clear hc0 hsl hsl0 hs hp
   go_wp2_with (first|(at_builtin;refine vk elPl (base:=w.heap.size) (v:=.slice q i k) (n:=i) (ms:=[.int .i64 s.nd,.int .i64 s.pg,.int .i64 0]) rf (.tmp 11) (.tmp 19) rf rf rf (HO.out.alloc _) rfl (zy _ _ _ _ _) (by intro u hu;simp at hu;rcases hu with rfl|rfl|rfl<;>rfl) om (by have:=HB.out.size;simp;omega) ?_;intro q4 k4 w4 iK hg4))
   have hb4:Below w.heap.size w w4:=(HB.out.alloc (by have:=HB.out.size;simpa using this) _).grown hg4 (by have:=HB.out.size;simp;omega) (fun r hr=>(HO.out.lt r hr).1)
   have HO4:=ah iK
   clear iK hg4
   go_wp2
   go_round
   case rel=>exact⟨i+1,q4,k4,om,by go_num,rfl,(show World.ownsRow _ _ _ _ _ _ _ by rw[SN.out,zG];exact HO4.out),hb4⟩
   case measure=>simp[intOf];omega
  ·obtain rfl:i=nn:=by omega
   have HO':=HO.out
   rw[ALL.out] at HO'
   have HOO:=ah HO'
   clear HO HO'
   go_wp2
   go_ret
   exact⟨_,_,rfl,HOO.out,hbel⟩
theorem csize_ok (h:CS B w pc pz mn lw hi O e X vs As c):Calls Tryz.prog 141 #[.pointer (some ⟨pc,0,none⟩)] w fun r w'=>r= .returned (.int .i64 e)∧w'=w:=by
 have c1:=h.ch.c.c 1 _ rfl;have cl:=h.ch.c.lt
 clear h
 go_enter Tryz.func141,Tryz.ntmps141
 go_wp2
 go_ret
 exact⟨rfl,rfl⟩
theorem Dn (h:CS B w pc pz mn lw hi O e X vs As c) (hr:RC X w pcm pm gN e mn lw hi O M v A c) (hI:l8 e c):
 Calls Tryz.prog 32 #[.pointer (some ⟨pc,0,none⟩),.pointer (some ⟨pcm,0,none⟩)] w fun r w'=>r= .returned (.int .i64 1)∧Below w.heap.size w w':=by
 have HC:=ah h;have HR:=ah hr;have HI:=ah hI
 have e1:=hI.e1;have e2:=hI.e2
 have few:=hI.few
 have ofew:=jy hI
 have TO:=ah (zN hr hI)
 obtain⟨q0,k0,ev,kv1,kv2,_⟩:=hr.b.form
 subst ev
 have LT:Hid ((jQ e c.C).length=nD c.C):=x9 e c.C
 have LR:Hid (tH c.C=c.C.length*iM e):=Ay _ _ _ fun s hs=>hI.len s hs
 have r64:iM e≤64:=by unfold iM;exact bU _ _
 have LP:Hid ((kJ c.C).length=c.C.length):=Da c.C
 clear h hr hI
 go_enter Tryz.func32,Tryz.ntmps32
 go_wp2_with fail
 refine TO.out.mono ?_
 rintro r w1 ⟨v5,rfl,hown,hb1⟩
 obtain⟨q5,k5,ev5,k51,k52,_⟩:=AX hown
 subst ev5
 have HO1:=ah (AX hown)
 have HB1:=ah hb1
 have z1:=hb1.size
 have CO:=ah (count_ok (HC.out.below hb1) HI.out)
 clear TO hown hb1
 go_wp2_with fail
 refine CO.out.mono ?_
 rintro r w2 ⟨rfl,hb2⟩
 have B2:=ah (HB1.out.trans (hb2.mono z1))
 have z2:=hb2.size
 have HO2:=ah (HO1.out.below hb2)
 have C2:=ah (HC.out.below B2.out);have R2:=ah (HR.out.below B2.out)
 obtain⟨n,hn⟩: ∃n,n=c.C.length:=⟨_,rfl⟩
 have HN:=ah hn
 obtain⟨t,ht⟩: ∃t,t=nD c.C:=⟨_,rfl⟩
 have lt:=LT.out
 rw[←ht] at lt ⊢
 rw[lt] at k51 ⊢
 obtain⟨rm,hrm⟩: ∃rm,rm=n*iM e:=⟨_,rfl⟩
 have hrn:tH c.C=rm:=by rw[hrm,hn];exact LR.out
 rw[hrn]
 have hrm1:rm≤65536:=by
  have:=dB (show n≤1024 by omega) r64
  omega
 have hmul:IntKind.i64.wrap ((n:Int)*((iM e:Nat):Int))=(rm:Int):=by
  have:(n:Int)*((iM e:Nat):Int)=(rm:Int):=by rw[hrm];simp
  rw[this];exact aP _ om
 have en0: ¬((e:Int)=0):=om
 have en1: ¬(e=0):=om
 have hq0:(64:Int) / (e:Int)=(iM e:Int):=by unfold iM;rw[Int.natCast_ediv];rfl
 have hq:(64:Int).tdiv (e:Int)=(iM e:Int):=by rw[dQ om];exact hq0
 have hwr:IntKind.i64.wrap ((iM e:Nat):Int)=(iM e:Int):=aP _ om
 have EVO:Hid (Value.slice q5 (jQ e c.C).length k5= .slice q5 t k5):=by show _=_;rw[lt]
 have D0:Hid (∀W,Below w2.heap.size w2 W→W.cell? ⟨pcm,1,none⟩=some (.int .i64 e)):=fun W b=>(R2.out.below b).b.c.c 1 _ rfl
 have D1:Hid (∀W,Below w2.heap.size w2 W→W.cell? ⟨pcm,2,none⟩=some (.slice q0 n k0)):=fun W b=>by rw[hn];exact(R2.out.below b).b.c.c 2 _ rfl
 have SL:Hid (∀W,Below w2.heap.size w2 W→Calls Tryz.prog 137 #[.pointer (some ⟨pc,0,none⟩)] W fun r w'=>∃q k,r= .returned (.slice q n k)∧RdP w' (.slice q n k) (kJ c.C)∧Below W.heap.size W w'):=fun W b=>(FV (C2.out.below b) HI.out).mono fun r w' ⟨q,k,h1,h2,h3⟩=>⟨q,k,by rw[hn];exact h1,by rw[hn];rw[←LP.out] at h2 ⊢;exact Gx h2,h3⟩
 have PL:Hid (∀W,Below w2.heap.size w2 W→Calls Tryz.prog 138 #[.slice q0 n k0] W fun r w'=>∃q k,r= .returned (.slice q n k)∧RdP w' (.slice q n k) (kJ c.C)∧Below W.heap.size W w'):=fun W b=>by
  have:=GA (R2.out.below b) HI.out
  rw[hn]
  exact this.mono fun r w' ⟨q,k,h1,h2,h3⟩=>⟨q,k,h1,by rw[←LP.out] at h2 ⊢;exact Gx h2,h3⟩
 have SP:Hid (∀(W:World) (qa qb:Option Addr) (ka kb:Nat),RdP W (.slice qa n ka) (kJ c.C)→RdP W (.slice qb n kb) (kJ c.C)→Calls Tryz.prog 136 #[.slice qa n ka,.slice qb n kb] W fun e w'=>e= .returned (.bool true)∧Below W.heap.size W w'):=fun W qa qb ka kb h1 h2=>Gz _ _ _ W h1 h2
 have TK:Hid (∀W,Below w2.heap.size w2 W→Calls Tryz.prog 140 #[.pointer (some ⟨pc,0,none⟩)] W fun r w'=>∃q k,r= .returned (.slice q t k)∧RdO w' (.slice q t k) (jQ e c.C)∧Below W.heap.size W w'):=fun W b=>(FU (C2.out.below b) HI.out).mono fun r w' ⟨vv,h1,h2,h3⟩=>by
  have h4:=AX h2
  obtain⟨q,k,h5,_⟩:=id h4
  rw[lt] at h5
  subst h5
  exact⟨q,k,h1,h4,h3⟩
 have SO:Hid (∀(W:World) (qa:Option Addr) (ka:Nat),RdO W (.slice qa t ka) (jQ e c.C)→Below w2.heap.size w2 W→Calls Tryz.prog 139 #[.slice qa t ka,.slice q5 t k5] W fun e w'=>e= .returned (.bool true)∧Below W.heap.size W w'):=fun W qa ka h1 b=>Gy _ _ _ W h1 (by rw[←EVO.out];exact HO2.out.below b)
 have SZ:Hid (∀W,Below w2.heap.size w2 W→Calls Tryz.prog 141 #[.pointer (some ⟨pc,0,none⟩)] W fun r w'=>r= .returned (.int .i64 e)∧w'=W):=fun W b=>csize_ok (C2.out.below b)
 have x0:=D0.out _ (aJ _ _);have x1:=D1.out _ (aJ _ _)
 have PL0:Hid (pcm<w2.heap.size):=R2.out.b.c.lt
 have pl0:=PL0.out
 unfold maxLen at kv2 k52
 clear HO1 HC HR HB1 CO hb2 hn ht lt hrm hrn LT LR kv1
 go_wp2_with fail
 go_region_held3 (fun w'=>w'.cell? ⟨pcm,1,none⟩=some (.int .i64 e)∧w'.cell? ⟨pcm,2,none⟩=some (.slice q0 n k0)) (go_keep) (first
  |(go_at_call 137;refine(SL.out _ iB).mono ?_;rintro e' wa ⟨qa,ka,rfl,hra,hba⟩;have cba:Below w2.heap.size w2 wa:=(show Below w2.heap.size w2 _ from iB).trans (hba.mono sI);have xa0:=D0.out _ cba;have xa1:=D1.out _ cba)
  |(go_at_call 138;refine(PL.out _ cba).mono ?_;rintro e' wb ⟨qb,kb,rfl,hrb,hbb⟩;have cbb:Below w2.heap.size w2 wb:=cba.trans (hbb.mono cba.size);have xb0:=D0.out _ cbb;have xb1:=D1.out _ cbb)
  |(go_at_call 136;refine(SP.out _ _ _ _ _ (hra.below hbb) hrb).mono ?_;rintro e' wc ⟨rfl,hbc⟩;have cbc:Below w2.heap.size w2 wc:=cbb.trans (hbc.mono cbb.size);have xc0:=D0.out _ cbc;have xc1:=D1.out _ cbc)
  |(go_at_call 140;refine(TK.out _ cbc).mono ?_;rintro e' wd ⟨qd,kd,rfl,hrd,hbd⟩;have cbd:Below w2.heap.size w2 wd:=cbc.trans (hbd.mono cbc.size);have xd0:=D0.out _ cbd;have xd1:=D1.out _ cbd)
  |(go_at_call 139;refine(SO.out _ _ _ hrd cbd).mono ?_;rintro e' we ⟨rfl,hbe⟩;have cbe:Below w2.heap.size w2 we:=cbd.trans (hbe.mono cbd.size);have xe0:=D0.out _ cbe;have xe1:=D1.out _ cbe)
  |(go_at_call 141;refine(SZ.out _ cbe).mono ?_;rintro e' wf ⟨rfl,rfl⟩))
 all_goals
  have KE:Below w.heap.size w _:=B2.out.trans (cbe.mono (by have:=B2.out.size;omega))
  go_wp2
  go_ret
  exact⟨sI,KE⟩
end
end
section
open Go.RowKit Go.Maps
attribute [local go_sem ↓] aW aX
structure CZS (w0:World) (X:List Nat) (pc pz pcm pm gN e:Nat) (mn lw hi:Int) (O:List (List Int)) (M:List Nat) (vs v:Value) (As A:SA) (c d:Ca) (w:World):Prop where
 cs:CS w0.heap.size w pc pz mn lw hi O e X vs As c
 rc:RC X w pcm pm gN e mn lw hi O M v A d
 dis: ∀y∈rcs pcm pm gN A M,y∉cay pc vs As∧y∉ys c.L
 lim: ∀x∈X,w0.heap.size≤x∧x<w.heap.size
 bel:Below w0.heap.size w0 w
def CZX (w0:World) (X F:List Nat) (pc pz pcm pm gN e:Nat) (mn lw hi:Int) (O:List (List Int)) (c d:Ca) (w:World):Prop:=∃M vs v As A,CZS w0 X pc pz pcm pm gN e mn lw hi O M vs v As A c d w∧∀f∈F,f∈X∧f∉cay pc vs As++ys c.L++rcs pcm pm gN A M
section
variable {X Y S M M' F G:List Nat} {w w' w0:World} {ev:Nat→Addr} {pc pz pcm pm gN e:Nat} {mn lw hi:Int} {O:List (List Int)} {v v' vs vs':Value} {A A' As As':SA} {c c' d d':Ca} {L':List Nd}
def CZPost (w0:World) (X F:List Nat) (pc pz pcm pm gN e:Nat) (mn lw hi:Int) (O:List (List Int)) (c d:Ca) (w:World) (r:Value) (en:Ending) (w':World):Prop:=
 en= .returned r∧∃X',CZX w0 X' F pc pz pcm pm gN e mn lw hi O c d w'∧Keep (off X F) w w'∧∀x∈X',x∈X∨w.heap.size≤x
theorem takeZ_le (mn:Int) (O:List (List Int)) (L:List Nd) (v k:Int) (u:Bool):(j4 mn O L v k u).2.1≤10:=by
 unfold j4
 split
 ·simp
 split
 ·rcases BN k L with q|q<;>simp[q]
 split
 ·simp
 split<;>simp
theorem Dp (j:Int) (u:Bool):(takeC mn O e c j u).2.1≤10:=by
 unfold takeC
 split
 ·simp
 split
 ·split<;>simp
 ·split
  ·simp
  ·exact takeZ_le mn O c.L j 0 u
end
end
section
open Go.RowKit Go.Maps
attribute [local go_sem ↓] aW aX
structure RDB (X:List Nat) (w:World) (pd pc gh:Nat) (V:HV) (vp:Value) (U:List Value) (H:List Hd) (P:List (List Ob)):Prop where
 d:iy w pd [.pointer (some ⟨pc,0,none⟩),.slice (some ⟨gh,0,none⟩) H.length H.length,vp]
 hs:iy w gh (iX V)
 hl:V.length=H.length
 ho: ∀(i:Nat) (p:Value×Value) (h:Hd),V[i]?=some p→H[i]?=some h→j5 X w p.1 h.1∧j5 X w p.2 h.2
 row:jT X w vp U
 ul:U.length=P.length
 po: ∀(i:Nat) (u:Value) (m:List Ob),U[i]?=some u→P[i]?=some m→j5 X w u m
 mem:pd∈X∧gh∈X
 ne:pd≠gh
structure RD (X:List Nat) (w:World) (pd gh pc pm gN e:Nat) (mn lw hi:Int) (O:List (List Int)) (M:List Nat) (v:Value) (A:SA) (V:HV) (vp:Value) (U:List Value) (d:De):Prop where
 c:RC X w pc pm gN e mn lw hi O M v A d.c
 b:RDB X w pd pc gh V vp U d.H d.P
 ne:pd∉rcs pc pm gN A M∧gh∉rcs pc pm gN A M
def rds (pd gh pc pm gN:Nat) (A:SA) (M:List Nat):List Nat:=pd::gh::rcs pc pm gN A M
section
variable {X Y S M M' F G:List Nat} {w w' w0:World} {ev:Nat→Addr} {pd gh pc pm gN e:Nat} {mn lw hi:Int} {O:List (List Int)} {v v' vp vp':Value} {A A':SA} {V V':HV} {U U':List Value} {d d':De} {H:List Hd} {P P':List (List Ob)} {c c':Ca}
theorem RDB.keep (h:RDB X w pd pc gh V vp U H P) (k:Keep S w w') (hs: ∀s∈S,s≠pd∧s≠gh∧(s∈X∨w.heap.size≤s)):RDB X w' pd pc gh V vp U H P:=
 ⟨h.d.keep k (fun q=>(hs _ q).1 rfl),h.hs.keep k (fun q=>(hs _ q).2.1 rfl),h.hl,fun i p g hp hg=>⟨(h.ho i p g hp hg).1.keep k fun s q=>(hs s q).2.2,(h.ho i p g hp hg).2.keep k fun s q=>(hs s q).2.2⟩,
  h.row.keep k (fun s q=>(hs s q).2.2),h.ul,fun i u m hu hm=>(h.po i u m hu hm).keep k fun s q=>(hs s q).2.2,h.mem,h.ne⟩
theorem RDB.more (h:RDB X w pd pc gh V vp U H P) (hX: ∀x∈X,x∈Y) (hY: ∀y∈Y,y∈X∨w.heap.size≤y):RDB Y w pd pc gh V vp U H P:=
 ⟨h.d,h.hs,h.hl,fun i p g hp hg=>⟨(h.ho i p g hp hg).1.more hY,(h.ho i p g hp hg).2.more hY⟩,h.row.more hY,h.ul,fun i u m hu hm=>(h.po i u m hu hm).more hY,⟨hX _ h.mem.1,hX _ h.mem.2⟩,h.ne⟩
theorem RD.mem (h:RD X w pd gh pc pm gN e mn lw hi O M v A V vp U d): ∀y∈rds pd gh pc pm gN A M,y∈X:=fun y hy=>by
 rcases aC.1 hy with rfl|q
 ·exact h.b.mem.1
 ·rcases aC.1 q with rfl|q
  ·exact h.b.mem.2
  ·exact h.c.mem y q
theorem RD.lt (h:RD X w pd gh pc pm gN e mn lw hi O M v A V vp U d): ∀y∈rds pd gh pc pm gN A M,y<w.heap.size:=fun y hy=>by
 rcases aC.1 hy with rfl|q
 ·exact h.b.d.lt
 ·rcases aC.1 q with rfl|q
  ·exact h.b.hs.lt
  ·exact h.c.lt y q
theorem RD.keep (h:RD X w pd gh pc pm gN e mn lw hi O M v A V vp U d) (k:Keep S w w') (hs: ∀s∈S,(s∈X∧s∉rds pd gh pc pm gN A M)∨w.heap.size≤s):RD X w' pd gh pc pm gN e mn lw hi O M v A V vp U d:=
 ⟨h.c.keep k (fun s q=>(hs s q).imp (fun r=>⟨r.1,fun t=>r.2 (ak _ (ak _ t))⟩) id),
  h.b.keep k (fun s q=>by
   have l1:=h.b.d.lt;have l2:=h.b.hs.lt
   rcases hs s q with r|r
   ·exact⟨fun t=>r.2 (t▸aD ..),fun t=>r.2 (t▸ak _ (aD ..)),.inl r.1⟩
   ·exact⟨fun t=>om,fun t=>om,.inr r⟩),h.ne⟩
theorem RD.below (h:RD X w pd gh pc pm gN e mn lw hi O M v A V vp U d) (k:Below w.heap.size w w'):RD X w' pd gh pc pm gN e mn lw hi O M v A V vp U d:=h.keep (Keep.of (S:=[]) k) (fun _ q=>by cases q)
theorem RD.more (h:RD X w pd gh pc pm gN e mn lw hi O M v A V vp U d) (hX: ∀x∈X,x∈Y) (hY: ∀y∈Y,y∈X∨w.heap.size≤y):RD Y w pd gh pc pm gN e mn lw hi O M v A V vp U d:=
 ⟨h.c.more hX hY,h.b.more hX hY,h.ne⟩
theorem RD.cache (h:RD X w pd gh pc pm gN e mn lw hi O M v A V vp U d) (hr:RC Y w' pc pm gN e mn lw hi O M' v' A' c') (h1: ∀x∈X,x∈Y) (h2: ∀x∈Y,x∈X∨w.heap.size≤x) (h4: ∀y∈rcs pc pm gN A' M',y∈rcs pc pm gN A M∨w.heap.size≤y) (k:Keep S w w') (hS: ∀s∈S,s∈rcs pc pm gN A M):
 RD Y w' pd gh pc pm gN e mn lw hi O M' v' A' V vp U ⟨c',d.H,d.P⟩:=by
 have l1:=h.b.d.lt;have l2:=h.b.hs.lt
 refine⟨hr,(h.b.more h1 h2).keep k (fun s q=>⟨fun t=>h.ne.1 (t▸hS s q),fun t=>h.ne.2 (t▸hS s q),.inl (h1 s (h.c.mem s (hS s q)))⟩),fun q=> ?_,fun q=> ?_⟩
 ·rcases h4 _ q with r|r
  ·exact h.ne.1 r
  ·omega
 ·rcases h4 _ q with r|r
  ·exact h.ne.2 r
  ·omega
theorem RD.xX (h:RD X w pd gh pc pm gN e mn lw hi O M v A V vp U d) (k:Nat) {p':Value×Value} {h':Hd} (hk:k<d.H.length) (r1:j5 X w p'.1 h'.1) (r2:j5 X w p'.2 h'.2) (kk:Keep [gh,pd] w w') (hg:iy w' gh (iX (V.set k p')))
 (hd:iy w' pd [.pointer (some ⟨pc,0,none⟩),.slice (some ⟨gh,0,none⟩) d.H.length d.H.length,vp']) (row:jT X w vp' U') (ul:U'.length=P'.length)
 (po: ∀(i:Nat) (u:Value) (m:List Ob),U'[i]?=some u→P'[i]?=some m→j5 X w u m):
 RD X w' pd gh pc pm gN e mn lw hi O M v A (V.set k p') vp' U' ⟨d.c,d.H.set k h',P'⟩:=by
 have hs: ∀s∈[gh,pd],s∈X∨w.heap.size≤s:=fun s q=>by
  simp at q
  rcases q with rfl|rfl
  ·exact .inl h.b.mem.2
  ·exact .inl h.b.mem.1
 refine⟨h.c.keep kk (fun s q=>by
  simp at q
  rcases q with rfl|rfl
  ·exact .inl ⟨h.b.mem.2,h.ne.2⟩
  ·exact .inl ⟨h.b.mem.1,h.ne.1⟩),⟨by rw[bM];exact hd,hg,by simp[h.b.hl],fun i p g hp hg'=> ?_,row.keep kk hs,ul,fun i u m hu hm=>(po i u m hu hm).keep kk hs,h.b.mem,h.b.ne⟩,h.ne⟩
 by_cases q:k=i
 ·subst q
  rw[aL (by rw[h.b.hl];exact hk)] at hp
  rw[aL hk] at hg'
  obtain rfl:=aH hp
  obtain rfl:=aH hg'
  exact⟨r1.keep kk hs,r2.keep kk hs⟩
 ·rw[bD q] at hp hg'
  exact⟨(h.b.ho i p g hp hg').1.keep kk hs,(h.b.ho i p g hp hg').2.keep kk hs⟩
theorem RD.oF (h:RD X w pd gh pc pm gN e mn lw hi O M v A V vp U d) (k:Nat) {p':Value×Value} {h':Hd} (hk:k<d.H.length) (r1:j5 X w p'.1 h'.1) (r2:j5 X w p'.2 h'.2) (kk:Keep [gh] w w') (hg:iy w' gh (iX (V.set k p'))):
 RD X w' pd gh pc pm gN e mn lw hi O M v A (V.set k p') vp U ⟨d.c,d.H.set k h',d.P⟩:=
 h.xX k hk r1 r2 (kk.mono (fun s q=>by simp at q;subst q;simp)) hg (h.b.d.keep kk (by simpa using h.b.ne)) h.b.row h.b.ul h.b.po
theorem RD.GD (h:RD X w pd gh pc pm gN e mn lw hi O M v A V vp U d) (kk:Keep [pd] w w') (hd:iy w' pd [.pointer (some ⟨pc,0,none⟩),.slice (some ⟨gh,0,none⟩) d.H.length d.H.length,vp']) (row:jT X w vp' U') (ul:U'.length=P'.length)
 (po: ∀(i:Nat) (u:Value) (m:List Ob),U'[i]?=some u→P'[i]?=some m→j5 X w u m):
 RD X w' pd gh pc pm gN e mn lw hi O M v A V vp' U' ⟨d.c,d.H,P'⟩:=by
 have hs: ∀s∈[pd],s∈X∨w.heap.size≤s:=fun s q=>by simp at q;subst q;exact .inl h.b.mem.1
 exact⟨h.c.keep kk (fun s q=>by simp at q;subst q;exact .inl ⟨h.b.mem.1,h.ne.1⟩),⟨hd,h.b.hs.keep kk (by simpa using fun q=>h.b.ne q.symm),h.b.hl,fun i p g hp hg'=>⟨(h.b.ho i p g hp hg').1.keep kk hs,(h.b.ho i p g hp hg').2.keep kk hs⟩,row.keep kk hs,ul,fun i u m hu hm=>(po i u m hu hm).keep kk hs,h.b.mem,h.b.ne⟩,h.ne⟩
theorem RD.hand (h:RD X w pd gh pc pm gN e mn lw hi O M v A V vp U d) {k:Nat} {g:Hd} (hk:d.H[k]?=some g): ∃p,V[k]?=some p∧j5 X w p.1 g.1∧j5 X w p.2 g.2∧w.cell? ⟨gh,k*2,none⟩=some p.1∧w.cell? ⟨gh,k*2+1,none⟩=some p.2∧w.frozen? ⟨gh,k*2,none⟩=false∧w.frozen? ⟨gh,k*2+1,none⟩=false∧gh<w.heap.size:=by
 have hl:=(aj.1 hk).1
 obtain⟨p,hp⟩: ∃p,V[k]?=some p:=⟨V[k]'(by rw[h.b.hl];exact hl),au _⟩
 obtain⟨g1,g2⟩:=jX hp
 obtain⟨o1,o2⟩:=h.b.ho k p g hp hk
 have hv:V.length=d.H.length:=h.b.hl
 exact⟨p,hp,o1,o2,h.b.hs.c _ _ g1,h.b.hs.c _ _ g2,h.b.hs.f _ (by rw[iR];omega),h.b.hs.f _ (by rw[iR];omega),h.b.hs.lt⟩
theorem zP {g k:Nat} {W:World} (h:iy W g (iX V)) (hk:k<V.length) (x y:Value):iy ((W.setCell ⟨g,k*2,none⟩ x).setCell ⟨g,k*2+1,none⟩ y) g (iX (V.set k (x,y))):=by
 obtain⟨p,hp⟩: ∃p,V[k]?=some p:=⟨V[k],au hk⟩
 have a1:=vH h hp x
 have a2:=hloc2 a1 (sJ hk _) y
 rw[zH] at a2
 exact a2
theorem RD.pile (h:RD X w pd gh pc pm gN e mn lw hi O M v A V vp U d): ∃q k,vp= .slice q d.P.length k∧d.P.length≤k∧k≤maxLen∧∀(j:Nat) (m:List Ob),d.P[j]?=some m→∃u g o,U[j]?=some u∧q=some ⟨g,o,none⟩∧g∉X∧g<w.heap.size∧w.cell? ⟨g,o+j,none⟩=some u∧j5 X w u m:=by
 obtain⟨q,k,e,h1,h2,h3⟩:=h.b.row.form
 rw[h.b.ul] at e h1
 refine⟨q,k,e,h1,h2,fun j m hm=> ?_⟩
 have hl:=(aj.1 hm).1
 obtain⟨u,hu⟩: ∃u,U[j]?=some u:=⟨U[j]'(by rw[h.b.ul];exact hl),au _⟩
 obtain⟨g,o,e1,gx,e2,e3⟩:=h3 j u hu
 exact⟨u,g,o,hu,e1,gx,e2,e3,h.b.po j u m hu hm⟩
theorem jT.cutV {X:List Nat} {w:World} {p:Option Addr} {n cap:Nat} {us:List Value} (h:jT X w (.slice p n cap) us) (m:Nat) (hm:m≤n):jT X w (.slice p m cap) (us.take m):=by
 obtain⟨p',cap',e,h1,h2,h3⟩:=h
 injection e with e1 e2 e3
 subst e1 e3
 have el:(us.take m).length=m:=by rw[aQ];omega
 refine⟨p,cap,by rw[el],om,h2,fun j u hj=> ?_⟩
 rw[eY] at hj
 split at hj
 ·exact h3 j u hj
 ·cases hj
def iY (X:List Nat) (pd gh pc pm gN e:Nat) (mn lw hi:Int) (O:List (List Int)) (M:List Nat) (A:SA) (w:World) (d':De) (r:Value) (en:Ending) (w':World):Prop:=
 en= .returned r∧∃X' M' v' A' V' vp' U',RD X' w' pd gh pc pm gN e mn lw hi O M' v' A' V' vp' U' d'∧Keep (rds pd gh pc pm gN A M) w w'∧(∀x∈X,x∈X')∧(∀x∈X',x∈X∨w.heap.size≤x)∧(∀x∈X',x<w'.heap.size)∧(∀y∈rds pd gh pc pm gN A' M',y∈rds pd gh pc pm gN A M∨w.heap.size≤y)
theorem iY.here {r:Value} (hX: ∀x∈X,x<w.heap.size) (hr:RD X w' pd gh pc pm gN e mn lw hi O M v' A V' vp' U' d') (k:Keep S w w') (hS: ∀s∈S,s∈rds pd gh pc pm gN A M):iY X pd gh pc pm gN e mn lw hi O M A w d' r (.returned r) w':=
 ⟨rfl,X,M,v',A,V',vp',U',hr,k.mono hS,fun _ q=>q,fun _ q=>.inl q,fun x q=>aF (hX x q) k.size,fun _ q=>.inl q⟩
end
end
section
open Go.RowKit Go.Maps
section
variable {X Y Z S M M' F F' G:List Nat} {B:Nat} {w w' w0 w1:World} {ev:Nat→Addr} {pd pc pz gh pdm ghm pcm pm gN e:Nat} {mn lw hi:Int} {O:List (List Int)} {v v' vp vp':Value} {A A':SA} {V V':HV} {U U':List Value} {d d' m m':De}
theorem CD.addZ (h:CD B w X pd pc pz gh mn lw hi O e v A V vp U d) (k:Keep S w w1) (hs: ∀s∈S,(s∈X∨w.heap.size≤s)∧s∉xd pc v A d.c.L pd gh vp) (hX: ∀x∈X,x∈Z) (hZ: ∀y∈Z,(y∈X∨w.heap.size≤y)∧y<w1.heap.size) (hB:B≤w.heap.size):CD B w1 Z pd pc pz gh mn lw hi O e v A V vp U d:=by
 have hm: ∀y∈Z,y∈X∨w.heap.size≤y:=fun y hy=>(hZ y hy).1
 have f1: ∀s∈S,s∉day pd gh vp:=fun s q r=>(hs s q).2 (av _ r)
 have f2: ∀s∈S,s∉cay pc v A:=fun s q r=>(hs s q).2 (aA _ (av _ r))
 have f3: ∀s∈S,s∉ys d.c.L:=fun s q r=>(hs s q).2 (aA _ (aA _ r))
 refine⟨fun y hy=>hX y (h.x y hy),fun y hy=>⟨?_,(hZ y hy).2⟩,(h.cs.more hX hm).keep k (fun s q=>⟨f2 s q,(hs s q).1.imp (fun r=>⟨hX _ r,f3 s q⟩) id⟩),(h.de.more hm (fun y hy=>hX y (h.de.mem y hy))).keep k (fun s q=>⟨f1 s q,(hs s q).1.imp (fun r=>hX _ r) id⟩),h.ne⟩
 rcases hm y hy with q|q
 ·exact(h.lim y q).1
 ·omega
theorem DpS.addZ (h:DpS B w0 pd pc pz gh mn lw hi O e X F d w) (hB:B≤w.heap.size) (k:Keep S w w1) (hs: ∀s∈S,s∈F) (hX: ∀x∈X,x∈Z) (hZ: ∀y∈Z,(y∈X∨w.heap.size≤y)∧y<w1.heap.size) (hF: ∀f∈F',(f∈F∨w.heap.size≤f)∧f∈Z):DpS B w0 pd pc pz gh mn lw hi O e Z F' d w1:=by
 obtain⟨v,A,V,vp,U,q,hf⟩:=h.cd
 refine⟨⟨v,A,V,vp,U,q.addZ k (fun s hs'=>⟨.inl (hf s (hs s hs')).1,(hf s (hs s hs')).2⟩) hX hZ hB,fun f hff=>⟨(hF f hff).2,fun t=> ?_⟩⟩,h.inv,h.bel.trans (k.below hB fun s hs'=>(q.lim s (hf s (hs s hs')).1).1)⟩
 rcases(hF f hff).1 with r|r
 ·exact(hf f r).2 t
 ·have:=(q.lim f (q.x f t)).2;omega
structure DZS (w0:World) (X F:List Nat) (pd pc pz gh pdm ghm pcm pm gN e:Nat) (mn lw hi:Int) (O:List (List Int)) (M:List Nat) (v:Value) (A:SA) (V:HV) (vp:Value) (U:List Value) (d m:De) (w:World):Prop where
 s:DpS w0.heap.size w0 pd pc pz gh mn lw hi O e X (rds pdm ghm pcm pm gN A M++F) d w
 r:RD X w pdm ghm pcm pm gN e mn lw hi O M v A V vp U m
 f: ∀f∈F,f∉rds pdm ghm pcm pm gN A M
def DZX (w0:World) (X F:List Nat) (pd pc pz gh pdm ghm pcm pm gN e:Nat) (mn lw hi:Int) (O:List (List Int)) (d m:De) (w:World):Prop:=
 ∃M v A V vp U,DZS w0 X F pd pc pz gh pdm ghm pcm pm gN e mn lw hi O M v A V vp U d m w
theorem DZX.bel (h:DZX w0 X F pd pc pz gh pdm ghm pcm pm gN e mn lw hi O d m w):Below w0.heap.size w0 w:=by
 obtain⟨M,v,A,V,vp,U,q⟩:=h
 exact q.s.bel
theorem DZX.lim (h:DZX w0 X F pd pc pz gh pdm ghm pcm pm gN e mn lw hi O d m w): ∀x∈X,w0.heap.size≤x∧x<w.heap.size:=by
 obtain⟨M,v,A,V,vp,U,q⟩:=h
 exact q.s.lim
theorem DZX.inv (h:DZX w0 X F pd pc pz gh pdm ghm pcm pm gN e mn lw hi O d m w):jY e d:=by
 obtain⟨M,v,A,V,vp,U,q⟩:=h
 exact q.s.inv
theorem DZX.ord (h:DZX w0 X F pd pc pz gh pdm ghm pcm pm gN e mn lw hi O d m w):vV O d.c.L.length:=by
 obtain⟨M,v,A,V,vp,U,q⟩:=h
 exact q.s.ord
theorem DZX.go (h:DZX w0 X F pd pc pz gh pdm ghm pcm pm gN e mn lw hi O d m w) (k:Below w.heap.size w w'):DZX w0 X F pd pc pz gh pdm ghm pcm pm gN e mn lw hi O d m w':=by
 obtain⟨M,v,A,V,vp,U,q⟩:=h
 exact⟨M,v,A,V,vp,U,q.s.go q.s.bel.size k,q.r.below k,q.f⟩
theorem DZS.prog (h:DZS w0 X F pd pc pz gh pdm ghm pcm pm gN e mn lw hi O M v A V vp U d m w) (hs:DpS w0.heap.size w0 pd pc pz gh mn lw hi O e Y (rds pdm ghm pcm pm gN A M++F) d' w') (k:Keep (off X (rds pdm ghm pcm pm gN A M++F)) w w') (h1: ∀x∈Y,x∈X∨w.heap.size≤x) (h2: ∀x∈X,x∈Y):
 DZS w0 Y F pd pc pz gh pdm ghm pcm pm gN e mn lw hi O M v A V vp U d' m w':=
 ⟨hs,(h.r.more h2 h1).keep k (fun s q=>.inl ⟨h2 s (iQ.1 q).1,fun t=>(iQ.1 q).2 (av _ t)⟩),h.f⟩
theorem DZS.doc (h:DZS w0 X F pd pc pz gh pdm ghm pcm pm gN e mn lw hi O M v A V vp U d m w) (hr:RD Y w' pdm ghm pcm pm gN e mn lw hi O M' v' A' V' vp' U' m') (k:Keep (rds pdm ghm pcm pm gN A M) w w') (h1: ∀x∈X,x∈Y) (h2: ∀x∈Y,x∈X∨w.heap.size≤x) (h3: ∀x∈Y,x<w'.heap.size) (h4: ∀y∈rds pdm ghm pcm pm gN A' M',y∈rds pdm ghm pcm pm gN A M∨w.heap.size≤y):
 DZS w0 Y F pd pc pz gh pdm ghm pcm pm gN e mn lw hi O M' v' A' V' vp' U' d m' w':=by
 refine⟨h.s.addZ h.s.bel.size k (fun s q=>av _ q) h1 (fun y q=>⟨h2 y q,h3 y q⟩) (fun f q=> ?_),hr,fun f q t=> ?_⟩
 ·rcases aG.1 q with r|r
  ·exact⟨(h4 f r).imp (fun s=>av _ s) id,hr.mem f r⟩
  ·exact⟨.inl (aA _ r),h1 f (h.s.DX f (aA _ r))⟩
 ·rcases h4 f t with r|r
  ·exact h.f f q r
  ·have:=(h.s.lim f (h.s.DX f (aA _ q))).2;omega
theorem DZX.other (h:DZX w0 X F pd pc pz gh pdm ghm pcm pm gN e mn lw hi O d m w) (k:Keep S w w') (hs: ∀s∈S,s∈F):DZX w0 X F pd pc pz gh pdm ghm pcm pm gN e mn lw hi O d m w':=by
 obtain⟨M,v,A,V,vp,U,q⟩:=h
 exact⟨M,v,A,V,vp,U,q.s.other q.s.bel.size k (fun s t=>aA _ (hs s t)),q.r.keep k (fun s t=>.inl ⟨q.s.DX s (aA _ (hs s t)),q.f s (hs s t)⟩),q.f⟩
theorem DZX.addK (h:DZX w0 X F pd pc pz gh pdm ghm pcm pm gN e mn lw hi O d m w) (k:Keep S w w') (hs: ∀s∈S,s∈F) (hG: ∀g∈G,w.heap.size≤g∧g<w'.heap.size):DZX w0 (G++X) (G++F) pd pc pz gh pdm ghm pcm pm gN e mn lw hi O d m w':=by
 obtain⟨M,v,A,V,vp,U,q⟩:=h
 have n1: ∀y∈G++X,y∈X∨w.heap.size≤y:=fun y hy=>by
  rcases aG.1 hy with r|r
  ·exact .inr (hG y r).1
  ·exact .inl r
 refine⟨M,v,A,V,vp,U,q.s.addZ q.s.bel.size k (fun s t=>aA _ (hs s t)) (fun x t=>aA _ t) (fun y t=>⟨n1 y t,?_⟩) (fun f t=> ?_),(q.r.more (fun x t=>aA _ t) n1).keep k (fun s t=>.inl ⟨aA _ (q.s.DX s (aA _ (hs s t))),q.f s (hs s t)⟩),fun f t r=> ?_⟩
 ·rcases aG.1 t with r|r
  ·exact(hG y r).2
  ·exact aF (q.s.lim y r).2 k.size
 ·rcases aG.1 t with r|r
  ·exact⟨.inl (av _ r),aA _ (q.r.mem f r)⟩
  ·rcases aG.1 r with r|r
   ·exact⟨.inr (hG f r).1,av _ r⟩
   ·exact⟨.inl (aA _ r),aA _ (q.s.DX f (aA _ r))⟩
 ·rcases aG.1 t with s|s
  ·have:=(hG f s).1;have:=q.r.lt f r;omega
  ·exact q.f f s r
theorem DZX.subF (h:DZX w0 X F pd pc pz gh pdm ghm pcm pm gN e mn lw hi O d m w) (hG: ∀g∈G,g∈F):DZX w0 X G pd pc pz gh pdm ghm pcm pm gN e mn lw hi O d m w:=by
 obtain⟨M,v,A,V,vp,U,q⟩:=h
 refine⟨M,v,A,V,vp,U,q.s.subF (fun g t=> ?_),q.r,fun f t=>q.f f (hG f t)⟩
 rcases aG.1 t with r|r
 ·exact av _ r
 ·exact aA _ (hG g r)
theorem DZX.app {z z':Value} (h:DZX w0 X (iF z++F) pd pc pz gh pdm ghm pcm pm gN e mn lw hi O d m w) (hg:w.grownBy w1 z.ownBlock) (hz:z'.ownBlock=z.ownBlock∨z'.ownBlock=some w.heap.size) (hlt: ∀g,z'.ownBlock=some g→g<w1.heap.size):
 ∃X',(∀x∈X,x∈X')∧(∀x∈X',x∈X∨w.heap.size≤x)∧DZX w0 X' (iF z'++F) pd pc pz gh pdm ghm pcm pm gN e mn lw hi O d m w1:=by
 have k:=jh hg
 rcases hz with hz|hz
 ·have ez:iF z'=iF z:=by unfold iF;rw[hz]
  rw[ez]
  exact⟨X,fun _ q=>q,fun _ q=>.inl q,h.other k (fun s q=>av _ q)⟩
 ·have ez:iF z'=[w.heap.size]:=by unfold iF;rw[hz];rfl
  rw[ez]
  have:=hlt _ hz
  refine⟨[w.heap.size]++X,fun x q=>aA _ q,fun x q=> ?_,(h.addK (G:=[w.heap.size]) k (fun s q=>av _ q) (fun g q=>by simp at q;subst q;omega)).subF (fun g q=> ?_)⟩
  ·rcases aG.1 q with r|r
   ·simp at r;exact .inr om
   ·exact .inl r
  ·rcases aG.1 q with r|r
   ·exact av _ r
   ·exact aA _ (aA _ r)
def pQ (w0:World) (X F:List Nat) (pd pc pz gh pdm ghm pcm pm gN e:Nat) (mn lw hi:Int) (O:List (List Int)) (d m:De) (w:World) (r:Value) (en:Ending) (w':World):Prop:=
 en= .returned r∧∃X',DZX w0 X' F pd pc pz gh pdm ghm pcm pm gN e mn lw hi O d m w'∧Keep (off X F) w w'∧(∀x∈X',x∈X∨w.heap.size≤x)∧∀x∈X,x∈X'
theorem DZS.offp (h:DZS w0 X F pd pc pz gh pdm ghm pcm pm gN e mn lw hi O M v A V vp U d m w): ∀s∈off X (rds pdm ghm pcm pm gN A M++F),s∈off X F:=fun s q=>iQ.2 ⟨(iQ.1 q).1,fun t=>(iQ.1 q).2 (aA _ t)⟩
theorem DZS.offr (h:DZS w0 X F pd pc pz gh pdm ghm pcm pm gN e mn lw hi O M v A V vp U d m w): ∀s∈rds pdm ghm pcm pm gN A M,s∈off X F:=fun s q=>iQ.2 ⟨h.r.mem s q,fun t=>h.f s t q⟩
theorem dz_take (k n:Int) (u:Bool) (hE:tJ w0.heap.size ev w0) (h:DZX w0 X F pd pc pz gh pdm ghm pcm pm gN e mn lw hi O d m w):
 Calls Tryz.prog 37 #[.pointer (some ⟨pd,0,none⟩),.int .i64 k,.int .i64 n,.bool u] w (pQ w0 X F pd pc pz gh pdm ghm pcm pm gN e mn lw hi O (takeD mn O e d k n u).1 m w (.tuple #[obV (takeD mn O e d k n u).2.2,jB ev (takeD mn O e d k n u).2.1])):=by
 obtain⟨M,v,A,V,vp,U,q⟩:=h
 exact(y7 k n u hE q.s).mono fun r w' ⟨hr,kk,X',h1,h2,h3⟩=>⟨hr,X',⟨M,v,A,V,vp,U,q.prog h3 kk h1 h2⟩,kk.mono q.offp,h1,h2⟩
theorem dz_give (k:Int) (o:Ob) (hE:tJ w0.heap.size ev w0) (h:DZX w0 X F pd pc pz gh pdm ghm pcm pm gN e mn lw hi O d m w) (o1: -9223372036854775808≤o.2) (o2:o.2≤9223372036854775807):
 Calls Tryz.prog 39 #[.pointer (some ⟨pd,0,none⟩),.int .i64 k,.agg #[.int .i64 o.1,.int .i64 o.2]] w (pQ w0 X F pd pc pz gh pdm ghm pcm pm gN e mn lw hi O (iU e d k o).1 m w (jB ev (iU e d k o).2)):=by
 obtain⟨M,v,A,V,vp,U,q⟩:=h
 exact(AP k o hE q.s o1 o2).mono fun r w' ⟨hr,kk,X',h1,h2,h3⟩=>⟨hr,X',⟨M,v,A,V,vp,U,q.prog h3 kk h1 h2⟩,kk.mono q.offp,h1,h2⟩
theorem DZS.act (h:DZS w0 X F pd pc pz gh pdm ghm pcm pm gN e mn lw hi O M v A V vp U d m w) {r:Value} {en:Ending} (hp:iY X pdm ghm pcm pm gN e mn lw hi O M A w m' r en w'):pQ w0 X F pd pc pz gh pdm ghm pcm pm gN e mn lw hi O d m' w r en w':=by
 obtain⟨hr,X',M',v',A',V',vp',U',r1,r2,r3,r4,r5,r6⟩:=hp
 exact⟨hr,X',⟨M',v',A',V',vp',U',h.doc r1 r2 r3 r4 r5 r6⟩,r2.mono h.offr,r4,r3⟩
end
end
end Go.Proofs.YtdcbhlcbiokbeaaGreatDoor
