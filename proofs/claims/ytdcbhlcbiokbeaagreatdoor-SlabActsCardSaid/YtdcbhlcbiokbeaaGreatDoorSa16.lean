/- Lemmas and contracts for the claim's last text: RCTaken, SArith, SFind, SDel, SShrink, SAp. -/
import Derived.Test.YtdcbhlcbiokbeaaGreatDoorSa01
import Derived.Test.YtdcbhlcbiokbeaaGreatDoorSa08
import Derived.Test.YtdcbhlcbiokbeaaGreatDoorSa11
import Derived.Test.YtdcbhlcbiokbeaaGreatDoorSa12
import Derived.Test.YtdcbhlcbiokbeaaGreatDoorSa13
import Derived.Test.YtdcbhlcbiokbeaaGreatDoorSa14
set_option linter.unusedSimpArgs false
set_option linter.unusedVariables false
set_option maxHeartbeats 16000000
set_option maxRecDepth 100000
namespace Go.Proofs.YtdcbhlcbiokbeaaGreatDoor
section
open Go.RowKit Go.Maps
attribute [local go_sem ↓] bA bB
section
variable {X Y S M:List Nat} {w w':World} {pc pm gN e:Nat} {mn lw hi:Int} {O:List (List Int)} {v v':Value} {A A':SA} {C:List Sl} {c:Ca} {L':List Nd}
theorem E8 (h:RC X w pc pm gN e mn lw hi O M v A c) (hI:jD e c):
 Calls Tryz.prog 134 #[.pointer (some ⟨pc,0,none⟩)] w fun r w'=>∃v,r= .returned v∧OwnO w w' v (oU e c.C):=by
 obtain⟨q,kv,ev,kv1,kv2,hrow⟩:=h.b.form
 subst ev
 have e1:=hI.e1;have e2:=hI.e2
 have few:=hI.few
 have HIN:=ah hI
 have qI:=ah hrow;have HC:=ah h.b
 have HL64:Hid (∀s∈c.C,s.T.length≤64):=fun s hs=>by rw[hI.len s hs];unfold gP;exact bP _ _
 have ALL:Hid (c.C.take c.C.length=c.C):=by show _=_;simp
 obtain⟨nn,hnn⟩: ∃nn,nn=c.C.length:=⟨_,rfl⟩
 have EN:=ah hnn
 have OL:Hid (∀i,i≤nn→(oU e (c.C.take i)).length≤65536):=fun i hi=>by
  have:=vG (e:=e) (C:=c.C.take i) fun s hs=>HL64.out s (dh hs)
  rw[aU] at this
  omega
 rw[←hnn] at few kv1 ALL
 unfold maxLen at kv2
 have KC:Hid (∀W,Below w.heap.size w W→W.cell? ⟨pc,1,none⟩=some (.int .i64 e)∧W.cell? ⟨pc,2,none⟩=some (.slice q nn kv)∧pc<W.heap.size):=fun W b=>by
  have t:=h.b.c.go b
  rw[hnn]
  exact⟨t.c 1 _ rfl,t.c 2 _ rfl,t.lt⟩
 clear h hI hrow hnn
 go_enter Tryz.func134,Tryz.ntmps134
 go_wp2_with fail
 go_loopw [3,4] (fun ov iv wr=>∃(i:Nat),i≤nn∧iv= .int .i64 i∧Hid (wr.ownsRow w.heap.size 49 2 ov (oU e (c.C.take i)).length (lJ (oU e (c.C.take i))))∧Below w.heap.size w wr) (fun _ iv _=>nn-(intOf iv).toNat)
 case atStart=>exact⟨0,om,by go_num,aR _ _ _ _,aK _ _⟩
 case round=>
  obtain⟨i,hile,rfl,HO,hbel⟩:=hrel
  obtain⟨c1,c2,cl⟩:=KC.out _ hbel
  by_cases hin:i<nn
  ·obtain⟨s,hs⟩: ∃s,c.C[i]?=some s:=⟨c.C[i]'(by rw[←EN.out];exact hin),au _⟩
   obtain⟨p,hp,hsl⟩:=HC.out.at hs
   obtain⟨g,of,rfl,hg,hc0⟩:=qI.out i p hp
   have hik:i<kv:=om
   have hsm:=aA hs
   obtain⟨_,_,r3,r4⟩:=HIN.out.rng hsm
   have l64:=HL64.out s hsm
   have OLi:=OL.out i hile
   have SN:=ah (xk (e:=e) hs)
   have HKA:=ah (vC e s)
   obtain⟨l,hll⟩: ∃l,l=s.T.length:=⟨_,rfl⟩
   have HLL:=ah hll
   rw[←hll] at l64 HKA
   have hli:(i:Int)<(nn:Int):=om
   have hl0:(0:Int)≤(i:Int):=om
   have SK:Hid (∀W,Below w.heap.size w W→W.cell? ⟨g,of+i,none⟩=some (.pointer (some ⟨p.1,0,none⟩))∧g<W.heap.size∧W.cell? ⟨p.1,0,none⟩=some (.int .i64 s.nd)∧W.cell? ⟨p.1,1,none⟩=some (.int .i64 s.pg)∧W.cell? ⟨p.1,3,none⟩=some (.slice (some ⟨p.2,0,none⟩) l l)∧p.1<W.heap.size∧p.2<W.heap.size∧gH W p.2 (bools s.T)):=fun W b=>by
    have t:=hsl.below b
    obtain⟨d0,d1,d2,d3,dl,dl2⟩:=t.cells
    rw[hll]
    exact⟨(b.cell (p:=⟨g,of+i,none⟩) hg).trans hc0,aG hg b.size,d0,d1,d3,dl,dl2,t.2⟩
   have HBR:=ah hbel
   clear hc0 hsl hs hp hsm hll hbel hg
   go_wp2_with fail
   clear c1 c2 cl
   go_loopw [3,5] (fun ov kv wi=>∃(k:Nat),k≤l∧kv= .int .i64 k∧Hid (wi.ownsRow w.heap.size 49 2 ov ((oU e (c.C.take i)).length+(yA e s k).length) (lJ (oU e (c.C.take i)++yA e s k)))∧Below w.heap.size w wi) (fun _ kv _=>l-(intOf kv).toNat)
   case atStart=>exact⟨0,om,by go_num,(show wr.ownsRow _ _ _ _ _ _ from by have:=HO.out;simpa[yA] using this),HBR.out⟩
   case round=>
    obtain⟨k,hkl,rfl,HOk,hbk⟩:=hrel
    obtain⟨c1,c2,cl⟩:=KC.out _ hbk
    obtain⟨ck,gl,y0,y1,y3,yl,yl2,yb⟩:=SK.out _ hbk
    have HYB:=ah yb
    clear yb HBR
    by_cases hlt:k<l
    ·obtain⟨bt,hbt⟩: ∃bt,s.T[k]?=some bt:=⟨s.T[k]'(by rw[←HLL.out];exact hlt),au _⟩
     have ct:=HYB.out.c k _ (iC hbt)
     have hlk:(k:Int)<(l:Int):=om
     have hl0k:(0:Int)≤(k:Int):=om
     cases bt with
     |false=>
      have KN:=ah (DN (e:=e) hbt)
      clear hbt
      go_wp2
      go_round
      case rel=>exact⟨k+1,om,by go_num,by rw[KN.out];exact HOk,hbk⟩
      case measure=>simp[intOf];omega
     |true=>
      have KN:=ah (zU (e:=e) hbt)
      have ke0:(0:Int)≤(k:Int)*(e:Int):=dW om om
      have ke1:(k:Int)*(e:Int)≤4096:=by
       have:=dH (show k≤64 by omega) e2
       have h2:((k*e:Nat):Int)≤((64*64:Nat):Int):=om
       simpa using h2
      have OLK:=vD e s k
      have HB2:=ah hbk
      have hw1:IntKind.i64.wrap (s.pg*64)=s.pg*64:=aT _ om
      have hw2:IntKind.i64.wrap ((k:Int)*(e:Int))=(k:Int)*(e:Int):=aT _ om
      have hw3:IntKind.i64.wrap (s.pg*64+(k:Int)*(e:Int))=s.pg*64+(k:Int)*(e:Int):=aT _ om
      clear hbt
      go_wp2_with fail
      refine iA (S:=(fun w'=>w'.cell? ⟨p.1,0,none⟩=some (.int .i64 s.nd)∧w'.cell? ⟨p.1,1,none⟩=some (.int .i64 s.pg)∧w'.cell? ⟨pc,1,none⟩=some (.int .i64 e)∧w'.cell? ⟨pc,2,none⟩=some (.slice (some ⟨g,of,none⟩) nn kv)∧w'.cell? ⟨g,of+i,none⟩=some (.pointer (some ⟨p.1,0,none⟩)))) 35 #[false,false,false,false,false,false,false,false,false,false,false,false,false,false,false,false,false,false,false,false,false,false,false,false,false,false,false,false,false,false,false,false,false,false,false] rfl kR kR (by(try dsimp only);go_keep) (fun hHeld=> ?_)
      simp only[aO,aX]
      refine ctk (i:=0) (v:= ?_) rfl (fun _ _ _ h=>h) (Or.inl ⟨rf,?_⟩) ?_
      rotate_left
      ·(intro w hSw;(try dsimp only at hSw);go_simp<;>with_reducible rfl)
      try simp only[Act.put,pA,pZ,pS]
      refine ctk (i:=1) (v:= ?_) rfl (fun _ _ _ h=>h) (Or.inl ⟨rf,?_⟩) ?_
      rotate_left
      ·(intro w hSw;(try dsimp only at hSw);go_simp<;>with_reducible rfl)
      try simp only[Act.put,pA,pZ,pS]
      refine ctk (i:=2) (v:= ?_) rfl (fun _ _ _ h=>h) (Or.inl ⟨rf,?_⟩) ?_
      rotate_left
      ·(intro w hSw;(try dsimp only at hSw);go_simp<;>with_reducible rfl)
      try simp only[Act.put,pA,pZ,pS]
      refine ctk (i:=3) (v:= ?_) rfl (fun _ _ _ h=>h) (Or.inl ⟨rf,?_⟩) ?_
      rotate_left
      ·(intro w hSw;(try dsimp only at hSw);go_simp<;>with_reducible rfl)
      try simp only[Act.put,pA,pZ,pS]
      refine ctk (i:=4) (v:= ?_) rfl (fun _ _ _ h=>h) (Or.inl ⟨rf,?_⟩) ?_
      rotate_left
      ·(intro w hSw;(try dsimp only at hSw);go_simp<;>with_reducible rfl)
      try simp only[Act.put,pA,pZ,pS]
      refine ctk (i:=5) (v:= ?_) rfl (fun _ _ _ h=>h) (Or.inl ⟨rf,?_⟩) ?_
      rotate_left
      ·(intro w hSw;(try dsimp only at hSw);go_simp<;>with_reducible rfl)
      try simp only[Act.put,pA,pZ,pS]
      refine ctk (i:=6) (v:= ?_) rfl (fun _ _ _ h=>h) (Or.inl ⟨rf,?_⟩) ?_
      rotate_left
      ·(intro w hSw;(try dsimp only at hSw);go_simp<;>with_reducible rfl)
      try simp only[Act.put,pA,pZ,pS]
      refine ctk (i:=7) (v:= ?_) rfl (fun _ _ _ h=>h) (Or.inl ⟨rf,?_⟩) ?_
      rotate_left
      ·(intro w hSw;(try dsimp only at hSw);go_simp<;>with_reducible rfl)
      try simp only[Act.put,pA,pZ,pS]
      refine ctk (i:=8) (v:= ?_) rfl (fun _ _ _ h=>h) (Or.inl ⟨rf,?_⟩) ?_
      rotate_left
      ·(intro w hSw;(try dsimp only at hSw);go_simp<;>with_reducible rfl)
      try simp only[Act.put,pA,pZ,pS]
      refine ctk (i:=9) (v:= ?_) rfl (fun _ _ _ h=>h) (Or.inl ⟨rf,?_⟩) ?_
      rotate_left
      ·(intro w hSw;(try dsimp only at hSw);go_simp<;>with_reducible rfl)
      try simp only[Act.put,pA,pZ,pS]
      refine ctk (i:=10) (v:= ?_) rfl (fun _ _ _ h=>h) (Or.inl ⟨rf,?_⟩) ?_
      rotate_left
      ·(intro w hSw;(try dsimp only at hSw);go_simp<;>with_reducible rfl)
      try simp only[Act.put,pA,pZ,pS]
      refine ctk (i:=11) (v:= ?_) rfl (fun _ _ _ h=>h) (Or.inl ⟨rf,?_⟩) ?_
      rotate_left
      ·(intro w hSw;(try dsimp only at hSw);go_simp<;>with_reducible rfl)
      try simp only[Act.put,pA,pZ,pS]
      refine ctk (i:=12) (v:= ?_) rfl (fun _ _ _ h=>h) (Or.inl ⟨rf,?_⟩) ?_
      rotate_left
      ·(intro w hSw;(try dsimp only at hSw);go_simp<;>with_reducible rfl)
      try simp only[Act.put,pA,pZ,pS]
      refine ctk (i:=13) (v:= ?_) rfl (fun _ _ _ h=>h) (Or.inl ⟨rf,?_⟩) ?_
      rotate_left
      ·(intro w hSw;(try dsimp only at hSw);go_simp<;>with_reducible rfl)
      try simp only[Act.put,pA,pZ,pS]
      refine ctk (i:=14) (v:= ?_) rfl (fun _ _ _ h=>h) (Or.inl ⟨rf,?_⟩) ?_
      rotate_left
      ·(intro w hSw;(try dsimp only at hSw);go_simp<;>with_reducible rfl)
      try simp only[Act.put,pA,pZ,pS]
      refine ctk (i:=15) (v:= ?_) rfl (fun _ _ _ h=>h) (Or.inl ⟨rf,?_⟩) ?_
      rotate_left
      ·(intro w hSw;(try dsimp only at hSw);go_simp<;>with_reducible rfl)
      try simp only[Act.put,pA,pZ,pS]
      refine ctk (i:=16) (v:= ?_) rfl (fun _ _ _ h=>h) (Or.inl ⟨rf,?_⟩) ?_
      rotate_left
      ·(intro w hSw;(try dsimp only at hSw);go_simp<;>with_reducible rfl)
      try simp only[Act.put,pA,pZ,pS]
      refine ctk (i:=17) (v:= ?_) rfl (fun _ _ _ h=>h) (Or.inl ⟨rf,?_⟩) ?_
      rotate_left
      ·(intro w hSw;(try dsimp only at hSw);go_simp<;>with_reducible rfl)
      try simp only[Act.put,pA,pZ,pS]
      refine ctk (i:=18) (v:= ?_) rfl (fun _ _ _ h=>h) (Or.inl ⟨rf,?_⟩) ?_
      rotate_left
      ·(intro w hSw;(try dsimp only at hSw);go_simp<;>with_reducible rfl)
      try simp only[Act.put,pA,pZ,pS]
      refine ctk (i:=19) (v:= ?_) rfl (fun _ _ _ h=>h) (Or.inl ⟨rf,?_⟩) ?_
      rotate_left
      ·(intro w hSw;(try dsimp only at hSw);go_simp<;>with_reducible rfl)
      try simp only[Act.put,pA,pZ,pS]
      refine ctk (i:=20) (v:= ?_) rfl (fun _ _ _ h=>h) (Or.inl ⟨rf,?_⟩) ?_
      rotate_left
      ·(intro w hSw;(try dsimp only at hSw);go_simp<;>with_reducible rfl)
      try simp only[Act.put,pA,pZ,pS]
      refine ctk (i:=21) (v:= ?_) rfl (fun _ _ _ h=>h) (Or.inl ⟨rf,?_⟩) ?_
      rotate_left
      ·(intro w hSw;(try dsimp only at hSw);go_simp<;>with_reducible rfl)
      try simp only[Act.put,pA,pZ,pS]
      refine ctk (i:=22) (v:= ?_) rfl (fun _ _ _ h=>h) (Or.inl ⟨rf,?_⟩) ?_
      rotate_left
      ·(intro w hSw;(try dsimp only at hSw);go_simp<;>with_reducible rfl)
      try simp only[Act.put,pA,pZ,pS]
      refine ctk (i:=23) (v:= ?_) rfl (fun _ _ _ h=>h) (Or.inl ⟨rf,?_⟩) ?_
      rotate_left
      ·(intro w hSw;(try dsimp only at hSw);go_simp<;>with_reducible rfl)
      try simp only[Act.put,pA,pZ,pS]
      refine ctk (i:=24) (v:= ?_) rfl (fun _ _ _ h=>h) (Or.inl ⟨rf,?_⟩) ?_
      rotate_left
      ·(intro w hSw;(try dsimp only at hSw);go_simp<;>with_reducible rfl)
      try simp only[Act.put,pA,pZ,pS]
      refine ctk (i:=25) (v:= ?_) rfl (fun _ _ _ h=>h) (Or.inl ⟨rf,?_⟩) ?_
      rotate_left
      ·(intro w hSw;(try dsimp only at hSw);go_simp<;>with_reducible rfl)
      try simp only[Act.put,pA,pZ,pS]
      refine ctk (i:=26) (v:= ?_) rfl (fun _ _ _ h=>h) (Or.inl ⟨rf,?_⟩) ?_
      rotate_left
      ·(intro w hSw;(try dsimp only at hSw);go_simp<;>with_reducible rfl)
      try simp only[Act.put,pA,pZ,pS]
      refine ctk (i:=27) (v:= ?_) rfl (fun _ _ _ h=>h) (Or.inl ⟨rf,?_⟩) ?_
      rotate_left
      ·(intro w hSw;(try dsimp only at hSw);go_simp<;>with_reducible rfl)
      try simp only[Act.put,pA,pZ,pS]
      refine ctk (i:=28) (v:= ?_) rfl (fun _ _ _ h=>h) (Or.inl ⟨rf,?_⟩) ?_
      rotate_left
      ·(intro w hSw;(try dsimp only at hSw);go_simp<;>with_reducible rfl)
      try simp only[Act.put,pA,pZ,pS]
      refine ctk (i:=29) (v:= ?_) rfl (fun _ _ _ h=>h) (Or.inl ⟨rf,?_⟩) ?_
      rotate_left
      ·(intro w hSw;(try dsimp only at hSw);go_simp<;>with_reducible rfl)
      try simp only[Act.put,pA,pZ,pS]
      refine ctk (i:=30) (v:= ?_) rfl (fun _ _ _ h=>h) (Or.inl ⟨rf,?_⟩) ?_
      rotate_left
      ·(intro w hSw;(try dsimp only at hSw);go_simp<;>with_reducible rfl)
      try simp only[Act.put,pA,pZ,pS]
      refine ctk (i:=31) (v:= ?_) rfl (fun _ _ _ h=>h) (Or.inl ⟨rf,?_⟩) ?_
      rotate_left
      ·(intro w hSw;(try dsimp only at hSw);go_simp<;>with_reducible rfl)
      try simp only[Act.put,pA,pZ,pS]
      refine ctk (i:=32) (v:= ?_) rfl (fun _ _ _ h=>h) (Or.inl ⟨rf,?_⟩) ?_
      rotate_left
      ·(intro w hSw;(try dsimp only at hSw);go_simp<;>with_reducible rfl)
      try simp only[Act.put,pA,pZ,pS]
      refine wpAnyH_ready (rs:=[33]) kR sI ?_
      refine bE (iq rfl) (fun K hK=> ?_) bH
      go_simp
      refine hK.out _ _ (by(try dsimp only);go_keep) (fun hHeld=> ?_)
      clear hK K
      try simp only[Act.put,pA,pZ,pS]
      refine wpAnyH_ready (rs:=[34]) kR sI ?_
      refine bE (iq rfl) (fun K hK=> ?_) bH
      refine x9 elObj (base:=w.heap.size) (ms:=[.int .i64 s.nd,.int .i64 (s.pg*64+(k:Int)*(e:Int))]) rf (.tmp 43) (.tmp 76) rf rf rf ((HOk.out.alloc _).drew) rfl (fun j u hj=>oZ wr _ _ _ j u hj) (p8 _ _) om (by have:=HB2.out.size;simp;omega) ?_
      intro q4 k4 w4 iy hg4
      have hb4:Below w.heap.size w w4:=(HB2.out.alloc (by have:=HB2.out.size;simpa using this) _).drew.grown hg4 (by have:=HB2.out.size;simp;omega) (fun r hr=>(HOk.out.lt r hr).1)
      obtain⟨zk,zg,z0,z1,z3,zl,zl2,_⟩:=SK.out _ hb4
      obtain⟨zp,zp2,zpl⟩:=KC.out _ hb4
      refine hK.out _ _ (by(try dsimp only);go_keep) (fun hHeld=> ?_)
      clear hK K
      try simp only[Act.put,pA,pZ,pS]
      refine wpAnyH_done kR ?_ _
      simp only[lU,aP,aV]
      go_wp2
      go_round
      case rel=>
       refine⟨k+1,om,by go_num,?_,hb4⟩
       show World.ownsRow _ _ _ _ _ _ _
       rw[KN.out,aW,←fU,←bY,l6]
       exact iy
      case measure=>simp[intOf];omega
    ·obtain rfl:k=l:=by omega
     go_wp2
     go_round
     case rel=>
      refine⟨i+1,om,by go_num,?_,hbk⟩
      show World.ownsRow _ _ _ _ _ _ _
      have:=HOk.out
      rw[HKA.out,←aW,←SN.out] at this
      exact this
     case measure=>simp[intOf];omega
  ·obtain rfl:i=nn:=by omega
   have HO':=HO.out
   rw[ALL.out] at HO'
   have HOO:=ah HO'
   clear HO HO'
   go_wp2
   go_ret
   exact⟨_,rfl,HOO.out,hbel⟩
end
end
section
open Go.RowKit
def kU (oa pg:Int):Int:=IntKind.i64.wrap (oa-pg*64)
theorem Ea {oa pg:Int} (h1: -9223372036854775808≤oa) (h2:oa≤9223372036854775807) (h3:0≤pg) (h4:pg<256):
 (kU oa pg=oa-pg*64)∨(oa-pg*64<0∧9223372036854000000≤kU oa pg∧kU oa pg≤9223372036854775807):=by
 unfold kU
 rw[IntKind.wrap_i64]
 omega
theorem offW_fit (oa pg:Int): -9223372036854775808≤kU oa pg∧kU oa pg≤9223372036854775807:=by
 unfold kU
 rw[IntKind.wrap_i64]
 omega
def oV (e:Nat) (oa pg:Int):Nat:=(kU oa pg / e).toNat
theorem hasS_W {e:Nat} (e1:1≤e) (e2:e≤64) {n oa:Int} (h1: -9223372036854775808≤oa) (h2:oa≤9223372036854775807) {s:Sl} (h3:0≤s.pg) (h4:s.pg<256) (hl:s.T.length≤64):
 rY e (n,oa) s=(decide (s.nd=n)&&decide (0≤kU oa s.pg)&&decide (kU oa s.pg % e=0)&&decide (oV e oa s.pg<s.T.length)&&(s.T[oV e oa s.pg]?==some true)):=by
 have key:(s.T[oV e oa s.pg]?==some true)=(decide (oV e oa s.pg<s.T.length)&&(s.T[oV e oa s.pg]?==some true)):=by
  by_cases hq:oV e oa s.pg<s.T.length
  ·rw[decide_eq_true hq,Bool.true_and]
  ·rw[decide_eq_false hq,Bool.false_and,List.getElem?_eq_none om];rfl
 rcases Ea h1 h2 h3 h4 with q|⟨q1,q2,q3⟩
 ·have hn:oV e oa s.pg=((oa-s.pg*64) / e).toNat:=by unfold oV;rw[q]
  rw[Bool.and_assoc,←key,q,hn]
  rfl
 ·have big: ¬oV e oa s.pg<s.T.length:=by
   have:kU oa s.pg / e≥9223372036854000000 / 64:=by
    calc (9223372036854000000:Int) / 64≤kU oa s.pg / 64:=by omega
     _≤kU oa s.pg / e:=by
      have he:(0:Int)<e:=om
      rw[Int.le_ediv_iff_mul_le he]
      have h64:kU oa s.pg / 64*(e:Int)≤kU oa s.pg / 64*64:=Int.mul_le_mul_of_nonneg_left om om
      omega
   unfold oV
   omega
  rw[decide_eq_false big]
  unfold rY
  rw[decide_eq_false (show¬(0:Int)≤(n,oa).2-s.pg*64 by simp only;omega)]
  simp
theorem kOf_W {e:Nat} (e1:1≤e) (e2:e≤64) {n oa:Int} (h1: -9223372036854775808≤oa) (h2:oa≤9223372036854775807) {s:Sl} (h3:0≤s.pg) (h4:s.pg<256) (hl:s.T.length≤64) (h:rY e (n,oa) s=true):oV e oa s.pg=kOf e (n,oa) s:=by
 rcases Ea h1 h2 h3 h4 with q|⟨q1,q2,q3⟩
 ·unfold oV kOf;rw[q]
 ·unfold rY at h
  simp only[bq,decide_eq_true_eq] at h
  omega
theorem quo_W {e:Nat} (e1:1≤e) {oa pg:Int} (h:0≤kU oa pg):(kU oa pg).tdiv (e:Int)=(oV e oa pg:Int)∧(kU oa pg).tmod (e:Int)=kU oa pg % e:=by
 have hd:0≤kU oa pg / (e:Int):=Int.ediv_nonneg h om
 refine⟨?_,Int.tmod_eq_emod_of_nonneg h⟩
 unfold oV
 rw[dL h,Int.toNat_of_nonneg hd]
end
section
open Go.RowKit Go.Maps
attribute [local go_sem ↓] bA bB
section
variable {B:Nat} {ev:Nat→Addr} {pc pz e:Nat} {mn lw hi:Int} {O:List (List Int)} {X:List Nat} {vs:Value} {A:SA} {c:Ca} {w:World}
theorem xA (n oa:Int) (h:CS B w pc pz mn lw hi O e X vs A c) (hI:jD e c) (o1: -9223372036854775808≤oa) (o2:oa≤9223372036854775807) (m:Nat) (hm:m≤c.C.length) (hno: ∀j s,j<m→c.C[j]?=some s→rY e (n,oa) s=false) (res:Value) (k:Nat)
 (hres:(m=c.C.length∧res= .pointer none∧k=0)∨(∃s p,c.C[m]?=some s∧A[m]?=some p∧rY e (n,oa) s=true∧res= .pointer (some ⟨p.1,0,none⟩)∧k=kOf e (n,oa) s)):
 Calls Tryz.prog 119 #[.pointer (some ⟨pc,0,none⟩),.agg #[.int .i64 n,.int .i64 oa]] w fun r w'=>r= .returned (.tuple #[res,.int .i64 k])∧Below w.heap.size w w':=by
 obtain⟨qv,kv,evs,kv1,kv2,hrow⟩:=h.ch.form
 subst evs
 have e1:=hI.e1;have e2:=hI.e2
 have few:=hI.few
 have HIN:=ah hI
 have b0:Below w.heap.size w (w.alloc (.cells #[.int .i64 n,.int .i64 oa] 49)):=gI
 have HL:=ah (show gH (w.alloc (.cells #[.int .i64 n,.int .i64 oa] 49)) w.heap.size [.int .i64 n,.int .i64 oa] from gH.mk_ w [.int .i64 n,.int .i64 oa] 49 rfl)
 have qI:=ah hrow;have HC:=ah h.ch;have HB0:=ah b0
 have HNOO:=ah hno;have HRES:=ah hres
 have c1:=h.ch.c.c 1 _ rfl;have c2:=h.ch.c.c 2 _ rfl;have cl:=h.ch.c.lt
 obtain⟨nn,hnn⟩: ∃nn,nn=c.C.length:=⟨_,rfl⟩
 have EN:=ah hnn
 rw[←hnn] at c2 few kv1 hm
 unfold maxLen at kv2
 have en0: ¬((e:Int)=0):=om
 have en1: ¬(e=0):=om
 clear h hI hrow hnn b0 hno hres
 go_enter Tryz.func119,Tryz.ntmps119
 go_wp2_with fail
 go_loopw [14] (fun iv wr=>∃i:Nat,i≤m∧iv= .int .i64 i∧Below w.heap.size (w.alloc (.cells #[.int .i64 n,.int .i64 oa] 49)) wr∧Below w.heap.size w wr∧Hid (gH wr w.heap.size [.int .i64 n,.int .i64 oa])) (fun iv _=>nn-(intOf iv).toNat)
 case atStart=>exact⟨0,om,by go_num,aK _ _,HB0.out,HL⟩
 case round=>
  obtain⟨i,hile,rfl,hbel0,hbel,HLr⟩:=hrel
  have BW:Hid (∀W,Below wr.heap.size wr W→Below w.heap.size (w.alloc (.cells #[.int .i64 n,.int .i64 oa] 49)) W∧Below w.heap.size w W∧Hid (gH W w.heap.size [.int .i64 n,.int .i64 oa])):=fun W b=>⟨hbel0.trans (b.mono hbel.size),hbel.trans (b.mono hbel.size),HLr.out.go b⟩
  have m0:=HLr.out.c 0 _ rfl;have m1:=HLr.out.c 1 _ rfl;have ml:=HLr.out.lt
  have g1:wr.cell? ⟨pc,1,none⟩=some (.int .i64 e):=(hbel.cell (p:=⟨pc,1,none⟩) cl).trans c1
  have gl0:pc<wr.heap.size:=aG cl hbel.size
  by_cases hin:i<nn
  ·obtain⟨s,hs⟩: ∃s,c.C[i]?=some s:=⟨c.C[i]'(by rw[←EN.out];exact hin),au _⟩
   obtain⟨p,hp,hsl,_⟩:=(HC.out.below hbel).at hs
   obtain⟨g,rfl,hg,hc0⟩:=qI.out i p hp
   have ck:wr.cell? ⟨g,i,none⟩=some (.pointer (some ⟨p.1,0,none⟩)):=(hbel.cell (p:=⟨g,i,none⟩) hg).trans hc0
   have gl:g<wr.heap.size:=aG hg hbel.size
   have hik:i<kv:=om
   obtain⟨d0,d1,_,d3,d4,dl,dl2⟩:=hsl.cells
   have hsm:=aA hs
   obtain⟨r1,r2,r3,r4⟩:=HIN.out.rng hsm
   have DK:s.T.length≤64:=by rw[HIN.out.len s hsm];unfold gP;exact bP _ _
   have hW:=hasS_W e1 e2 (n:=n) o1 o2 r3 r4 DK
   obtain⟨f1,f2⟩:=offW_fit oa s.pg
   have qW:=fun h=>quo_W (oa:=oa) (pg:=s.pg) e1 h
   have KW:=ah (kOf_W (n:=n) e1 e2 o1 o2 r3 r4 DK)
   have TB:=ah (fun(j:Nat) (b:Bool) (hj:s.T[j]?=some b)=>hsl.2.c j _ (iC hj))
   have hd:wrap64 (oa-s.pg*64)=kU oa s.pg:=by unfold kU;rw[IntWalk.i64_left]
   have qb:kU oa s.pg / (e:Int)≤9223372036854775807∨kU oa s.pg<0:=by
    by_cases q:kU oa s.pg<0
    ·exact .inr q
    ·left
     have:kU oa s.pg / (e:Int)≤kU oa s.pg:=Int.ediv_le_self _ om
     omega
   have NO:rY e (n,oa) s=false→i+1≤m:=fun hf=>by
    rcases dQ i m with q|q
    ·exact q
    ·exfalso
     obtain rfl:i=m:=om
     rcases HRES.out with⟨t,_⟩|⟨s',p',t1,_,t2,_⟩
     ·have:=EN.out;omega
     ·rw[hs] at t1;obtain rfl:=aI t1
      rw[hf] at t2;cases t2
   have YES:rY e (n,oa) s=true→res= .pointer (some ⟨p.1,0,none⟩)∧k=kOf e (n,oa) s:=fun ht=>by
    rcases dQ i m with q|q
    ·have:=HNOO.out i s q hs
     rw[ht] at this;cases this
    ·obtain rfl:i=m:=by omega
     rcases HRES.out with⟨t,_⟩|⟨s',p',t1,t3,_,t4,t5⟩
     ·have:=EN.out;omega
     ·rw[hs] at t1;obtain rfl:=aI t1
      rw[hp] at t3;obtain rfl:=aI t3
      exact⟨t4,t5⟩
   clear hc0
   by_cases h1:s.nd=n
   ·have b1:(s.nd==n)=true:=by simp[h1]
    have b1':decide (s.nd=n)=true:=by simp[h1]
    by_cases h2:0≤kU oa s.pg
    ·have b2:decide (0≤kU oa s.pg)=true:=decide_eq_true h2
     obtain⟨v1,v2⟩:=qW h2
     have m1':0≤kU oa s.pg % (e:Int):=Int.emod_nonneg _ om
     have m2':kU oa s.pg % (e:Int)<e:=Int.emod_lt_of_pos _ om
     have qn:(oV e oa s.pg:Int)=kU oa s.pg / (e:Int):=by rw[←v1,dL h2]
     have nb:(oV e oa s.pg:Int)≤9223372036854775807:=by rw[qn];omega
     have qn':=qn.symm
     clear qn
     have hwq:IntKind.i64.wrap ((oV e oa s.pg:Nat):Int)=(oV e oa s.pg:Int):=aT _ om
     by_cases h3:kU oa s.pg % (e:Int)=0
     ·have b3:decide (kU oa s.pg % (e:Int)=0)=true:=decide_eq_true h3
      by_cases h4:oV e oa s.pg<s.T.length
      ·have b4:decide (oV e oa s.pg<s.T.length)=true:=decide_eq_true h4
       have b4':decide ((oV e oa s.pg:Int)<(s.T.length:Int))=true:=decide_eq_true om
       obtain⟨bt,hbt⟩: ∃bt,s.T[oV e oa s.pg]?=some bt:=⟨s.T[oV e oa s.pg],au h4⟩
       have ct:=TB.out _ _ hbt
       have hW5:rY e (n,oa) s=bt:=by rw[hW,b1',b2,b3,b4,hbt];cases bt<;>rfl
       cases bt with
       |true=>
        obtain⟨y1,y2⟩:=YES hW5
        have y3:=KW.out hW5
        rw[←y3] at y2
        clear y3
        clear hW NO YES KW qW hs hp hsl hbt qb HNOO HRES hsm
        generalize hdd:kU oa s.pg=d at*
        generalize oV e oa s.pg=q at*
        generalize d % (e:Int)=rr at*
        generalize s.T.length=l at*
        subst y1 y2
        go_wp2_with fail
        go_quiet (fail)
        go_wp2_with fail
        go_quiet (fail)
        go_wp2_with fail
        go_quiet (fail)
        go_wp2
        go_ret2
        exact⟨rfl,(BW.out _ gI).2.1⟩
       |false=>
        have HNO:=ah (NO hW5)
        clear hW NO YES KW qW hbt qb HNOO HRES hsm
        generalize hdd:kU oa s.pg=d at*
        generalize oV e oa s.pg=q at*
        generalize d % (e:Int)=rr at*
        generalize s.T.length=l at*
        clear hs hp hsl
        go_wp2_with fail
        go_quiet (fail)
        go_wp2_with fail
        go_quiet (fail)
        go_wp2
        go_round
        case rel=>exact⟨i+1,HNO.out,by go_num,BW.out _ gI⟩
        case measure=>simp[intOf];omega
      ·have b4:decide (oV e oa s.pg<s.T.length)=false:=decide_eq_false h4
       have b4':decide ((oV e oa s.pg:Int)<(s.T.length:Int))=false:=decide_eq_false om
       have HNO:=ah (NO (by rw[hW,b4];simp))
       clear hW NO YES KW qW qb HNOO HRES hsm
       generalize hdd:kU oa s.pg=d at*
       generalize oV e oa s.pg=q at*
       generalize d % (e:Int)=rr at*
       generalize s.T.length=l at*
       clear hs hp hsl
       go_wp2_with fail
       go_quiet (fail)
       go_wp2_with fail
       go_quiet (fail)
       go_wp2
       go_round
       case rel=>exact⟨i+1,HNO.out,by go_num,BW.out _ gI⟩
       case measure=>simp[intOf];omega
     ·have b3:decide (kU oa s.pg % (e:Int)=0)=false:=decide_eq_false h3
      have b3':(kU oa s.pg % (e:Int)==0)=false:=by simpa using h3
      have HNO:=ah (NO (by rw[hW,b3];simp))
      clear hW NO YES KW qW qb HNOO HRES hsm v1 qn' nb hwq
      generalize hdd:kU oa s.pg=d at*
      generalize d % (e:Int)=rr at*
      clear hs hp hsl
      go_wp2_with fail
      go_quiet (fail)
      go_wp2_with fail
      go_quiet (fail)
      go_wp2
      go_round
      case rel=>exact⟨i+1,HNO.out,by go_num,BW.out _ gI⟩
      case measure=>simp[intOf];omega
    ·have b2:decide (0≤kU oa s.pg)=false:=decide_eq_false h2
     have HNO:=ah (NO (by rw[hW,b2];simp))
     clear hW NO YES KW qW qb HNOO HRES hsm
     generalize hdd:kU oa s.pg=d at*
     clear hs hp hsl
     go_wp2_with fail
     go_quiet (fail)
     go_wp2_with fail
     go_quiet (fail)
     go_wp2
     go_round
     case rel=>exact⟨i+1,HNO.out,by go_num,BW.out _ gI⟩
     case measure=>simp[intOf];omega
   ·have b1:(s.nd==n)=false:=by simp[h1]
    have b1':decide (s.nd=n)=false:=by simp[h1]
    have HNO:=ah (NO (by rw[hW,b1'];simp))
    clear hW NO YES KW qW qb HNOO HRES hsm
    generalize hdd:kU oa s.pg=d at*
    clear hs hp hsl
    go_wp2_with fail
    go_quiet (fail)
    go_wp2_with fail
    go_quiet (fail)
    go_wp2
    go_round
    case rel=>exact⟨i+1,HNO.out,by go_num,BW.out _ gI⟩
    case measure=>simp[intOf];omega
  ·have RS:res= .pointer none∧k=0:=by
    rcases HRES.out with⟨_,t1,t2⟩|⟨s',p',t1,_⟩
    ·exact⟨t1,t2⟩
    ·have:=(ak.1 t1).1
     have:=EN.out;omega
   obtain⟨rfl,rfl⟩:=RS
   obtain rfl:i=nn:=om
   go_wp2
   go_ret2
   exact⟨rfl,(BW.out _ (aK _ _)).2.1⟩
theorem Eb (n oa:Int) (h:CS B w pc pz mn lw hi O e X vs A c) (hI:jD e c) (o1: -9223372036854775808≤oa) (o2:oa≤9223372036854775807) {i:Nat} (hf:sV e (n,oa) c.C=some i) {s:Sl} {p:Nat×Nat} (hs:c.C[i]?=some s) (hp:A[i]?=some p):
 Calls Tryz.prog 119 #[.pointer (some ⟨pc,0,none⟩),.agg #[.int .i64 n,.int .i64 oa]] w fun r w'=>r= .returned (.tuple #[.pointer (some ⟨p.1,0,none⟩),.int .i64 (kOf e (n,oa) s)])∧Below w.heap.size w w':=by
 obtain⟨z,hz,hh,hn⟩:=pJ hf
 rw[hs] at hz;obtain rfl:=aI hz
 exact xA n oa h hI o1 o2 i (Nat.le_of_lt (ak.1 hs).1) hn _ _ (.inr ⟨s,p,hs,hp,hh,rfl,rfl⟩)
theorem Ec (n oa:Int) (h:CS B w pc pz mn lw hi O e X vs A c) (hI:jD e c) (o1: -9223372036854775808≤oa) (o2:oa≤9223372036854775807) (hf:sV e (n,oa) c.C=none):
 Calls Tryz.prog 119 #[.pointer (some ⟨pc,0,none⟩),.agg #[.int .i64 n,.int .i64 oa]] w fun r w'=>r= .returned (.tuple #[.pointer none,.int .i64 (0:Nat)])∧Below w.heap.size w w':=
 xA n oa h hI o1 o2 c.C.length (aH _) (fun j s _ hs=>AJ hf s (aA hs)) _ _ (.inl ⟨rfl,rfl,rfl⟩)
theorem Ed (n oa:Int) (h:CS B w pc pz mn lw hi O e X vs A c) (hI:jD e c) (o1: -9223372036854775808≤oa) (o2:oa≤9223372036854775807) {i:Nat} (hf:sV e (n,oa) c.C=some i):
 Calls Tryz.prog 25 #[.pointer (some ⟨pc,0,none⟩),.agg #[.int .i64 n,.int .i64 oa]] w fun r w'=>r= .returned .nilIface∧CS B w' pc pz mn lw hi O e X vs A (jB e c (n,oa)).1∧Keep (cay pc vs A) w w':=by
 obtain⟨s,hs,hh,hn⟩:=pJ hf
 have hg:(jB e c (n,oa)).1=⟨c.L,c.C.set i (jc s (kOf e (n,oa) s) false)⟩:=by unfold jB;rw[hf];simp only[hs]
 rw[hg]
 obtain⟨p,hp,_,_⟩:=h.ch.at hs
 have b0:Below w.heap.size w (w.alloc (.cells #[.int .i64 n,.int .i64 oa] 49)):=gI
 have FS:=ah (Eb n oa (h.below b0) hI o1 o2 hf hs hp)
 obtain⟨k,hk⟩: ∃k,k=kOf e (n,oa) s:=⟨_,rfl⟩
 have kt:=((uY hI.e1).1 hh).1
 rw[←hk] at FS kt ⊢
 have klt:=(ak.1 kt).1
 have DK:s.T.length≤64:=by rw[hI.len s (aA hs)];unfold gP;exact bP _ _
 have HB0:=ah b0
 have HH:=ah h;have HP:=ah hp;have HS:=ah hs
 have hms:gF s≤64:=cZ (iZ s.T) DK
 have hm1:1≤gF s:=Da kt
 have HMS:((gF (jc s k false):Nat):Int)=(gF s:Int)-1:=by
  have h0:=mU kt false
  have h1:gF (jc s k false)=iI (s.T.set k false):=rfl
  have h2:gF s=iI s.T:=rfl
  simp at h0
  omega
 have ne12: ¬(p.1=p.2):=(h.slab hp).2.2
 have ne21: ¬(p.2=p.1):=fun q=>ne12 q.symm
 have HMS':=ah HMS
 have HKT:=ah kt
 clear h hI hf hh hn hg hp hs b0 hk kt HMS
 go_enter Tryz.func25,Tryz.ntmps25
 go_wp2_with fail
 refine FS.out.mono ?_
 rintro r w1 ⟨rfl,hb1⟩
 have B1:=ah (HB0.out.trans (hb1.mono sI))
 have SLB:=(HH.out.below B1.out).ch.sl i p s HP.out HS.out
 obtain⟨d0,d1,_,d3,d4,dl,dl2⟩:=SLB.cells
 have fz:w1.frozen? ⟨p.2,k,none⟩=false:=SLB.2.f k (by rw[iJ];omega)
 have fz4:w1.frozen? ⟨p.1,4,none⟩=false:=SLB.1.f 4 (by simp[iY])
 have ck:w1.cell? ⟨p.2,k,none⟩=some (.bool true):=SLB.2.c k _ (iC HKT.out)
 have HSP:=ah (jZ.put (k:=k) false SLB ne12 klt)
 rw[HMS'.out] at HSP
 clear SLB FS hb1
 go_wp2
 go_ret
 refine⟨rfl,(HH.out.below B1.out).use HP.out HSP.out.1 HSP.out.2,(Keep.of B1.out).then (HSP.out.2.mono fun y hy=> ?_)⟩
 have m:=HH.out.slab HP.out
 simp at hy
 rcases hy with rfl|rfl
 ·exact m.1
 ·exact m.2.1
end
end
section
open Go.RowKit Go.Lib
attribute [local go_sem ↓] bA bB
theorem Bh (w:World) (ty:TypeId) (b o c:Nat) (hc:(w.cell? ⟨b,o,none⟩).isSome=true) (hf:w.frozen? ⟨b,o,none⟩=false):
 (Builtin.clear_ #[198] ty #[.slice (some ⟨b,o,none⟩) 1 c]).run Tryz.prog w= .ok (.tuple #[]) (w.setCells b o [.pointer none]):=by
 have hst:=run_storeCells_cells (P:=Tryz.prog) b o [.pointer none] 0 w (by intro j hj;simp at hj;subst hj;simpa using hc) (by intro j hj;simp at hj;subst hj;simpa using hf) (by intro v hv;simp at hv;subst hv;rfl)
 simp only[Nat.add_zero] at hst
 have hz:(Value.pointer none).cells=#[.pointer none]:=rfl
 have hzz:(zeroValue 208).run Tryz.prog w= .ok (.pointer none) w:=kR
 simp[Builtin.clear_,run_underlying bX,hzz,hz]
 have e1:(Builtin.zeroCells #[Value.pointer none] 1).toList=[.pointer none]:=by simp[Builtin.zeroCells]
 rw[e1,hst]
 rfl
theorem Bj {α:Type} {us rest:List α} {z:α} {i:Nat} (hi:i<us.length):
 ((((us++rest).take i++us.drop (i+1)++(us++rest).drop (i+(us.drop (i+1)).length)).take (us.length-1)++[z]++((us++rest).take i++us.drop (i+1)++(us++rest).drop (i+(us.drop (i+1)).length)).drop (us.length-1+1)).take (us.length-1))=us.eraseIdx i:=by
 have e1:((us++rest).take i++us.drop (i+1)++(us++rest).drop (i+(us.drop (i+1)).length)).take (us.length-1)=us.eraseIdx i:=by
  rw[bK (by simp;omega),dY (by simp;omega),bK om,dz]
 rw[bY,bK (by rw[e1,dw];split<;>omega),e1]
 rw[dY (by rw[dw];split<;>omega)]
def Ee (B:Nat) (g k i:Nat) (us:List Value) (w:World) (e:Ending) (w':World):Prop:=
 e= .returned (.slice (some ⟨g,0,none⟩) (us.length-1) k)∧w'.ownsRow B 208 1 (.slice (some ⟨g,0,none⟩) (us.length-1) k) (us.length-1) (us.eraseIdx i)∧Keep [g] w w'
theorem sdel_ok {B:Nat} (g k i:Nat) (us rest:List Value) (w:World) (hR:Row1 w g 208 (us++rest)) (hk:(us++rest).length=k) (hm:k≤maxLen) (hBg:B≤g) (hi:i<us.length) (h1: ∀x∈us,x.oneCell'=true) (hl:us.length≤2000):
 Calls Tryz.prog 132 #[.slice (some ⟨g,0,none⟩) us.length k,.int .i64 i,.int .i64 ((i:Int)+1)] w (Ee B g k i us w):=by
 obtain⟨n,hn⟩: ∃n,n=us.length:=⟨_,rfl⟩
 have hrk:n≤k:=by rw[←hk,hn];simp
 have hdl:(us.drop (i+1)).length=n-(i+1):=by rw[bT,hn]
 have LR:=hR.loc
 have hsp: ∀(W:World),W=w.drew→∀j,j<(us.drop (i+1)).length→(W.cell? ⟨g,0+i*1+j,none⟩).isSome=true∧W.frozen? ⟨g,0+i*1+j,none⟩=false:=fun W hW j hj=>by
  subst hW
  rw[hdl] at hj
  obtain⟨x,hx⟩: ∃x,(us++rest)[0+i*1+j]?=some x:=⟨(us++rest)[0+i*1+j]' om,au _⟩
  exact⟨by show(w.cell? _).isSome=true;rw[LR.c _ x hx];rfl,LR.f _ om⟩
 have hsrc: ∀(W:World),W=w.drew→∀(c:Nat) (j:Nat) (u:Value),(us.drop (i+1))[j]?=some u→W.cell? (Addr.add ⟨g,i+1,none⟩ j)=some u:=fun W hW c j u hj=>by
  subst hW
  rw[addr_add]
  rw[bM] at hj
  exact LR.c (i+1+j) u (by rw[bJ (ak.1 hj).1];exact hj)
 obtain⟨W1,hW1⟩: ∃W1,W1=w.drew.setCells g i (us.drop (i+1)):=⟨_,rfl⟩
 have R1:=hR.drew.sets (us.drop (i+1)) i (by rw[hdl,hk];omega)
 rw[←hW1] at R1
 have L1:=R1.loc
 have l1:((us++rest).take i++us.drop (i+1)++(us++rest).drop (i+(us.drop (i+1)).length)).length=k:=by simp only[aW,aU,bT] at hk ⊢;omega
 have hcl:=fun ty c=>Bh W1 ty g (n-1) c (by
  obtain⟨x,hx⟩: ∃x,((us++rest).take i++us.drop (i+1)++(us++rest).drop (i+(us.drop (i+1)).length))[n-1]?=some x:=⟨_,au (by rw[l1];omega)⟩
  rw[L1.c _ x hx];rfl) (L1.f _ (by rw[l1];omega))
 have FIN:Hid (Ee B g k i us w (.returned (.slice (some ⟨g,0,none⟩) (n-1) k)) (W1.setCells g (n-1) [.pointer none])):=by
  have R2:=R1.sets [.pointer none] (n-1) (by rw[l1];simp;omega)
  have hlen:(((us++rest).take i++us.drop (i+1)++(us++rest).drop (i+(us.drop (i+1)).length)).take (n-1)++[Value.pointer none]++((us++rest).take i++us.drop (i+1)++(us++rest).drop (i+(us.drop (i+1)).length)).drop (n-1+[Value.pointer none].length)).length=k:=by simp only[aW,aU,bT,dF] at l1 ⊢;omega
  have ow:=R2.own hBg (n:=n-1) (by rw[hlen];omega) (by rw[hlen];exact hm)
  rw[hlen] at ow
  have e2:=Bj (rest:=rest) (z:=Value.pointer none) hi
  rw[←hn] at e2
  rw[dF] at ow
  rw[e2] at ow
  refine⟨by rw[hn],by rw[←hn];exact ow,?_⟩
  rw[hW1]
  exact jr _ _ (jr _ _ (Keep.refl _ _).drew (.inl sI)) (.inl sI)
 have hz2: ¬((i:Int)=(i:Int)+1):=om
 have htn:((i:Int)+1).toNat=i+1:=om
 have hb1:(0:Int)≤(i:Int)+1:=om
 have hi0:(0:Int)≤(i:Int):=om
 have hb3:(i:Int)≤(i:Int)+1:=om
 have hb4:(i:Int)+1≤(n:Int):=om
 have hb5:(i:Int)+1≤(k:Int):=om
 have hb6:(i:Int)≤(k:Int):=om
 have hw2:((n-1:Nat):Int)≤(n:Int):=om
 have hnk:(n:Int)≤(k:Int):=om
 have hn1:n-(n-1)=1:=om
 have hki: ¬(k=i):=om
 have hkn: ¬(k=n-1):=om
 have hl':n≤2000:=om
 have hin:i+(n-(i+1))=n-1:=om
 rw[←hn]
 unfold maxLen at hm
 have ml:=bX
 obtain⟨i0,hi0',hz0,hzs,hzb⟩:=info_parts (P:=Tryz.prog) (e:=208) (z:=.pointer none) (size:=1) (bytes:=8) kR
 have hone: ∀u∈us.drop (i+1),u.oneCell'=true:=fun u hu=>h1 u (dJ hu)
 clear hR LR R1 L1 l1 hk hn hi hl h1
 go_enter Tryz.func132,Tryz.ntmps132
 by_cases hc:k=i+1
 ·obtain rfl:n=i+1:=by omega
  subst hc
  have hd0:us.drop (i+1)=[]:=dS.1 om
  rw[hd0] at hW1
  simp only[World.setCells] at hW1
  go_wp2
  go_region_law (refine step_append_room rfl (.tmp 22) (.tmp 25) 198 rfl 208 i0 1 bX hi0' hzs g 0 i (i+1) (by simp[Act.eval,Act.put]) ⟨g,0,none⟩ 0 0 [] (by simp[Act.eval,Act.put]) sI sI sI om sI ?_)
  subst hW1
  simp only[World.setCells]
  simp only[Nat.add_sub_cancel] at hcl FIN
  go_wp2
  go_ret
  exact FIN.out
 ·go_wp2
  go_region_law (refine step_append_room rfl (.tmp 22) (.tmp 25) 198 rfl 208 i0 1 bX hi0' hzs g 0 i k (by simp[Act.eval,Act.put]) ⟨g,i+1,none⟩ (n-(i+1)) (k-(i+1)) (us.drop (i+1)) (by simp[Act.eval,Act.put]) (by rw[hdl];omega) (hsrc _ rfl 0) hone om (hsp _ rfl) ?_)
  rw[←hW1]
  clear hW1
  go_wp2
  go_ret
  exact FIN.out
end
section
open Go.RowKit Go.Maps
attribute [local go_sem ↓] bA bB
theorem Ef (A:SA) (i:Nat):gJ (A.eraseIdx i)=(gJ A).eraseIdx i:=by
 unfold gJ
 rw[dz,dz]
 simp[List.map_take,List.map_drop]
theorem A8 (A:SA) (i:Nat):(ay (A.eraseIdx i)).Sublist (ay A):=by
 induction A generalizing i with
 |nil=>simp
 |cons a A ih=>
  cases i with
  |zero=>
   simp only[List.eraseIdx_cons_zero,ay,fu]
   exact List.sublist_append_right _ _
  |succ i=>
   simp only[List.eraseIdx_cons_succ,ay,fu]
   exact List.Sublist.append (List.Sublist.refl _) (ih i)
section
variable {B:Nat} {ev:Nat→Addr} {pc pz e:Nat} {mn lw hi:Int} {O:List (List Int)} {X:List Nat} {vs:Value} {A:SA} {c:Ca} {w w1 w':World}
theorem qh.del {C:List Sl} {g k i:Nat} (h:qh X B w pc pz e (.slice (some ⟨g,0,none⟩) C.length k) A C) (hi:i<C.length) (kk:Keep [g] w w1) (own:w1.ownsRow B 208 1 (.slice (some ⟨g,0,none⟩) (C.length-1) k) (C.length-1) (gJ (A.eraseIdx i))) (hw':w'=w1.setCell ⟨pc,2,none⟩ (.slice (some ⟨g,0,none⟩) (C.length-1) k)):
 qh X B w' pc pz e (.slice (some ⟨g,0,none⟩) (C.length-1) k) (A.eraseIdx i) (C.eraseIdx i)∧Keep [pc,g] w w'∧∀y∈cay pc (.slice (some ⟨g,0,none⟩) (C.length-1) k) (A.eraseIdx i),y∈cay pc (.slice (some ⟨g,0,none⟩) C.length k) A:=by
 obtain⟨n0,nn⟩:=bL.1 h.nd
 obtain⟨no,na,nx⟩:=bU.1 nn
 have eo:gQ (.slice (some ⟨g,0,none⟩) (C.length-1) k)=gQ (.slice (some ⟨g,0,none⟩) C.length k):=rfl
 have hg:g∈gQ (.slice (some ⟨g,0,none⟩) C.length k):=by simp[gQ,Value.ownBlock]
 have hpg:pc≠g:=fun q=>n0 (av _ (q▸hg))
 have hga:g∉ay A:=fun q=>nx _ hg _ q rfl
 have hpa:pc∉ay A:=fun q=>n0 (aB _ q)
 have K':Keep [pc,g] w w':=by rw[hw'];exact(kk.mono (fun y q=>by simp at q;simp[q])).setCell (p:=⟨pc,2,none⟩) (.inl sI) _
 have sub: ∀y∈cay pc (.slice (some ⟨g,0,none⟩) (C.length-1) k) (A.eraseIdx i),y∈cay pc (.slice (some ⟨g,0,none⟩) C.length k) A:=fun y hy=>by
  rcases aC.1 hy with q|q
  ·subst q;exact aD ..
  ·rcases aF.1 q with r|r
   ·exact aj _ (av _ (eo▸r))
   ·exact aj _ (aB _ ((A8 A i).subset r))
 have el:(C.eraseIdx i).length=C.length-1:=by rw[dw,if_pos hi]
 refine⟨⟨?_,?_,?_,fun j r z hr hz=> ?_,fun y hy=>h.mem y (sub y hy),?_,fun y hy=>⟨(h.lim y (sub y hy)).1,aG (h.lim y (sub y hy)).2 K'.size⟩⟩,K',sub⟩
 ·rw[hw']
  exact(h.c.keep kk (by simpa using hpg)).store 2 _ sI
 ·rw[el,hw']
  exact iB own ((Keep.refl [pc] _).setCell (p:=⟨pc,2,none⟩) (.inl sI) _) (fun x hx q=>by
   simp at hx;subst hx
   simp[gQ,Value.ownBlock] at q
   exact hpg q)
 ·rw[el,dw,if_pos (by rw[h.len];exact hi),h.len]
 ·rw[List.getElem?_eraseIdx] at hr hz
  have old: ∀j r z,A[j]?=some r→C[j]?=some z→jZ w' r z:=fun j r z hr hz=>by
   have hm:=aA hr
   have a1:r.1∈ay A:=jq.2 ⟨r,hm,.inl rfl⟩
   have a2:r.2∈ay A:=jq.2 ⟨r,hm,.inr rfl⟩
   refine(h.sl j r z hr hz).keep K' (fun q=> ?_) (fun q=> ?_)
   ·simp at q
    rcases q with t|t
    ·exact hpa (t▸a1)
    ·exact hga (t▸a1)
   ·simp at q
    rcases q with t|t
    ·exact hpa (t▸a2)
    ·exact hga (t▸a2)
  split at hr
  ·rename_i q;rw[if_pos q] at hz;exact old _ r z hr hz
  ·rename_i q;rw[if_neg q] at hz;exact old _ r z hr hz
 ·refine bL.2 ⟨fun q=>n0 ?_,bU.2 ⟨no,na.sublist (A8 A i),fun a ha b hb hab=>nx a ha b ((A8 A i).subset hb) hab⟩⟩
  rcases aF.1 q with r|r
  ·exact av _ r
  ·exact aB _ ((A8 A i).subset r)
theorem CS.del {g k i:Nat} (h:CS B w pc pz mn lw hi O e X (.slice (some ⟨g,0,none⟩) c.C.length k) A c) (hi':i<c.C.length) (kk:Keep [g] w w1) (own:w1.ownsRow B 208 1 (.slice (some ⟨g,0,none⟩) (c.C.length-1) k) (c.C.length-1) (gJ (A.eraseIdx i))) (hw':w'=w1.setCell ⟨pc,2,none⟩ (.slice (some ⟨g,0,none⟩) (c.C.length-1) k)):
 CS B w' pc pz mn lw hi O e X (.slice (some ⟨g,0,none⟩) (c.C.length-1) k) (A.eraseIdx i) ⟨c.L,c.C.eraseIdx i⟩∧Keep (cay pc (.slice (some ⟨g,0,none⟩) c.C.length k) A) w w'∧∀y∈cay pc (.slice (some ⟨g,0,none⟩) (c.C.length-1) k) (A.eraseIdx i),y∈cay pc (.slice (some ⟨g,0,none⟩) c.C.length k) A:=by
 obtain⟨q1,q2,q3⟩:=h.ch.del hi' kk own hw'
 have mg: ∀s∈[pc,g],s∈cay pc (.slice (some ⟨g,0,none⟩) c.C.length k) A:=fun s hs=>by
  simp at hs
  rcases hs with rfl|rfl
  ·exact aD ..
  ·exact aj _ (av _ (by simp[gQ,Value.ownBlock]))
 exact⟨⟨h.z.keep q2 (fun s hs=>.inl ⟨h.ch.mem s (mg s hs),h.ne s (mg s hs)⟩),q1,fun y hy=>h.ne y (q3 y hy),h.l0⟩,q2.mono mg,q3⟩
theorem Bl {L:List Nd} {s:Sl} (h:kM L s):(jH L s.nd s.pg 0).2=0:=by
 obtain⟨h0,x,hx,hg⟩:=h
 have hl:=(ak.1 hx).1
 have hv: ¬(s.nd<0∨(L.length:Int)≤s.nd):=om
 unfold jH
 rw[if_neg hv,hx]
 simp only[hg,if_true]
theorem yG (v most:Int) (hE:nI B ev w) (h:CS B w pc pz mn lw hi O e X vs A c) (hv:v<0∨(c.L.length:Int)≤v∨most<0):
 Calls Tryz.prog 29 #[.pointer (some ⟨pc,0,none⟩),.int .i64 v,.int .i64 most] w fun r w'=>r= .returned (.tuple #[.int .i64 0,iP ev 2])∧Below w.heap.size w w':=by
 have e1:iP ev 2= .iface 434 (.pointer (some (ev 2))):=rfl
 by_cases hb:v<0∨(c.L.length:Int)≤v
 ·have NO:=ah (wX hE.c h v hb)
  rw[e1] at NO ⊢
  clear h hv hE e1 hb
  go_enter Tryz.func29,Tryz.ntmps29
  go_wp2_with fail
  refine NO.out.mono ?_
  rintro r w1 ⟨rfl,hb1⟩
  go_wp2
  go_ret2
  exact⟨rfl,hb1⟩
 ·obtain⟨n,rfl⟩: ∃n:Nat,v=n:=⟨v.toNat,om⟩
  have NO:=ah (vB h n om)
  have hm:most<0:=om
  have HE:=ah hE;have E1:=ah e1
  have d1:decide (most<0)=true:=decide_eq_true hm
  rw[e1]
  clear h hv hE e1 hb
  go_enter Tryz.func29,Tryz.ntmps29
  go_wp2_with fail
  refine NO.out.mono ?_
  rintro r w1 ⟨rfl,hb1⟩
  have g2:=(HE.out.go hb1).c.c2;have g2l:=aG HE.out.c.l2 (cZ HE.out.size hb1.size)
  rw[E1.out] at g2
  go_wp2_with fail
  go_quiet (fail)
  go_wp2
  go_ret2
  exact⟨rfl,gI⟩
theorem Bo (v:Nat) (most:Int) (hE:nI B ev w) (h:CS B w pc pz mn lw hi O e X vs A c) (hI:jD e c) (hv:v<c.L.length) (hm:0≤most):
 Calls Tryz.prog 29 #[.pointer (some ⟨pc,0,none⟩),.int .i64 v,.int .i64 most] w fun r w'=>r= .returned (.tuple #[.int .i64 (ig v most c.C.length (c,0)).2,.nilIface])∧
  ∃v' A',CS B w' pc pz mn lw hi O e X v' A' (ig v most c.C.length (c,0)).1∧Keep (cay pc vs A++ys c.L) w w'∧∀y∈cay pc v' A',y∈cay pc vs A:=by
 have hB:=hE.size
 have NO:=ah (vB h v hv)
 have HH:=ah h;have HE:=ah hE;have HI:=ah hI
 obtain⟨R,hR⟩: ∃R,R=ig v most c.C.length (c,0):=⟨_,rfl⟩
 have dm:decide (most<0)=false:=decide_eq_false om
 have few:=hI.few
 obtain⟨N,hN⟩: ∃N,N=c.C.length:=⟨_,rfl⟩
 rw[←hN] at few
 have HN:=ah hN
 rw[←hR]
 have HR:=ah hR
 clear h hE hI hR hN
 go_enter Tryz.func29,Tryz.ntmps29
 go_wp2_with fail
 refine NO.out.mono ?_
 rintro r w1 ⟨rfl,hb1⟩
 have H1:=ah (HH.out.below hb1)
 have K1:=ah (Keep.of (S:=cay pc vs A++ys c.L) hb1)
 have c2:=H1.out.ch.c.c 2 _ rfl;have cl:=H1.out.ch.c.lt
 obtain⟨qv,kv,evs,kv1,kv2,hrow⟩:=H1.out.ch.form
 subst evs
 rw[←HN.out] at c2
 have hw1:IntKind.i64.wrap ((N:Int)-1)=(N:Int)-1:=aT _ om
 clear NO hb1 hrow
 go_wp2_with fail
 go_loopw [9,10] (fun nv iv wr=>∃(i n:Nat) (v':Value) (A':SA) (c':Ca),iv= .int .i64 ((i:Int)-1)∧nv= .int .i64 n∧i≤c'.C.length∧n+i≤N∧Hid (R=ig v most i (c',n))∧Hid (CS B wr pc pz mn lw hi O e X v' A' c')∧Hid (jD e c')∧Hid (iE c.L c'.L)∧Hid (Keep (cay pc (.slice qv c.C.length kv) A++ys c.L) w wr)∧Hid (∀y∈cay pc v' A',y∈cay pc (.slice qv c.C.length kv) A)) (fun _ iv _=>(intOf iv+1).toNat)
 case atStart=>exact⟨N,0,_,A,c,by go_num,by go_num,by rw[HN.out];exact aH _,om,by rw[HN.out];exact HR,H1,HI,iE.refl _,K1,fun y q=>q⟩
 case round=>
  obtain⟨i,n,v',A',c',rfl,rfl,hic,hni,HRr,HCr,HIr,HSr,HKr,HYr⟩:=hrel
  cases i with
  |zero=>
   have d1:decide ((0:Int)≤((0:Nat):Int)-1)=false:=decide_eq_false om
   have er:R=(c',n):=HRr.out
   subst er
   go_wp2
   go_ret2
   exact⟨rfl,v',A',HCr.out,HKr.out,HYr.out⟩
  |succ j=>
   have ej:((j+1:Nat):Int)-1=(j:Int):=om
   rw[ej]
   have d1:decide ((0:Int)≤(j:Int))=true:=decide_eq_true om
   have hw3:IntKind.i64.wrap ((j:Int)-1)=(j:Int)-1:=aT _ om
   by_cases hnm:(n:Int)<most
   ·have d2:decide ((n:Int)<most)=true:=decide_eq_true hnm
    obtain⟨s,hs⟩: ∃s,c'.C[j]?=some s:=⟨c'.C[j]' om,au _⟩
    obtain⟨p,hp,hsl,_⟩:=HCr.out.ch.at hs
    obtain⟨qr,kr,evr,kr1,kr2,hrowr⟩:=HCr.out.ch.form
    subst evr
    obtain⟨g,rfl,hg,ck⟩:=hrowr j p hp
    obtain⟨d0,d1',_,d3,d4,dl,dl2⟩:=hsl.cells
    have y0:=HCr.out.ch.c.c 0 _ rfl;have y2:=HCr.out.ch.c.c 2 _ rfl;have yl:=HCr.out.ch.c.lt
    have few':=HIr.out.few
    obtain⟨m,hm'⟩: ∃m,m=c'.C.length:=⟨_,rfl⟩
    have EM:=ah hm'
    rw[←hm'] at y2 kr1 few' hic
    clear hm'
    have hjm:(j:Int)<(m:Int):=om
    have hjk:j<kr:=om
    unfold maxLen at kr2
    have SH:R=if (n:Int)<most∧goS v s=true then ig v most j (⟨(jH c'.L s.nd s.pg 0).1,c'.C.eraseIdx j⟩,n+1) else ig v most j (c',n):=by
     rw[HRr.out]
     show(match c'.C[j]? with|none=>_|some s=>_)=_
     rw[hs]
    by_cases hgo:goS v s=true
    ·rw[if_pos ⟨hnm,hgo⟩] at SH
     have hgo':s.nd=v∧gF s=0:=by simpa[goS] using hgo
     obtain⟨g1,g2⟩:=hgo'
     have b1:(s.nd==(v:Int))=true:=by simp[g1]
     have b1':decide (s.nd=(v:Int))=true:=by simp[g1]
     rw[g2] at d4
     have HSH:=ah SH;have HS:=ah hs;have HP:=ah hp
     clear hgo hs hp hrowr
     have sm:=HS.out
     have smem:=aA sm
     obtain⟨r1,r2,r3,r4⟩:=HIr.out.rng smem
     have G0:=ah (Bl (HIr.out.tk s smem))
     have SZ:=ah (pE c'.L s.nd s.pg 0)
     have BW:=HH.out.zY hB HKr.out
     have GV:Hid (∀W,Below wr.heap.size wr W→Calls Tryz.prog 131 #[.pointer (some ⟨pz,0,none⟩),.agg #[.int .i64 v,.int .i64 s.pg,.int .i64 0]] W (oG B ev pz mn lw hi O c'.L W (jH c'.L s.nd s.pg 0))):=fun W b=>by
      rw[←g1]
      exact Dq pz mn lw hi O c'.L s.nd s.pg 0 W ((HE.out.below BW).go b) (HCr.out.below b).z.toB HCr.out.l0 (by simp[Lit.wf,IntKind.min,IntKind.max,IntKind.signed,IntKind.bits];omega)
     have HIV:=ah (HIr.out.gone sm)
     clear smem sm BW
     go_wp2_with fail
     refine iK 8 kR kR ?_
     simp only[aO,aX,aP,aV]
     repeat still_step
     refine wpStill_nil ?_
     have GW:=GV.out wr.drew (aK _ _).drew
     go_wp2_with fail
     refine GW.mono ?_
     rintro r w5 ⟨hr,hz5,hk5⟩
     rw[G0.out] at hr
     simp only[iP] at hr
     subst hr
     have HD:=ah ((HCr.out.below (w':=wr.drew) gI).zone hk5 hz5 SZ.out)
     have HK5:=ah (show Keep (ys c'.L) wr w5 from(Keep.of (S:=ys c'.L) (w':=wr.drew) gI).then hk5)
     have z2:w5.cell? ⟨pc,2,none⟩=some (.slice (some ⟨g,0,none⟩) m kr):=by
      have q:=HD.out.ch.c.c 2 _ rfl
      rw[EM.out];exact q
     have zf:=HD.out.ch.c.f 2 sI;have zl:=HD.out.ch.c.lt
     have hw4:IntKind.i64.wrap ((j:Int)+1)=(j:Int)+1:=aT _ om
     have DL:Hid (Calls Tryz.prog 132 #[.slice (some ⟨g,0,none⟩) m kr,.int .i64 j,.int .i64 ((j:Int)+1)] w5 fun e w'=>e= .returned (.slice (some ⟨g,0,none⟩) (m-1) kr)∧w'.ownsRow B 208 1 (.slice (some ⟨g,0,none⟩) (m-1) kr) (m-1) (gJ (A'.eraseIdx j))∧Keep [g] w5 w'):=by
      have el:(gJ A').length=m:=by rw[iX,HCr.out.ch.len,←EM.out]
      have ho:w5.ownsRow B 208 1 (.slice (some ⟨g,0,none⟩) c'.C.length kr) c'.C.length (gJ A'):=HD.out.ch.row
      rw[←EM.out] at ho
      obtain⟨rest,o1,o2,o3,o4,o5,o6⟩:=zQ ho
      have D:=sdel_ok (B:=B) g kr j (gJ A') rest w5 o1 o2 (by unfold maxLen;omega) o6 (by rw[el];omega) (lH A') (by rw[el];omega)
      rw[el] at D
      refine D.mono fun e w' ⟨h1,h2,h3⟩=>⟨by rw[h1,el],?_,h3⟩
      rw[Ef]
      rw[el] at h2
      exact h2
     clear GW GV hz5 hk5 d0 d1' d3 d4 y0 y2 hsl ck
     go_wp2_with fail
     refine DL.out.mono ?_
     rintro r w6 ⟨rfl,hown,hk6⟩
     have C6:=HD.out.ch.c.keep hk6 (fun q=>by
      simp at q
      exact(bL.1 HD.out.ch.nd).1 (av _ (by simp[gQ,Value.ownBlock,q])))
     have u2:=C6.c 2 _ rfl;have uf:=C6.f 2 sI;have ul:=C6.lt
     have HO:=ah hown;have HK6:=ah hk6
     clear hown hk6 C6 z2 zf zl DL
     go_wp2
     go_round
     case rel=>
      have em:=EM.out
      have h1:=HO.out
      have CD:=CS.del (c:=⟨(jH c'.L s.nd s.pg 0).1,c'.C⟩) (i:=j) (w1:=w6) HD.out (by show j<c'.C.length;omega) HK6.out (by show World.ownsRow _ _ _ _ (.slice _ (c'.C.length-1) _) (c'.C.length-1) _;rw[←em];exact h1) rfl
      obtain⟨x1,x2,x3⟩:=CD
      refine⟨j,n+1,.slice (some ⟨g,0,none⟩) (m-1) kr,A'.eraseIdx j,_,by go_num,by go_num,?_,om,HSH,?_,HIV,?_,?_,?_⟩
      ·show j≤(c'.C.eraseIdx j).length
       rw[dw];split<;>omega
      ·have:CS B _ pc pz mn lw hi O e X _ _ _:=x1
       rw[em];exact this
      ·exact HSr.out.trans SZ.out
      ·rw[em]
       have a1:=HKr.out.then (HK5.out.mono (fun y q=>aB _ (by rw[←HSr.out.ys];exact q)))
       exact a1.then (x2.mono (fun y q=>av _ (HYr.out y q)))
      ·intro y hy
       exact HYr.out y (x3 y (by rw[em] at hy;exact hy))
     case measure=>first|(simp[intOf];done)|(simp[intOf];omega)
    ·rw[if_neg (fun q=>hgo q.2)] at SH
     have HSH:=ah SH
     have FIN:Hid (∀W,Below wr.heap.size wr W→Hid (CS B W pc pz mn lw hi O e X (.slice (some ⟨g,0,none⟩) c'.C.length kr) A' c')∧Hid (Keep (cay pc (.slice qv c.C.length kv) A++ys c.L) w W)):=fun W b=>⟨HCr.out.below b,HKr.out.step b⟩
     by_cases h1:s.nd=v
     ·have b1:(s.nd==(v:Int))=true:=by simp[h1]
      have b1':decide (s.nd=(v:Int))=true:=by simp[h1]
      have h2: ¬(gF s=0):=fun q=>hgo (by simp[goS,h1,q])
      have b2:((gF s:Int)==0)=false:=by simp;omega
      have b2':decide ((gF s:Int)=0)=false:=by simp;omega
      clear hs hp hrowr hgo hsl SH
      generalize gF s=a at*
      go_wp2
      go_round
      case rel=>exact⟨j,n,_,A',c',by go_num,by go_num,by rw[←EM.out];omega,om,HSH,(FIN.out _ gI).1,HIr,HSr,(FIN.out _ gI).2,HYr⟩
      case measure=>first|(simp[intOf];done)|(simp[intOf];omega)
     ·have b1:(s.nd==(v:Int))=false:=by simp[h1]
      have b1':decide (s.nd=(v:Int))=false:=by simp[h1]
      clear hs hp hrowr hgo hsl SH
      generalize gF s=a at*
      go_wp2
      go_round
      case rel=>exact⟨j,n,_,A',c',by go_num,by go_num,by rw[←EM.out];omega,om,HSH,(FIN.out _ gI).1,HIr,HSr,(FIN.out _ gI).2,HYr⟩
      case measure=>first|(simp[intOf];done)|(simp[intOf];omega)
   ·have d2:decide ((n:Int)<most)=false:=decide_eq_false hnm
    have er:R=(c',n):=by rw[HRr.out];exact mY om
    subst er
    go_wp2
    go_ret2
    exact⟨rfl,v',A',HCr.out,HKr.out,HYr.out⟩
end
end
section
open Go.RowKit Go.Maps
theorem uH (e:Nat) (C:List Sl):(oU e C).length=jN C:=by
 unfold oU jN
 rw[List.length_flatMap]
 congr 1
 refine List.map_congr_left fun s _=> ?_
 unfold obsS gF iI
 rw[List.length_filterMap_eq_countP]
 have key: ∀T:List Bool,(List.range T.length).countP (fun k=>(if T[k]?=some true then some (oQ e s k) else none).isSome)=T.countP id:=by
  intro T
  induction T with
  |nil=>rfl
  |cons b T ih=>
   rw[dG,List.range_succ_eq_map,List.countP_cons,List.countP_map]
   have e2:(List.range T.length).countP ((fun k=>(if (b::T)[k]?=some true then some (oQ e s k) else none).isSome) ∘ Nat.succ)=(List.range T.length).countP (fun k=>(if T[k]?=some true then some (oQ e s k) else none).isSome):=by
    refine List.countP_congr fun k _=> ?_
    simp only[Function.comp,List.getElem?_cons_succ,Nat.succ_eq_add_one]
    by_cases q:T[k]?=some true<;>simp[q]
   rw[e2,ih]
   cases b<;>simp
 exact key s.T
theorem obs_few {e:Nat} {c:Ca} (h:jD e c):(oU e c.C).length≤65536:=by
 rw[uH]
 obtain⟨h1,h2⟩:=vI (C:=c.C) fun s hs=>by rw[h.len s hs];unfold gP;exact bP _ _
 have:=h.few
 omega
structure ApS (B:Nat) (w0:World) (pc pz:Nat) (mn lw hi:Int) (O:List (List Int)) (e:Nat) (L:List Nd) (X:List Nat) (v:Value) (A:SA) (c:Ca) (w:World):Prop where
 cs:CS B w pc pz mn lw hi O e X v A c
 inv:jD e c
 only:OnlyP c
 same:iE L c.L
 bel:Below B w0 w
section
variable {B:Nat} {ev:Nat→Addr} {w0 w w':World} {pc pz e:Nat} {mn lw hi:Int} {O:List (List Int)} {L:List Nd} {X:List Nat} {v:Value} {A:SA} {c:Ca}
end
end
end Go.Proofs.YtdcbhlcbiokbeaaGreatDoor
