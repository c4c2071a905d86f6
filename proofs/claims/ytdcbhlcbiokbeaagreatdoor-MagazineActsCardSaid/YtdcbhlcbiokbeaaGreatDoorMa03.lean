/- Lemmas and contracts for the claim's last text: Base, Mem. -/
import Derived.Test.YtdcbhlcbiokbeaaGreatDoorMa01
import Derived.Test.YtdcbhlcbiokbeaaGreatDoorMa02
set_option linter.unusedSimpArgs false
set_option linter.unusedVariables false
set_option maxHeartbeats 16000000
set_option maxRecDepth 100000
namespace Go.Proofs.YtdcbhlcbiokbeaaGreatDoor
section
open Go.RowKit
theorem iB {n:Nat} {a b:World} (h:Below n a b:=by repeat(first|exact aJ _ _|refine Below.drew ?_|refine below_drewN ?_ _|refine dW ?_ (fO aM (by first|omega|(simp;omega)|(simp;done)))|refine fU ?_ (by first|omega|(simp;omega)|(simp;done)) _|refine fC ?_ (by first|omega|(simp;omega)|(simp;done)) _)):Below n a b:=h
def jB (ev:Nat→Addr):Nat→Value
 |0=>.nilIface
 |i+1=>.iface 434 (.pointer (some (ev (i+1))))
def errG:Nat→Nat
 |1=>9
 |2=>1
 |3=>0
 |4=>5
 |5=>4
 |6=>6
 |7=>3
 |8=>8
 |9=>2
 |_=>7
structure qh (B:Nat) (ev:Nat→Addr) (w:World):Prop where
 size:B≤w.heap.size
 l2:1<B
 l3:0<B
 l4:5<B
 c2:w.cell? ⟨1,0,Option.none⟩=some (jB ev 2)
 c3:w.cell? ⟨0,0,Option.none⟩=some (jB ev 3)
 c4:w.cell? ⟨5,0,Option.none⟩=some (jB ev 4)
theorem qh.below {B:Nat} {ev:Nat→Addr} {w w':World} (h:qh B ev w) (hb:Below B w w'):qh B ev w':=
 ⟨bN h.size hb.size,h.l2,h.l3,h.l4,
  by rw[hb.cell (p:=⟨1,0,Option.none⟩) h.l2];exact h.c2,
  by rw[hb.cell (p:=⟨0,0,Option.none⟩) h.l3];exact h.c3,
  by rw[hb.cell (p:=⟨5,0,Option.none⟩) h.l4];exact h.c4⟩
theorem qh.z2 {B:Nat} {ev:Nat→Addr} {w:World} (h:qh B ev w):1<w.heap.size:=aF h.l2 h.size
theorem qh.z3 {B:Nat} {ev:Nat→Addr} {w:World} (h:qh B ev w):0<w.heap.size:=aF h.l3 h.size
structure Bu (B:Nat) (ev:Nat→Addr) (w:World):Prop where
 c:qh B ev w
 l5:4<B
 c5:w.cell? ⟨4,0,Option.none⟩=some (jB ev 5)
theorem Bu.below {B:Nat} {ev:Nat→Addr} {w w':World} (h:Bu B ev w) (hb:Below B w w'):Bu B ev w':=
 ⟨h.c.below hb,h.l5,by rw[hb.cell (p:=⟨4,0,Option.none⟩) h.l5];exact h.c5⟩
theorem Bu.z5 {B:Nat} {ev:Nat→Addr} {w:World} (h:Bu B ev w):4<w.heap.size:=aF h.l5 h.c.size
theorem Bu.size {B:Nat} {ev:Nat→Addr} {w:World} (h:Bu B ev w):B≤w.heap.size:=h.c.size
structure sS (B:Nat) (ev:Nat→Addr) (w:World):Prop where
 size:B≤w.heap.size
 glob: ∀i,1≤i→i≤10→errG i<B
 cell: ∀i,1≤i→i≤10→w.cell? ⟨errG i,0,Option.none⟩=some (jB ev i)
 inj: ∀i j,1≤i→i≤10→1≤j→j≤10→ev i=ev j→i=j
 row: ∀i,1≤i→i≤10→∃c t,w.heap[(ev i).block]?=some (.cells c t (0,0))
 lt: ∀i,1≤i→i≤10→(ev i).block<B
 globT:10<B
 typ:w.cell? ⟨10,0,Option.none⟩=some (.iface 391 (.agg #[.pointer (some ⟨11,33,Option.none⟩)]))
theorem sS.below {B:Nat} {ev:Nat→Addr} {w w':World} (h:sS B ev w) (hb:Below B w w'):sS B ev w':=
 ⟨bN h.size hb.size,h.glob,fun i a b=>by rw[hb.cell (p:=⟨errG i,0,Option.none⟩) (h.glob i a b)];exact h.cell i a b,h.inj,
  fun i a b=>by rw[hb.block _ (h.lt i a b)];exact h.row i a b,h.lt,h.globT,
  by rw[hb.cell (p:=⟨10,0,Option.none⟩) h.globT];exact h.typ⟩
theorem sS.c {B:Nat} {ev:Nat→Addr} {w:World} (h:sS B ev w):qh B ev w:=
 ⟨h.size,h.glob 2 (by decide) (by decide),h.glob 3 (by decide) (by decide),h.glob 4 (by decide) (by decide),h.cell 2 (by decide) (by decide),h.cell 3 (by decide) (by decide),h.cell 4 (by decide) (by decide)⟩
theorem sS.d {B:Nat} {ev:Nat→Addr} {w:World} (h:sS B ev w):Bu B ev w:=⟨h.c,h.glob 5 (by decide) (by decide),h.cell 5 (by decide) (by decide)⟩
theorem qD {W w1:World} {n:Nat} (hb:Below n W w1):(∀b o,b<n→w1.cell? ⟨b,o,Option.none⟩=W.cell? ⟨b,o,Option.none⟩)∧(∀b o,b<n→w1.frozen? ⟨b,o,Option.none⟩=W.frozen? ⟨b,o,Option.none⟩):=
 ⟨fun b o h=>hb.cell (p:=⟨b,o,Option.none⟩) h,fun b o h=>hb.frozen (p:=⟨b,o,Option.none⟩) h⟩
end
section
open Go.RowKit
theorem neqB (a k b m:Int) (w:World):(binOp .neq 59 (.agg #[.int .i64 a,.int .i64 k]) (.agg #[.int .i64 b,.int .i64 m])).run Tryz.prog w= .ok (.bool (!(a==b&&k==m))) w:=by
 have u3:=bg
 have a3:=fD
 have z3:=fA
 have hS:Tryz.prog.underlying 59=some (.struct (Tryz.prog.fieldsOf 59)):=kR
 have hp:Tryz.prog.stoodInHeld 59=false:=kR
 rw[run_neq_struct,show(10000:Nat)=9999+1 from rfl,run_equalIn_agg w 9999 59 _ _ hS hp]
 simp only[Program.fieldsOf,Tryz.underlying59]
 go_simp
 by_cases h1:a=b<;>by_cases h2:k=m<;>simp[h1,h2]
theorem guardB:Tryz.prog.eqGuardType Tryz.prog.depth 59=false:=kR
end
section
open Go.RowKit
theorem neqP (n a k m b c:Int) (w:World):(binOp .neq 61 (.agg #[.int .i64 n,.int .i64 a,.int .i64 k]) (.agg #[.int .i64 m,.int .i64 b,.int .i64 c])).run Tryz.prog w= .ok (.bool (!(n==m&&(a==b&&k==c)))) w:=by
 have u3:=bg
 have a3:=fD
 have z3:=fA
 have ub:=Tryz.underlying59
 have zb:=Tryz.sizeOf59
 have hS:Tryz.prog.underlying 61=some (.struct (Tryz.prog.fieldsOf 61)):=kR
 have hp:Tryz.prog.stoodInHeld 61=false:=kR
 have hS2:Tryz.prog.underlying 59=some (.struct (Tryz.prog.fieldsOf 59)):=kR
 have hp2:Tryz.prog.stoodInHeld 59=false:=kR
 rw[run_neq_struct,show(10000:Nat)=9999+1 from rfl,run_equalIn_agg w 9999 61 _ _ hS hp]
 simp only[Program.fieldsOf,Tryz.underlying61]
 go_simp
 by_cases h1:n=m<;>by_cases h2:a=b<;>by_cases h3:k=c<;>simp[h1,h2,h3]
theorem guardP:Tryz.prog.eqGuardType Tryz.prog.depth 61=false:=kR
end
section
open Go.RowKit
theorem yD (k:Int) (w:World):Calls Tryz.prog 215 #[.int .i64 k] w fun e w'=>e= .returned (.bool (decide (0≤k∧k≤6)))∧w=w':=by
 by_cases h0:0≤k
 ·by_cases h6:k≤6
  ·have hd:decide (0≤k∧k≤6)=true:=decide_eq_true ⟨h0,h6⟩
   rw[hd]
   go_enter Tryz.func215,Tryz.ntmps215
   go_wp2
   go_ret
   exact⟨rfl,rfl⟩
  ·have hd:decide (0≤k∧k≤6)=false:=decide_eq_false om
   rw[hd]
   go_enter Tryz.func215,Tryz.ntmps215
   go_wp2
   go_ret
   exact⟨sI,rfl⟩
 ·have hd:decide (0≤k∧k≤6)=false:=decide_eq_false om
  rw[hd]
  go_enter Tryz.func215,Tryz.ntmps215
  go_wp2
  go_ret
  exact⟨rfl,rfl⟩
theorem yE (k:Int) (w:World) (h:0≤k∧k≤6):Calls Tryz.prog 215 #[.int .i64 k] w fun e w'=>e= .returned (.bool true)∧w=w':=by
 have:=yD k w;rwa [decide_eq_true h] at this
theorem Bv (k:Int) (w:World) (h:k<0∨6<k):Calls Tryz.prog 215 #[.int .i64 k] w fun e w'=>e= .returned (.bool false)∧w=w':=by
 have:=yD k w;rwa [decide_eq_false (show¬(0≤k∧k≤6) by omega)] at this
theorem xC (k:Int) (w:World) (h:0≤k∧k≤6):Calls Tryz.prog 121 #[.int .i64 k] w fun e w'=>e= .returned (.tuple #[.int .i64 (sz k),.nilIface])∧w=w':=by
 have hs:=qA h.1 h.2
 obtain⟨h0,h6⟩:=h
 go_enter Tryz.func121,Tryz.ntmps121
 go_wp2_with (go_at_call 215;refine(yE _ _ ⟨h0,h6⟩).mono ?_;rintro e w' ⟨rfl,rfl⟩)
 go_ret2
 exact⟨by rw[←hs];rfl,rfl⟩
theorem size_no {B:Nat} {ev:Nat→Addr} (k:Int) (w:World) (hE:qh B ev w) (h:k<0∨6<k):
 Calls Tryz.prog 121 #[.int .i64 k] w fun e w'=>e= .returned (.tuple #[.int .i64 0,jB ev 2])∧Below w.heap.size w w':=by
 have hc:=hE.c2
 go_enter Tryz.func121,Tryz.ntmps121
 go_wp2_with (go_at_call 215;refine(Bv _ _ h).mono ?_;rintro e w' ⟨rfl,rfl⟩)
 go_region
 all_goals go_wp2
 all_goals go_ret2
 all_goals exact⟨rfl,iB⟩
theorem look_any {B:Nat} {ev:Nat→Addr} (a k:Int) (w:World) (hE:qh B ev w):
 Calls Tryz.prog 256 #[.agg #[.int .i64 a,.int .i64 k]] w fun e w'=>e= .returned (jB ev (kV a k))∧Below w.heap.size w w':=by
 have hc:=hE.c2
 have hc':=hE.c3
 have hz:=hE.z2
 have hz':=hE.z3
 rcases sP a k with⟨hr,h⟩|⟨⟨h0,h1,k0,k6⟩,h⟩
 ·rw[hr]
  clear hr
  by_cases ha:a<0
  ·go_enter Tryz.func256,Tryz.ntmps256
   go_wp2_with fail
   go_ret
   exact⟨rfl,iB⟩
  ·by_cases ha2:256≤a
   ·go_enter Tryz.func256,Tryz.ntmps256
    go_wp2_with fail
    go_ret
    exact⟨rfl,iB⟩
   ·have hk:k<0∨6<k:=by omega
    clear h
    go_enter Tryz.func256,Tryz.ntmps256
    go_wp2_with (go_at_call 215;refine(Bv _ _ hk).mono ?_;rintro e w' ⟨rfl,rfl⟩)
    go_ret
    exact⟨rfl,iB⟩
 ·have hs:=qA k0 k6
  have hn:=and_sz h0 om k0 k6
  obtain⟨s1,s2⟩:=qx k0 k6
  have H:Hid _:=ah h
  clear h
  go_enter Tryz.func256,Tryz.ntmps256
  go_wp2_with (go_at_call 215;refine(yE _ _ ⟨k0,k6⟩).mono ?_;rintro e w' ⟨rfl,rfl⟩)
  go_quiet (fail)
  go_wp2
  ·have hne:(a % sz k !=0)=true:=by assumption
   rcases H.out with⟨e1,e2⟩|⟨e1,e2⟩
   ·go_ret
    exact⟨by rw[e1];rfl,iB⟩
   ·simp[e2] at hne
  ·have hne:(a % sz k !=0)=false:=by assumption
   rcases H.out with⟨e1,e2⟩|⟨e1,e2⟩
   ·simp[e2] at hne
   ·go_ret
    exact⟨by rw[e1];rfl,iB⟩
theorem look_ok {B:Nat} {ev:Nat→Addr} (a k:Int) (w:World) (hE:qh B ev w) (h:kV a k=0):
 Calls Tryz.prog 256 #[.agg #[.int .i64 a,.int .i64 k]] w fun e w'=>e= .returned .nilIface∧Below w.heap.size w w':=
 (look_any a k w hE).mono fun _ _ ⟨h1,h2⟩=>⟨by rw[h1,h];rfl,h2⟩
end
section
open Go.RowKit
theorem Ee {B:Nat} {ev:Nat→Addr} (a k:Int) (w:World) (hE:qh B ev w) (h:Ct a k=0):
 Calls Tryz.prog 221 #[.agg #[.int .i64 a,.int .i64 k]] w fun e w'=>e= .returned (.tuple #[.agg #[.int .i64 a,.int .i64 (k-1)],.agg #[.int .i64 (a+sz (k-1)),.int .i64 (k-1)],.nilIface])∧Below w.heap.size w w':=by
 obtain⟨ha,hk⟩:=wB h
 obtain⟨a0,a1,k0,k6,_⟩:=zY ha
 have hB:=hE.size
 have k1:1≤k:=om
 have hs:wrap64 (2 ^ (k.toNat-1))=sz (k-1):=by
  have e:(k-1).toNat=k.toNat-1:=om
  rw[←e];exact qA (k:=k-1) om om
 obtain⟨s1,s2⟩:=qx (k:=k-1) om om
 go_enter Tryz.func221,Tryz.ntmps221
 go_wp2_with fail
 refine(look_ok a k _ (hE.below iB) ha).mono ?_
 rintro e w1 ⟨rfl,hb⟩
 obtain⟨hc,hf⟩:=qD hb
 have hz:=hb.size
 simp at hz hc hf
 have z0:w.heap.size<w1.heap.size:=om
 have z1:w.heap.size+1<w1.heap.size:=om
 go_wp2
 go_region
 go_wp2
 exact bodyPost_ret (v:=.tuple #[.agg #[.int .i64 a,.int .i64 (k-1)],.agg #[.int .i64 (a+sz (k-1)),.int .i64 (k-1)],.nilIface]) (by simp[results,Tryz.results221,go_sem,hc,z0,z1]) rfl ⟨rfl,iB⟩
end
section
open Go.RowKit
theorem uy (k:Int) (w:World):Calls Tryz.prog 127 #[.int .i64 k] w fun e w'=>e= .returned (.bool (decide (0≤k∧k≤6)))∧w=w':=by
 by_cases h0:0≤k
 ·by_cases h6:k≤6
  ·rw[decide_eq_true (show 0≤k∧k≤6 from⟨h0,h6⟩)]
   go_enter Tryz.func127,Tryz.ntmps127
   go_wp2
   go_ret
   exact⟨rfl,rfl⟩
  ·rw[decide_eq_false (show¬(0≤k∧k≤6) by omega)]
   go_enter Tryz.func127,Tryz.ntmps127
   go_wp2
   go_ret
   exact⟨sI,rfl⟩
 ·rw[decide_eq_false (show¬(0≤k∧k≤6) by omega)]
  go_enter Tryz.func127,Tryz.ntmps127
  go_wp2
  go_ret
  exact⟨rfl,rfl⟩
theorem A8 (k:Int) (w:World) (h:0≤k∧k≤6):Calls Tryz.prog 127 #[.int .i64 k] w fun e w'=>e= .returned (.bool true)∧w=w':=by
 have:=uy k w;rwa [decide_eq_true h] at this
theorem kX (k:Int) (w:World) (k0:0≤k) (k7:k≤7):Calls Tryz.prog 226 #[.int .i64 k] w fun e w'=>e= .returned (.int .i64 (sz k))∧w=w':=by
 go_enter Tryz.func226,Tryz.ntmps226
 go_wp2
 go_loop [3,4] (fun n i=>∃j:Nat,(j:Int)≤k∧i= .int .i64 j∧n= .int .i64 (sz j)) (fun _ i=>k.toNat-(intOf i).toNat)
 case atStart=>exact⟨0,om,rfl,rfl⟩
 case round=>
  obtain⟨j,hj,rfl,rfl⟩:=hrel
  obtain⟨s1,s2⟩:=DZ (k:=(j:Int)) om om
  by_cases hlt:(j:Int)<k
  ·have hs:=qy (k:=(j:Int)) om om
   have HS:=ah hs
   clear hs
   go_wp2
   go_round
   case rel=>exact⟨j+1,om,by go_num,by rw[show((j+1:Nat):Int)=(j:Int)+1 from om,HS.out]⟩
   case measure=>simp[intOf];omega
  ·have e:(j:Int)=k:=by omega
   have E:=ah e
   clear e
   go_wp2
   go_ret
   exact⟨by rw[←E.out];rfl,rfl⟩
end
section
open Go.RowKit
theorem A9 (a k:Int) (w:World) (a0:0≤a) (a1:a≤255) (k0:0≤k) (k5:k≤5) (ha:a % sz k=0):
 Calls Tryz.prog 257 #[.agg #[.int .i64 a,.int .i64 k]] w fun e w'=>e= .returned (.agg #[.int .i64 (rV a k),.int .i64 (k+1)])∧Below w.heap.size w w':=by
 obtain⟨p0,p1⟩:=kin_p a0 a1 k0 k5 ha
 have hm:wrap64 (a / sz (k+1)*sz (k+1))=rV a k:=by
  rw[kin_q a0 a1 k0 k5 ha]
  exact IntWalk.wrap64_in _ ⟨om,om⟩
 obtain⟨s1,s2⟩:=DZ (k:=k+1) om om
 clear ha
 generalize rV a k=p at*
 generalize hq:sz (k+1)=s at*
 have HQ:=ah hq
 clear hq
 go_enter Tryz.func257,Tryz.ntmps257
 go_wp2_with (go_at_call 226;refine(kX _ _ om om).mono ?_;rintro e w' ⟨rfl,rfl⟩;rw[HQ.out])
 go_region
 go_wp2
 exact bodyPost_ret (v:=.agg #[.int .i64 p,.int .i64 (k+1)]) (by simp[results,Tryz.results257,go_sem]) rfl ⟨rfl,iB⟩
theorem Cv (a k:Int) (w:World) (a0:0≤a) (a1:a≤255) (k0:0≤k) (k5:k≤5) (ha:a % sz k=0):
 Calls Tryz.prog 225 #[.agg #[.int .i64 a,.int .i64 k]] w fun e w'=>e= .returned (.agg #[.int .i64 (vX a k),.int .i64 k])∧Below w.heap.size w w':=by
 obtain⟨p0,p1⟩:=kin_p a0 a1 k0 k5 ha
 have hb:=kin_b a0 a1 k0 k5 ha
 obtain⟨s1,s2⟩:=qx k0 (by omega:k≤6)
 have hP:=A9 a k
 generalize rV a k=p at*
 generalize vX a k=x at*
 rcases hb with⟨rfl,rfl⟩|⟨hpa,rfl⟩
 ·go_enter Tryz.func225,Tryz.ntmps225
  go_wp2_with fail
  refine(hP _ a0 a1 k0 k5 ha).mono ?_
  rintro e w1 ⟨rfl,hb1⟩;obtain⟨c1,f1⟩:=qD hb1;have z1:=hb1.size;try simp at z1 c1 f1
  have l0:w.heap.size<w1.heap.size:=om
  have l1:w.heap.size+1<w1.heap.size:=om
  clear hP
  go_wp2
  have hw:IntKind.i64.wrap (p+sz k)=p+sz k:=aP _ om
  go_region_with ((go_at_call 226;refine(kX _ _ k0 om).mono ?_;rintro e w' ⟨rfl,rfl⟩))
  all_goals go_wp2
  all_goals exact bodyPost_ret (v:=.agg #[.int .i64 (p+sz k),.int .i64 k]) (by simp[results,Tryz.results225,go_sem,c1,l0,l1,hw]) rfl ⟨rfl,iB⟩
 ·have hne:(x==a)=false:=by simpa using hpa
  clear hpa
  go_enter Tryz.func225,Tryz.ntmps225
  go_wp2_with fail
  refine(hP _ a0 a1 k0 k5 ha).mono ?_
  rintro e w1 ⟨rfl,hb1⟩;obtain⟨c1,f1⟩:=qD hb1;have z1:=hb1.size;try simp at z1 c1 f1
  have l0:w.heap.size<w1.heap.size:=om
  have l1:w.heap.size+1<w1.heap.size:=om
  clear hP
  go_wp2
  exact bodyPost_ret (v:=.agg #[.int .i64 x,.int .i64 k]) (by simp[results,Tryz.results225,go_sem,c1,l0,l1]) rfl ⟨rfl,iB⟩
end
section
open Go.RowKit
structure Keep (S:List Nat) (w w':World):Prop where
 os:w'.os=w.os
 tape:w'.tape=w.tape
 output:w'.output=w.output
 size:w.heap.size≤w'.heap.size
 block: ∀k,k<w.heap.size→k∉S→w'.heap[k]?=w.heap[k]?
theorem Keep.refl (S:List Nat) (w:World):Keep S w w:=⟨rfl,rfl,rfl,aI _,fun _ _ _=>rfl⟩
theorem Keep.of {S:List Nat} {w w':World} (h:Below w.heap.size w w'):Keep S w w':=⟨h.os,h.tape,h.output,h.size,fun k hk _=>h.block k hk⟩
theorem Keep.trans {S S':List Nat} {a b c:World} (h:Keep S a b) (k:Keep S' b c) (hs: ∀s∈S',s∈S∨a.heap.size≤s):Keep S a c:=
 ⟨k.os.trans h.os,k.tape.trans h.tape,k.output.trans h.output,bN h.size k.size,fun i hi hn=>
   (k.block i (aF hi h.size) (fun hm=>by rcases hs i hm with q|q;(·exact hn q);(·omega))).trans (h.block i hi hn)⟩
theorem Keep.then {S:List Nat} {a b c:World} (h:Keep S a b) (k:Keep S b c):Keep S a c:=h.trans k fun _ q=>.inl q
theorem Keep.mono {S S':List Nat} {w w':World} (h:Keep S w w') (hs: ∀s∈S,s∈S'):Keep S' w w':=⟨h.os,h.tape,h.output,h.size,fun k hk hn=>h.block k hk fun q=>hn (hs k q)⟩
theorem Keep.below {S:List Nat} {B:Nat} {w w':World} (h:Keep S w w') (hB:B≤w.heap.size) (hs: ∀s∈S,B≤s):Below B w w':=
 ⟨h.os,h.tape,h.output,h.size,fun k hk=>h.block k om fun q=>by have:=hs k q;omega⟩
theorem Keep.qP {w w':World} (h:Keep [] w w'):Below w.heap.size w w':=h.below (aI _) (fun _ q=>by cases q)
theorem Keep.after {S:List Nat} {B:Nat} {w0 w w':World} (h:Below B w0 w) (k:Keep S w w') (hB:B≤w.heap.size) (hs: ∀s∈S,B≤s):Below B w0 w':=h.trans (k.below hB hs)
theorem Keep.step {S:List Nat} {a b c:World} (h:Keep S a b) (k:Below b.heap.size b c):Keep S a c:=h.trans (S':=[]) (Keep.of k) (fun _ q=>by cases q)
theorem Keep.low {S:List Nat} {a b c:World} {n:Nat} (h:Keep S a b) (k:Below n b c) (hn:a.heap.size≤n):Keep S a c:=
 ⟨k.os.trans h.os,k.tape.trans h.tape,k.output.trans h.output,bN h.size k.size,fun i hi hq=>(k.block i om).trans (h.block i hi hq)⟩
theorem Keep.grown {S:List Nat} {a b c:World} {r:Nat} (h:Keep S a b) (k:b.grownBy c (some r)) (hr:r∈S∨a.heap.size≤r):Keep S a c:=
 h.trans (S':=[r]) ⟨k.os,k.tape,k.output,k.size,fun i hi hn=>k.block i hi (by simp at hn ⊢;exact hn)⟩ fun s q=>by simp at q;subst q;exact hr
theorem Keep.alloc {S:List Nat} {a b:World} (h:Keep S a b) (o:Obj):Keep S a (b.alloc o):=
 h.step ((aJ _ _).alloc (aI _) o)
theorem Keep.drew {S:List Nat} {a b:World} (h:Keep S a b):Keep S a b.drew:=h.step (aJ _ _).drew
theorem Keep.drewN {S:List Nat} {a b:World} (h:Keep S a b) (n:Nat):Keep S a (b.drewN n):=h.step (below_drewN (aJ _ _) _)
theorem Keep.setCell {S:List Nat} {a b:World} (h:Keep S a b) {p:Addr} (hp:p.block∈S∨a.heap.size≤p.block) (u:Value):Keep S a (b.setCell p u):=
 ⟨h.os,h.tape,h.output,by simpa[World.setCell] using h.size,fun i hi hq=>(Below.heap_setCell _ _ _ _ (by rcases hp with q|q;(·exact fun e=>hq (e▸q));(·omega))).trans (h.block i hi hq)⟩
theorem Keep.cell {S:List Nat} {w w':World} (h:Keep S w w') {b o:Nat} (hb:b<w.heap.size) (hn:b∉S):w'.cell? ⟨b,o,none⟩=w.cell? ⟨b,o,none⟩:=cZ (w:=w) (h.block b hb hn)
theorem Keep.frozen {S:List Nat} {w w':World} (h:Keep S w w') {b o:Nat} (hb:b<w.heap.size) (hn:b∉S):w'.frozen? ⟨b,o,none⟩=w.frozen? ⟨b,o,none⟩:=World.frozen?_of_block (w:=w) (h.block b hb hn)
end
section
open Go.RowKit
structure Behind (w:World) where
 w':World
 h:Below w.heap.size w w'
instance behindNonempty (w:World):Nonempty (Behind w):=⟨⟨w,aJ _ _⟩⟩
theorem iZ {w w':World} (h: ∃p:Behind w,w'=p.w'):Below w.heap.size w w':=by
 obtain⟨p,hp⟩:=h
 rw[hp];exact p.h
theorem iC {P:Program} {id:Nat} {Q:Exit→Act→World→Prop} {a:Act} {w:World} {l:List Oper} (hm:P.follows .mixedOrders=true) (hB:Region.lexB .any l.toArray=true)
 (h:wpQuiet P l.toArray (fun w'=>∃p:Behind w,w'=p.w') (fun a'=>∀w',(∃p:Behind w,w'=p.w')→Q .normal a' w') l a):(Code.region id l.toArray true).wp P Q a w:=
 wp_region_quiet (C:=fun w'=>∃p:Behind w,w'=p.w') hm hB ⟨⟨w.drew,(aJ _ _).drew⟩,rfl⟩ (by simpa using h)
@[go_sem] theorem Behind.cell {w:World} (p:Behind w) (b o:Nat) (h:b<w.heap.size):p.w'.cell? ⟨b,o,none⟩=w.cell? ⟨b,o,none⟩:=p.h.cell (p:=⟨b,o,none⟩) h
@[go_sem] theorem Behind.frozen {w:World} (p:Behind w) (b o:Nat) (h:b<w.heap.size):p.w'.frozen? ⟨b,o,none⟩=w.frozen? ⟨b,o,none⟩:=p.h.frozen (p:=⟨b,o,none⟩) h
theorem _root_.Go.Calls.behind {P:Program} {f:FuncId} {args:Array Value} {w:World} {p:Behind w} {v:Value}
 (h:Calls P f args p.w' fun e w'=>e= .returned v∧Below p.w'.heap.size p.w' w'):Calls P f args p.w' fun e w''=>e= .returned v∧∃q:Behind w,w''=q.w':=
 h.mono fun _ w'' ⟨he,hb⟩=>⟨he,⟨w'',p.h.trans (hb.mono p.h.size)⟩,rfl⟩
end
section
open Go.RowKit
theorem jR {P:Program} {id:Nat} {Q:Exit→Act→World→Prop} {a:Act} {w:World} {l:List Oper} (n:Nat) (hm:P.follows .mixedOrders=true) (hB:Region.lexTailB .any l.toArray n=true)
 (h:wpStill P l.toArray w.drew (fun a'=>wpList P l.toArray Q (l.drop n) a' w.drew) (l.take n) a):(Code.region id l.toArray true).wp P Q a w:=
 wp_region_still_tail n hm hB h
end
section
open Go.RowKit
def jc (l:List (Int×Int)):List Value:=l.flatMap fun b=>[.int .i64 b.1,.int .i64 b.2]
theorem jS (l:List (Int×Int)) (b:Int×Int):jc (l++[b])=jc l++[.int .i64 b.1,.int .i64 b.2]:=by simp[jc]
theorem j6 (l:List (Int×Int)):(jc l).length=2*l.length:=by
 induction l with
 |nil=>rfl
 |cons b r ih=>simp[jc] at ih ⊢;omega
theorem infoB:(Tryz.prog.info? 59).map (fun i=>(i.zero,i.size,i.bytes))=some (some (.agg #[.int .i64 0,.int .i64 0]),2,16):=kR
theorem nN (w:World) (u0 u1:Value) (t:TypeId): ∀j u,[u0,u1][j]?=some u→(w.alloc (.cells #[u0,u1] t)).cell? ((⟨w.heap.size,0,none⟩:Addr).add j)=some u:=by
 intro j u hu
 match j,hu with
 |0,hu=>simp at hu;subst hu;simp[Addr.add]
 |1,hu=>simp at hu;subst hu;simp[Addr.add]
theorem nO (a k:Int): ∀u∈[Value.int .i64 a,Value.int .i64 k],u.oneCell'=true:=by
 intro u hu
 simp at hu
 rcases hu with rfl|rfl<;>rfl
def xD (w w':World) (v:Value) (l:List (Int×Int)):Prop:=w'.ownsRow w.heap.size 59 2 v l.length (jc l)∧Below w.heap.size w w'
def Ef (w:World) (l:List (Int×Int)) (x:Value) (e:Ending) (w':World):Prop:=∃v,e= .returned (.tuple #[v,x])∧xD w w' v l
theorem cover_ok (a n:Int) (w:World) (a0:0≤a) (n0:0≤n) (h:a+n≤256):
 Calls Tryz.prog 205 #[.int .i64 a,.int .i64 n] w (Ef w (oL a n) .nilIface):=by
 obtain⟨i0,hi,hz0,hz1,hz2⟩:=info_parts infoB
 have hlen:=qB n.toNat a n (aI _)
 have d1:decide (a<0)=false:=decide_eq_false om
 have d2:decide (n<0)=false:=decide_eq_false om
 have d3:decide (256<a)=false:=decide_eq_false om
 have d4:decide (256-a<n)=false:=decide_eq_false om
 go_enter Tryz.func205,Tryz.ntmps205
 go_wp2_with fail
 clear d1 d2 d3 d4
 go_loopw [0,1,6] (fun xa xn v wr=>∃(x m:Int) (done:List (Int×Int)),xa= .int .i64 x∧xn= .int .i64 m∧0≤x∧0≤m∧x+m≤256∧oL a n=done++oL x m∧wr.ownsRow w.heap.size 59 2 v done.length (jc done)∧Below w.heap.size w wr) (fun _ xn _ _=>(intOf xn).toNat)
 case atStart=>exact⟨a,n,[],rfl,rfl,a0,n0,h,rfl,aR _ _ _ _,aJ _ _⟩
 case round=>
  obtain⟨x,m,done,rfl,rfl,x0,m0,hxm,Cw,hown,hbel⟩:=hrel
  have hdl:(done.length:Int)≤n.toNat:=by rw[Cw] at hlen;simp at hlen;omega
  by_cases hm:m<1
  ·have e:m=0:=by omega
   subst e
   rw[kW (bZ _),dF] at Cw
   have HC:=ah Cw
   clear Cw
   go_wp2
   go_ret2
   exact⟨_,rfl,by rw[HC.out];exact⟨hown,hbel⟩⟩
  ·have hst:=oV (a:=x) (n:=m) om
   obtain⟨k0,k6⟩:=oU x m
   obtain⟨s1,s2⟩:=qx k0 k6
   obtain⟨f1,f2⟩:=um (a:=x) (n:=m) om
   have hmax:=fun j:Int=>xu (a:=x) (n:=m) (k:=j)
   have hm1:1≤m:=om
   clear hm
   generalize q8 x m=k at*
   have HST:=ah hst;have HMAX:=ah hmax;have F1:=ah f1;have HC:=ah Cw
   clear hst hmax f1 Cw
   go_wp2
   go_loop [7] (fun kv=>∃j:Int,k≤j∧j≤6∧kv= .int .i64 j) (fun kv=>(intOf kv).toNat)
   case atStart=>exact⟨6,k6,om,rfl⟩
   case round=>
    obtain⟨j,hkj,hj6,rfl⟩:=hrel
    have hs:=qA (k:=j) om hj6
    have hn:=and_sz (a:=x) (k:=j) x0 om om hj6
    obtain⟨t1,t2⟩:=qx (k:=j) om hj6
    by_cases hlt:k<j
    ·have hno:=HMAX.out j hj6 hlt
     by_cases hx:x % sz j=0
     ·have hbig:m<sz j:=by
       rcases Int.lt_or_le m (sz j) with h'|h'
       ·exact h'
       ·exact absurd ⟨hx,h'⟩ hno
      have hb:(x % sz j !=0)=false:=by simp[hx]
      clear hno hx
      go_wp2
      go_round
      case rel=>exact⟨j-1,om,om,rfl⟩
      case measure=>simp[intOf];omega
     ·have hb:(x % sz j !=0)=true:=by simp[hx]
      clear hno hx
      go_wp2
      go_round
      case rel=>exact⟨j-1,om,om,rfl⟩
      case measure=>simp[intOf];omega
    ·obtain rfl:j=k:=by omega
     have hb:(x % sz j !=0)=false:=by simp[F1.out]
     have hle:sz j≤m:=f2
     go_wp2_with (first|(at_builtin;refine wpList_append_own _ rfl _ _ 224 rfl w.heap.size 59 i0 (.agg #[.int .i64 0,.int .i64 0]) 2 16 eX hi hz0 hz1 hz2 rfl (by decide) _ _ _ rfl (hown.alloc _) ⟨wr.heap.size,0,none⟩ 1 1 [.int .i64 x,.int .i64 j] rfl rfl (nN _ _ _ _) (nO _ _) ?c3 ?c4 ?c5 ?_))
     case c3=>unfold maxLen;omega
     case c4=>omega
     case c5=>have:=hbel.size;simp;omega
     intro v' w1 hown' hgrow _
     have Aa:Below w.heap.size w w1:=(hbel.alloc hbel.size _).grown hgrow (by have:=hbel.size;simp;omega) (fun r hr=>(hown.lt r hr).1)
     have OW:=ah hown'
     clear hown' hgrow hown hbel
     go_wp2
     go_quiet (fail)
     go_wp2
     go_roundw
     case rel=>
      refine⟨x+sz j,m-sz j,done++[(x,j)],rfl,rfl,om,om,om,?_,?_,?_⟩
      ·rw[HC.out,HST.out];simp
      ·rw[jS];exact(show w1.ownsRow _ _ _ _ _ _ by simpa using OW.out)
      ·exact below_drewN Aa _
     case measure=>simp[intOf];omega
end
section
open Go.RowKit
def RowB (N:Nat) (w:World) (v:Value) (l:List (Int×Int)):Prop:=
 (v= .slice none 0 0∧l=[])∨∃g cap,v= .slice (some ⟨g,0,none⟩) l.length cap∧l.length≤maxLen∧g<N∧N≤w.heap.size∧
   ∀j a k,l[j]?=some (a,k)→w.cell? ⟨g,j*2,none⟩=some (.int .i64 a)∧w.cell? ⟨g,j*2+1,none⟩=some (.int .i64 k)
theorem oh: ∀(l:List (Int×Int)) (j:Nat) (a k:Int),l[j]?=some (a,k)→(jc l)[j*2]?=some (.int .i64 a)∧(jc l)[j*2+1]?=some (.int .i64 k)
 |[],j,a,k,h=>by simp at h
 |b::r,0,a,k,h=>by
  simp at h
  subst h
  simp[jc]
 |b::r,j+1,a,k,h=>by
  have ih:=oh r j a k (by simpa using h)
  have e:jc (b::r)= .int .i64 b.1:: .int .i64 b.2::jc r:=by simp[jc]
  rw[e,show(j+1)*2=j*2+1+1 from om,show j*2+1+1+1=(j*2+1)+1+1 from rfl]
  simpa using ih
theorem Bw {N M:Nat} (va vb:Value) (l:List (Int×Int)) (w:World) (ha:RowB N w va l) (hb:RowB M w vb l):
 Calls Tryz.prog 201 #[va,vb] w fun e w'=>e= .returned (.bool true)∧Below w.heap.size w w':=by
 have eb:=neqB
 have gb:=guardB
 rcases ha with⟨rfl,rfl⟩|⟨g,cap,rfl,hm,hg,hN,hc⟩
 ·rcases hb with⟨rfl,_⟩|⟨g',cap',rfl,_,_,_,_⟩
  all_goals
   go_enter Tryz.func201,Tryz.ntmps201
   go_wp2_with fail
   refine wp_loop_rounds 1 ?_
   rw[rounds_succ]
   go_wp2
   go_ret
   exact⟨rfl,iB⟩
 ·rcases hb with⟨rfl,rfl⟩|⟨g',cap',rfl,_,hg',hM,hc'⟩
  ·go_enter Tryz.func201,Tryz.ntmps201
   go_wp2_with fail
   refine wp_loop_rounds 1 ?_
   rw[rounds_succ]
   go_wp2
   go_ret
   exact⟨rfl,iB⟩
  ·unfold maxLen at hm
   have C1:=ah hc;have C2:=ah hc'
   clear hc hc'
   obtain⟨n,hn⟩: ∃n,n=l.length:=⟨_,rfl⟩
   rw[←hn] at hm ⊢
   have HN:=ah hn
   clear hn
   go_enter Tryz.func201,Tryz.ntmps201
   go_wp2_with fail
   go_loopw [5] (fun i wr=>∃j:Nat,j≤n∧i= .int .i64 j∧Below w.heap.size w wr) (fun i _=>n-(intOf i).toNat)
   case atStart=>exact⟨0,aO _,rfl,aJ _ _⟩
   case round=>
    obtain⟨j,hj,rfl,hbel⟩:=hrel
    by_cases hlt:j<n
    ·obtain⟨b,hb⟩: ∃b,l[j]?=some b:=⟨l[j]'(by rw[←HN.out];exact hlt),au _⟩
     obtain⟨x,k⟩:=b
     obtain⟨p1,p2⟩:=C1.out j x k hb
     obtain⟨q1,q2⟩:=C2.out j x k hb
     clear hb
     have r1:wr.cell? ⟨g,j*2,none⟩=some (.int .i64 x):=by rw[hbel.cell (p:=⟨g,j*2,none⟩) (aF hg hN)];exact p1
     have r2:wr.cell? ⟨g,j*2+1,none⟩=some (.int .i64 k):=by rw[hbel.cell (p:=⟨g,j*2+1,none⟩) (aF hg hN)];exact p2
     have r3:wr.cell? ⟨g',j*2,none⟩=some (.int .i64 x):=by rw[hbel.cell (p:=⟨g',j*2,none⟩) (aF hg' hM)];exact q1
     have r4:wr.cell? ⟨g',j*2+1,none⟩=some (.int .i64 k):=by rw[hbel.cell (p:=⟨g',j*2+1,none⟩) (aF hg' hM)];exact q2
     clear p1 p2 q1 q2
     go_wp2
     go_quiet (fail)
     go_wp2
     go_roundw
     case rel=>exact⟨j+1,om,by go_num,below_drewN hbel _⟩
     case measure=>simp[intOf];omega
    ·go_wp2
     go_ret
     exact⟨rfl,hbel⟩
end
section
open Go.RowKit
def uz (w:World) (g:Nat) (l:List (Int×Int)):Prop:=
 ∀j a k,l[j]?=some (a,k)→(w.cell? ⟨g,j*2,none⟩=some (.int .i64 a)∧w.cell? ⟨g,j*2+1,none⟩=some (.int .i64 k))∧w.frozen? ⟨g,j*2,none⟩=false∧w.frozen? ⟨g,j*2+1,none⟩=false
theorem oZ {w:World} {g:Nat} {cur:Array Value} {e:TypeId} (h:w.heap[g]?=some (.cells cur e (0,0))) (o:Nat):w.frozen? ⟨g,o,none⟩=false:=by
 simp[World.frozen?,h]
theorem xD.mrow {w w':World} {v:Value} {l:List (Int×Int)} (h:xD w w' v l):
 (v= .slice none 0 0∧l=[])∨∃g cap,v= .slice (some ⟨g,0,none⟩) l.length cap∧w.heap.size≤g∧g<w'.heap.size∧l.length≤cap∧uz w' g l:=by
 obtain⟨ho,_⟩:=h
 have ho':=ho
 obtain⟨_,h2⟩:=ho
 rcases h2 with⟨rfl,h3⟩|⟨g,cap,cur,rfl,hg,hh,hcap,_⟩
 ·refine .inl ⟨rfl,?_⟩
  cases l with
  |nil=>rfl
  |cons b r=>simp at h3
 ·refine .inr ⟨g,cap,rfl,hg,(ho'.lt g rfl).2,hcap,fun j a k hj=> ?_⟩
  have hlt:j<l.length:=(aj.1 hj).1
  obtain⟨e1,e2⟩:=oh l j a k hj
  refine⟨?_,oZ hh _,oZ hh _⟩
  rw[ho'.cellAt (j*2) om,ho'.cellAt (j*2+1) om]
  exact⟨e1,e2⟩
theorem uz.keep {S:List Nat} {w w':World} {g:Nat} {l:List (Int×Int)} (h:uz w g l) (k:Keep S w w') (hg:g<w.heap.size) (hn:g∉S):uz w' g l:=fun j a b hj=>by
 rw[k.cell hg hn,k.cell hg hn,k.frozen hg hn,k.frozen hg hn]
 exact h j a b hj
theorem iA {w:World} {g o o':Nat} (u:Value) (h:o≠o'):(w.setCell ⟨g,o,none⟩ u).cell? ⟨g,o',none⟩=w.cell? ⟨g,o',none⟩:=by
 simp only[World.cell?,World.setCell,eZ]
 simp
 cases w.heap[g]? with
 |none=>rfl
 |some ob=>cases ob<;>simp[h]
theorem mX {w:World} {g o b o':Nat} (u:Value) (h:g≠b):(w.setCell ⟨g,o,none⟩ u).cell? ⟨b,o',none⟩=w.cell? ⟨b,o',none⟩:=by
 simp only[World.cell?,World.setCell,eZ,if_neg h]
theorem iJ {w:World} {g o:Nat} {x:Value} (u:Value) (h:w.cell? ⟨g,o,none⟩=some x):(w.setCell ⟨g,o,none⟩ u).cell? ⟨g,o,none⟩=some u:=by
 simp only[World.cell?,World.setCell,eZ] at*
 cases e:w.heap[g]? with
 |none=>rw[e] at h;simp at h
 |some ob=>
  rw[e] at h
  cases ob with
  |cells cs t r=>
   simp at h ⊢
   have:o<cs.size:=by
    rcases dH o cs.size with q|q
    ·exact q
    ·rw[dO q] at h;cases h
   simp[this]
  |_=>simp at h
theorem iI {w:World} {g o:Nat} (u:Value) (b o':Nat):(w.setCell ⟨g,o,none⟩ u).frozen? ⟨b,o',none⟩=w.frozen? ⟨b,o',none⟩:=by
 simp only[World.frozen?,World.setCell,eZ]
 by_cases h:g=b
 ·subst h
  simp
  cases w.heap[g]? with
  |none=>rfl
  |some ob=>cases ob<;>simp
 ·simp[h]
theorem uz.set {w:World} {g:Nat} {l:List (Int×Int)} (h:uz w g l) {i:Nat} (hi:i<l.length) (a k:Int):
 uz ((w.setCell ⟨g,i*2,none⟩ (.int .i64 a)).setCell ⟨g,i*2+1,none⟩ (.int .i64 k)) g (l.set i (a,k)):=by
 intro j x y hj
 obtain⟨x0,hx0⟩: ∃p,l[i]?=some p:=⟨l[i],au _⟩
 obtain⟨p0,p1⟩:=x0
 obtain⟨⟨q1,q2⟩,q3,q4⟩:=h i p0 p1 hx0
 by_cases e:i=j
 ·subst e
  rw[aL hi] at hj
  simp at hj
  obtain⟨rfl,rfl⟩:=hj
  refine⟨⟨?_,?_⟩,?_,?_⟩
  ·rw[iA _ om,iJ _ q1]
  ·rw[iJ (x:=.int .i64 p1) _ (by rw[iA _ om];exact q2)]
  ·rw[iI,iI];exact q3
  ·rw[iI,iI];exact q4
 ·rw[bD e] at hj
  obtain⟨⟨r1,r2⟩,r3,r4⟩:=h j x y hj
  refine⟨⟨?_,?_⟩,?_,?_⟩
  ·rw[iA _ om,iA _ om];exact r1
  ·rw[iA _ om,iA _ om];exact r2
  ·rw[iI,iI];exact r3
  ·rw[iI,iI];exact r4
structure mY (p:Int×Int→Bool) (F:List (Int×Int)) (i j:Nat) (L:List (Int×Int)):Prop where
 len:L.length=F.length
 lt:i<j
 le:j≤F.length
 low:L.take i=(F.take j).filter fun x=> !p x
 high:L.drop j=F.drop j
theorem mY.start {p:Int×Int→Bool} {F:List (Int×Int)} {i:Nat} {z:Int×Int} (hz:F[i]?=some z) (hp:p z=true) (hall: ∀x∈F.take i,p x=false):mY p F i (i+1) F:=by
 refine⟨rfl,om,(aj.1 hz).1,?_,rfl⟩
 rw[bH,hz,gq]
 simp[hp]
 exact(fB.2 fun x hx=>by simp[hall x hx]).symm
theorem mY.at {p:Int×Int→Bool} {F L:List (Int×Int)} {i j:Nat} (h:mY p F i j L) (m:Nat) (hm:j≤m):L[m]?=F[m]?:=by
 have:=congrArg (fun l=>l[m-j]?) h.high
 simp only[cu] at this
 rwa [show j+(m-j)=m by omega] at this
theorem mY.skip {p:Int×Int→Bool} {F L:List (Int×Int)} {i j:Nat} {z:Int×Int} (h:mY p F i j L) (hz:F[j]?=some z) (hp:p z=true):mY p F i (j+1) L:=by
 have hl:=h.len;have hj:=(aj.1 hz).1;have hlt:=h.lt
 refine⟨hl,om,om,?_,?_⟩
 ·rw[bH,hz,gq,←h.low];simp[hp]
 ·have:=congrArg (List.drop 1) h.high
  simpa[List.drop_drop] using this
theorem mY.keep {p:Int×Int→Bool} {F L:List (Int×Int)} {i j:Nat} {z:Int×Int} (h:mY p F i j L) (hz:F[j]?=some z) (hp:p z=false):mY p F (i+1) (j+1) (L.set i z):=by
 have hl:=h.len;have hj:=(aj.1 hz).1;have hlt:=h.lt
 refine⟨by simp[hl],om,om,?_,?_⟩
 ·have e1:F.take (j+1)=F.take j++[z]:=by rw[bH,hz];rfl
  have e2:(L.set i z).take (i+1)=L.take i++[z]:=by rw[bH,aL om,List.take_set_of_le (aI _)];rfl
  rw[e1,e2,gq,←h.low];simp[hp]
 ·rw[List.drop_set_of_lt om]
  have:=congrArg (List.drop 1) h.high
  simpa[List.drop_drop] using this
theorem mY.done {p:Int×Int→Bool} {F L:List (Int×Int)} {i:Nat} (h:mY p F i F.length L):L.take i=(F.filter fun x=> !p x)∧i=(F.filter fun x=> !p x).length∧i<L.length:=by
 have h1:=h.low
 have h2:=h.lt
 have h3:=h.len
 rw[bF] at h1
 exact⟨h1,by rw[←h1,aQ];omega,om⟩
end
section
open Go.RowKit
def RowS (base:Nat) (w:World) (v:Value) (l:List (Int×Int)):Prop:=
 ∃p cap,v= .slice p l.length cap∧(l=[]→p=none∧cap=0∨∃g,p=some ⟨g,0,none⟩∧base≤g∧g<w.heap.size)∧
  ∀j a k,l[j]?=some (a,k)→∃g,p=some ⟨g,0,none⟩∧base≤g∧g<w.heap.size∧w.cell? ⟨g,j*2,none⟩=some (.int .i64 a)∧w.cell? ⟨g,j*2+1,none⟩=some (.int .i64 k)
end
section
open Go.RowKit
def RowC (w:World) (g:Nat) (l:List (Int×Int)):Prop:=∀j a k,l[j]?=some (a,k)→w.cell? ⟨g,j*2,none⟩=some (.int .i64 a)∧w.cell? ⟨g,j*2+1,none⟩=some (.int .i64 k)
def yt (base:Nat) (w:World) (v:Value) (l:List (Int×Int)):Prop:=
 (v= .slice none 0 0∧l=[])∨∃g cap,v= .slice (some ⟨g,0,none⟩) l.length cap∧l.length≤cap∧cap≤maxLen∧base≤g∧g<w.heap.size∧RowC w g l
theorem xD.Eh {w w':World} {v:Value} {l:List (Int×Int)} (h:xD w w' v l):yt w.heap.size w' v l:=by
 obtain⟨ho,_⟩:=h
 have ho':=ho
 obtain⟨_,h2⟩:=ho
 rcases h2 with⟨rfl,h3⟩|⟨g,cap,cur,rfl,hg,hh,hcap,hmax,_⟩
 ·refine .inl ⟨rfl,?_⟩
  cases l with
  |nil=>rfl
  |cons b r=>simp at h3
 ·refine .inr ⟨g,cap,rfl,hcap,hmax,hg,(ho'.lt g rfl).2,fun j a k hj=> ?_⟩
  have hlt:j<l.length:=(aj.1 hj).1
  obtain⟨e1,e2⟩:=oh l j a k hj
  rw[ho'.cellAt (j*2) om,ho'.cellAt (j*2+1) om]
  exact⟨e1,e2⟩
theorem RowC.keep {S:List Nat} {w w':World} {g:Nat} {l:List (Int×Int)} (h:RowC w g l) (k:Keep S w w') (hg:g<w.heap.size) (hn:g∉S):RowC w' g l:=fun j a b hj=>by
 rw[k.cell hg hn,k.cell hg hn];exact h j a b hj
theorem yt.keep {S:List Nat} {base:Nat} {w w':World} {v:Value} {l:List (Int×Int)} (h:yt base w v l) (k:Keep S w w') (hs: ∀s∈S,s<base):yt base w' v l:=by
 rcases h with h|⟨g,cap,h1,h2,h3,h4,h5,h6⟩
 ·exact .inl h
 ·exact .inr ⟨g,cap,h1,h2,h3,h4,aF h5 k.size,h6.keep k h5 fun q=>by have:=hs g q;omega⟩
theorem yt.below {base:Nat} {w w':World} {v:Value} {l:List (Int×Int)} (h:yt base w v l) (k:Below w.heap.size w w'):yt base w' v l:=h.keep (Keep.of (S:=[]) k) (fun _ q=>by cases q)
theorem yt.mono {base base':Nat} {w:World} {v:Value} {l:List (Int×Int)} (h:yt base w v l) (hb:base'≤base):yt base' w v l:=by
 rcases h with h|⟨g,cap,h1,h2,h3,h4,h5⟩
 ·exact .inl h
 ·exact .inr ⟨g,cap,h1,h2,h3,om,h5⟩
theorem yt.rowB {base:Nat} {w:World} {v:Value} {l:List (Int×Int)} (h:yt base w v l):RowB w.heap.size w v l:=by
 rcases h with⟨h1,h2⟩|⟨g,cap,h1,h2,h3,h4,h5,h6⟩
 ·exact .inl ⟨h1,h2⟩
 ·exact .inr ⟨g,cap,h1,om,h5,aI _,h6⟩
theorem kE (l m:List (Int×Int)):jc (l++m)=jc l++jc m:=by simp[jc]
theorem mZ (l:List (Int×Int)): ∀u∈jc l,u.oneCell'=true:=by
 intro u hu
 simp only[jc,eH] at hu
 obtain⟨x,_,hx⟩:=hu
 simp at hx
 rcases hx with rfl|rfl<;>rfl
theorem wI {w:World} {g o:Nat}: ∀{l:List (Int×Int)},(∀j a k,l[j]?=some (a,k)→w.cell? ⟨g,o+j*2,none⟩=some (.int .i64 a)∧w.cell? ⟨g,o+j*2+1,none⟩=some (.int .i64 k))→∀j u,(jc l)[j]?=some u→w.cell? ((⟨g,o,none⟩:Addr).add j)=some u:=by
 intro l h j u hu
 have hl:j<(jc l).length:=(aj.1 hu).1
 rw[j6] at hl
 obtain⟨p,hp⟩: ∃p,l[j / 2]?=some p:=⟨l[j / 2]' om,au _⟩
 obtain⟨a,k⟩:=p
 obtain⟨e1,e2⟩:=oh l _ a k hp
 obtain⟨h1,h2⟩:=h _ a k hp
 have had:(⟨g,o,none⟩:Addr).add j=⟨g,o+j,none⟩:=by
  unfold Addr.add
  split
  ·rename_i e;rw[e];rfl
  ·rfl
 rw[had]
 have:j=j / 2*2∨j=j / 2*2+1:=om
 rcases this with e|e
 ·rw[e] at hu ⊢
  rw[e1] at hu
  rw[←aH hu];exact h1
 ·rw[e] at hu ⊢
  rw[e2] at hu
  rw[←aH hu,←Nat.add_assoc];exact h2
def Src (w:World) (p:Option Addr) (m:List (Int×Int)):Prop:=
 (p=none∧m=[])∨∃g o,p=some ⟨g,o,none⟩∧∀j a k,m[j]?=some (a,k)→w.cell? ⟨g,o+j*2,none⟩=some (.int .i64 a)∧w.cell? ⟨g,o+j*2+1,none⟩=some (.int .i64 k)
theorem Ei {w:World} (ty:TypeId) {base:Nat} {v:Value} {l:List (Int×Int)} (hown:w.ownsRow base 59 2 v l.length (jc l)) {p:Option Addr} {c:Nat} {m:List (Int×Int)} (hs:Src w p m) (hl:l.length+m.length≤65536) (hb:base≤w.heap.size):
 ∃v' w',(Builtin.append_ #[224,224] ty #[v,.slice p m.length c]).run Tryz.prog w= .ok v' w'∧w'.ownsRow base 59 2 v' (l++m).length (jc (l++m))∧w.grownBy w' v.ownBlock:=by
 obtain⟨i0,hi,hz0,hz1,hz2⟩:=info_parts infoB
 have ht:=eX
 rcases hs with⟨rfl,rfl⟩|⟨g,o,rfl,hc⟩
 ·refine⟨v,w,?_,by simpa using hown,⟨rfl,rfl,rfl,aI _,fun _ _ _=>rfl⟩⟩
  rcases hown.2 with⟨rfl,_⟩|⟨g,cap,cur,rfl,_,_,hnc,_⟩
  ·simp[Builtin.append_,run_underlying ht,sizeOf,typeInfo,hi,Builtin.lenOf,Builtin.firstCells]
  ·simp[Builtin.append_,run_underlying ht,sizeOf,typeInfo,hi,Builtin.lenOf,Builtin.firstCells,hnc,storeCells]
 ·obtain⟨v',w',hrun,h2,h3,_,_⟩:=run_append_own_at (P:=Tryz.prog) w base 224 ty 59 i0 (.agg #[.int .i64 0,.int .i64 0]) 2 16 ht hi hz0 hz1 hz2 rfl om v l.length (jc l) hown ⟨g,o,none⟩ m.length c (jc m)
   (by rw[j6];omega) (wI hc) (mZ m) (by unfold maxLen;omega) om hb
  exact⟨v',w',hrun,by rw[aU,kE];exact h2,h3⟩
theorem j3 {base:Nat} {v:Value} {l m:List (Int×Int)} {w:World} {p:Option Addr} {c:Nat} {ops:Array Oper} {rest:List Oper} {o:Oper} {a:Act} {Q:Exit→Act→World→Prop} (hgd:o.guard=none) (s x:Operand)
 (ho:o.op= .call {callee:=.builtin .append,args:=#[s,x],argTypes:=#[224,224]}) (hv:a.eval s=v) (mn:Nat) (hx:a.eval x= .slice p mn c) (hmn:m.length=mn)
 (hown:w.ownsRow base 59 2 v l.length (jc l)) (hs:Src w p m) (hl:l.length+m.length≤65536) (hb:base≤w.heap.size)
 (h: ∀v' w',w'.ownsRow base 59 2 v' (l++m).length (jc (l++m))→w.grownBy w' v.ownBlock→wpList Tryz.prog ops Q rest (a.put o.dst v') w'):wpList Tryz.prog ops Q (o::rest) a w:=by
 subst hmn
 refine wpList_plain hgd fun K hK=> ?_
 obtain⟨v',w',hrun,h2,h3⟩:=Ei (w:=w) o.type hown hs hl hb (c:=c)
 unfold Oper.wp execOp
 simp only[ho,resolve,invoke,builtin,dP,dX,dx,dG,bX,dY,hv,hx,hrun]
 exact hK _ _ (h v' w' h2 h3)
end
section
open Go.RowKit
def jT (X:List Nat) (w:World) (v:Value) (us:List Value):Prop:=
 ∃p cap,v= .slice p us.length cap∧us.length≤cap∧cap≤maxLen∧∀j u,us[j]?=some u→∃g off,p=some ⟨g,off,none⟩∧g∉X∧g<w.heap.size∧w.cell? ⟨g,off+j,none⟩=some u
theorem jT.keep {X S:List Nat} {w w':World} {v:Value} {us:List Value} (h:jT X w v us) (k:Keep S w w') (hs: ∀s∈S,s∈X∨w.heap.size≤s):jT X w' v us:=by
 obtain⟨p,cap,h1,h2,h3,h4⟩:=h
 refine⟨p,cap,h1,h2,h3,fun j u hj=> ?_⟩
 obtain⟨g,off,e1,e2,e3,e4⟩:=h4 j u hj
 exact⟨g,off,e1,e2,aF e3 k.size,(k.cell e3 fun q=>by rcases hs g q with r|r;(·exact e2 r);(·omega)).trans e4⟩
theorem jT.below {X:List Nat} {w w':World} {v:Value} {us:List Value} (h:jT X w v us) (k:Below w.heap.size w w'):jT X w' v us:=h.keep (Keep.of (S:=[]) k) (fun _ q=>by cases q)
theorem jT.more {X Y:List Nat} {w:World} {v:Value} {us:List Value} (h:jT X w v us) (hY: ∀y∈Y,y∈X∨w.heap.size≤y):jT Y w v us:=by
 obtain⟨p,cap,h1,h2,h3,h4⟩:=h
 refine⟨p,cap,h1,h2,h3,fun j u hj=> ?_⟩
 obtain⟨g,off,e1,e2,e3,e4⟩:=h4 j u hj
 exact⟨g,off,e1,fun q=>by rcases hY g q with r|r;(·exact e2 r);(·omega),e3,e4⟩
theorem jT.sub {X Y:List Nat} {w:World} {v:Value} {us:List Value} (h:jT Y w v us) (hX: ∀x∈X,x∈Y):jT X w v us:=by
 obtain⟨p,cap,h1,h2,h3,h4⟩:=h
 refine⟨p,cap,h1,h2,h3,fun j u hj=> ?_⟩
 obtain⟨g,off,e1,e2,e3,e4⟩:=h4 j u hj
 exact⟨g,off,e1,fun q=>e2 (hX g q),e3,e4⟩
theorem jT.nil (X:List Nat) (w:World):jT X w (.slice none 0 0) []:=⟨none,0,rfl,aI _,aO _,fun j u hj=>by simp at hj⟩
theorem jT.form {X:List Nat} {w:World} {v:Value} {us:List Value} (h:jT X w v us): ∃p cap,v= .slice p us.length cap∧us.length≤cap∧cap≤maxLen∧∀j u,us[j]?=some u→∃g off,p=some ⟨g,off,none⟩∧g∉X∧g<w.heap.size∧w.cell? ⟨g,off+j,none⟩=some u:=h
theorem lN {X:List Nat} {w:World} {base:Nat} {E:TypeId} {v:Value} {us:List Value} (h:w.ownsRow base E 1 v us.length us) (hX: ∀x∈X,∀g,v.ownBlock=some g→x≠g):jT X w v us:=by
 have ho:=h
 rcases h.2 with⟨rfl,h3⟩|⟨g,cap,cur,rfl,hg,hh,hcap,hmax,_⟩
 ·cases us with
  |nil=>exact jT.nil X w
  |cons b r=>simp at h3
 ·refine⟨some ⟨g,0,none⟩,cap,rfl,hcap,hmax,fun j u hj=>⟨g,0,rfl,fun q=>hX g q g rfl rfl,(ho.lt g rfl).2,?_⟩⟩
  have hlt:j<us.length:=(aj.1 hj).1
  rw[bO,ho.cellAt j om]
  exact hj
structure El (T E:TypeId) (z:Value) (b:Nat):Prop where
 und:Tryz.prog.underlying T=some (.slice E)
 info:(Tryz.prog.info? E).map (fun i=>(i.zero,i.size,i.bytes))=some (some z,1,b)
 one:z.cells.size=1
 few:b≤64
def rY (w:World) (p:Option Addr) (ms:List Value):Prop:=
 (p=none∧ms=[])∨∃a:Addr,p=some a∧∀(j:Nat) (u:Value),ms[j]?=some u→w.cell? (a.add j)=some u
theorem addr_add (g o j:Nat):(⟨g,o,none⟩:Addr).add j=⟨g,o+j,none⟩:=by
 unfold Addr.add
 split
 ·rename_i e;rw[e];rfl
 ·rfl
theorem jT.src {X:List Nat} {w:World} {p:Option Addr} {n cap:Nat} {us:List Value} (h:jT X w (.slice p n cap) us):rY w p us:=by
 obtain⟨q,c,h1,_,_,h4⟩:=h
 injection h1 with h1 _ _
 subst h1
 cases p with
 |none=>
  refine .inl ⟨rfl,?_⟩
  cases us with
  |nil=>rfl
  |cons u r=>obtain⟨g,off,e,_⟩:=h4 0 u rfl;cases e
 |some a=>
  refine .inr ⟨a,rfl,fun j u hj=> ?_⟩
  obtain⟨g',o',e,_,_,e4⟩:=h4 j u hj
  injection e with e
  subst e
  rw[addr_add]
  exact e4
theorem Bz {T E:TypeId} {z:Value} {b:Nat} (hE:El T E z b) {w:World} (ty:TypeId) {base:Nat} {v:Value} {us:List Value} (hown:w.ownsRow base E 1 v us.length us) {p:Option Addr} {c:Nat} {ms:List Value} (hs:rY w p ms) (h1: ∀u∈ms,u.oneCell'=true)
 (hl:us.length+ms.length≤65536) (hb:base≤w.heap.size):
 ∃q k w',(Builtin.append_ #[T,T] ty #[v,.slice p ms.length c]).run Tryz.prog w= .ok (.slice q (us++ms).length k) w'∧w'.ownsRow base E 1 (.slice q (us++ms).length k) (us++ms).length (us++ms)∧w.grownBy w' v.ownBlock∧
  ((Value.slice q (us++ms).length k).ownBlock=v.ownBlock∨(Value.slice q (us++ms).length k).ownBlock=some w.heap.size):=by
 obtain⟨i0,hi,hz0,hz1,hz2⟩:=info_parts hE.info
 have ht:=hE.und
 have hfew:=hE.few
 rcases hs with⟨rfl,rfl⟩|⟨a,rfl,hc⟩
 ·rcases hown.2 with⟨rfl,hu⟩|⟨g,cap,cur,rfl,_,_,hnc,_⟩
  ·refine⟨none,0,w,?_,?_,⟨rfl,rfl,rfl,aI _,fun _ _ _=>rfl⟩,.inl rfl⟩
   ·simp[Builtin.append_,run_underlying ht,sizeOf,typeInfo,hi,Builtin.lenOf,Builtin.firstCells,hu]
   ·have hu':us=[]:=eF.1 hu
    subst hu'
    exact hown
  ·refine⟨some ⟨g,0,none⟩,cap,w,?_,by simpa using hown,⟨rfl,rfl,rfl,aI _,fun _ _ _=>rfl⟩,.inl rfl⟩
   simp[Builtin.append_,run_underlying ht,sizeOf,typeInfo,hi,Builtin.lenOf,Builtin.firstCells,hnc,storeCells]
 ·obtain⟨v',w',hrun,h2,h3,_,h5⟩:=run_append_own_at (P:=Tryz.prog) w base T ty E i0 z 1 b ht hi hz0 hz1 hz2 hE.one om v us.length us hown a ms.length c ms
   om hc h1 (by unfold maxLen;omega) (by
    have:(us.length+ms.length)*b≤65536*64:=dB hl hfew
    omega) hb
  have hf: ∃q k,v'= .slice q (us.length+ms.length) k:=by
   rcases h2.2 with⟨e,e2⟩|⟨g',cap',cur,e,_⟩
   ·exact⟨none,0,by rw[e,e2]⟩
   ·exact⟨_,_,e⟩
  obtain⟨q,k,rfl⟩:=hf
  rw[←aU] at hrun h2 h5
  exact⟨q,k,w',hrun,h2,h3,h5⟩
theorem mH {T E:TypeId} {z:Value} {b:Nat} (hE:El T E z b) {base:Nat} {v:Value} {us ms:List Value} {w:World} {p:Option Addr} {c:Nat} {ops:Array Oper} {rest:List Oper} {o:Oper} {a:Act} {Q:Exit→Act→World→Prop} (hgd:o.guard=none) (s x:Operand)
 (ho:o.op= .call {callee:=.builtin .append,args:=#[s,x],argTypes:=#[T,T]}) (hv:a.eval s=v) (mn:Nat) (hx:a.eval x= .slice p mn c) (hmn:ms.length=mn)
 (hown:w.ownsRow base E 1 v us.length us) (hs:rY w p ms) (h1: ∀u∈ms,u.oneCell'=true) (hl:us.length+ms.length≤65536) (hb:base≤w.heap.size)
 (h: ∀q k w',w'.ownsRow base E 1 (.slice q (us++ms).length k) (us++ms).length (us++ms)→w.grownBy w' v.ownBlock→((Value.slice q (us++ms).length k).ownBlock=v.ownBlock∨(Value.slice q (us++ms).length k).ownBlock=some w.heap.size)→wpList Tryz.prog ops Q rest (a.put o.dst (.slice q (us++ms).length k)) w'):wpList Tryz.prog ops Q (o::rest) a w:=by
 subst hmn
 refine wpList_plain hgd fun K hK=> ?_
 obtain⟨q,k,w',hrun,h2,h3,h4⟩:=Bz hE (w:=w) o.type hown hs h1 hl hb (c:=c)
 unfold Oper.wp execOp
 simp only[ho,resolve,invoke,builtin,dP,dX,dx,dG,bX,dY,hv,hx,hrun]
 exact hK _ _ (h q k w' h2 h3 h4)
theorem mJ {T E:TypeId} {z:Value} {b:Nat} (hE:El T E z b) {base:Nat} {v:Value} {us ms:List Value} {w:World} {p:Option Addr} {c:Nat} {ops:Array Oper} {o:Oper} {a:Act} {K:Act→World→Prop} {Q:Exit→Act→World→Prop} {F:Prop} (hgd:o.guard=none) (s x:Operand)
 (ho:o.op= .call {callee:=.builtin .append,args:=#[s,x],argTypes:=#[T,T]}) (hv:a.eval s=v) (mn:Nat) (hx:a.eval x= .slice p mn c) (hmn:ms.length=mn)
 (hown:w.ownsRow base E 1 v us.length us) (hs:rY w p ms) (h1: ∀u∈ms,u.oneCell'=true) (hl:us.length+ms.length≤65536) (hb:base≤w.heap.size)
 (h: ∀q k w',w'.ownsRow base E 1 (.slice q (us++ms).length k) (us++ms).length (us++ms)→w.grownBy w' v.ownBlock→((Value.slice q (us++ms).length k).ownBlock=v.ownBlock∨(Value.slice q (us++ms).length k).ownBlock=some w.heap.size)→K (a.put o.dst (.slice q (us++ms).length k)) w'):
 if Region.wanted o (yielded ops a.tmps)=true then Oper.wp Tryz.prog o a w K Q else F:=by
 subst hmn
 have hw:Region.wanted o (yielded ops a.tmps)=true:=by simp[Region.wanted,hgd]
 rw[if_pos hw]
 obtain⟨q,k,w',hrun,h2,h3,h4⟩:=Bz hE (w:=w) o.type hown hs h1 hl hb (c:=c)
 unfold Oper.wp execOp
 simp only[ho,resolve,invoke,builtin,dP,dX,dx,dG,bX,dY,hv,hx,hrun]
 exact h q k w' h2 h3 h4
theorem ni (w:World) (u:Value) (t:TypeId):rY (w.alloc (.cells #[u] t)) (some ⟨w.heap.size,0,none⟩) [u]:=
 .inr ⟨_,rfl,fun j x hj=>by
  rw[addr_add]
  cases j with
  |zero=>simp at hj;subst hj;rw[aK _ _ _ _ sI];rfl
  |succ j=>simp at hj⟩
theorem Below.grownK {S:List Nat} {w w':World} {r:Option Nat} (h:w.grownBy w' r) (hr: ∀g,r=some g→g∈S∨w.heap.size≤g):Keep S w w':=
 ⟨h.os,h.tape,h.output,h.size,fun k hk hn=>h.block k hk fun e=>by rcases hr k e.symm with q|q;(·exact hn q);(·omega)⟩
def iF (v:Value):List Nat:=v.ownBlock.toList
theorem kI {v:Value} {g:Nat}:g∈iF v↔v.ownBlock=some g:=by unfold iF;cases v.ownBlock<;>simp[eq_comm]
theorem iN {w:World} {B:Nat} {E:TypeId} {s:Nat} {v:Value} {n:Nat} {xs:List Value} (h:w.ownsRow B E s v n xs) {g:Nat} (hg:g∈iF v):B≤g∧g<w.heap.size:=h.lt g (kI.1 hg)
theorem jh {w w':World} {v:Value} (hg:w.grownBy w' v.ownBlock):Keep (iF v) w w':=Below.grownK hg fun g e=>.inl (kI.2 e)
theorem rZ {w:World} {v v':Value} (ho:v'.ownBlock=v.ownBlock∨v'.ownBlock=some w.heap.size): ∀y∈iF v',y∈iF v∨w.heap.size≤y:=by
 intro y hy
 rw[kI] at hy ⊢
 rcases ho with e|e
 ·exact .inl (e▸hy)
 ·rw[e] at hy;injection hy with hy;exact .inr om
theorem iE {S:List Nat} {w w':World} {B:Nat} {E:TypeId} {s:Nat} {v:Value} {n:Nat} {xs:List Value} (h:w.ownsRow B E s v n xs) (k:Keep S w w') (hs: ∀x∈S,x∉iF v):w'.ownsRow B E s v n xs:=by
 refine⟨h.1,?_⟩
 have hlt:=h.lt
 rcases h.2 with hn|⟨g,cap,cur,rfl,hb,hgg,rest⟩
 ·exact .inl hn
 ·exact .inr ⟨g,cap,cur,rfl,hb,(k.block g (hlt g rfl).2 fun q=>hs g q (kI.2 rfl)).trans hgg,rest⟩
structure iy (w:World) (b:Nat) (us:List Value):Prop where
 lt:b<w.heap.size
 c: ∀j u,us[j]?=some u→w.cell? ⟨b,j,none⟩=some u
 f: ∀j,j<us.length→w.frozen? ⟨b,j,none⟩=false
theorem iy.keep {S:List Nat} {w w':World} {b:Nat} {us:List Value} (h:iy w b us) (k:Keep S w w') (hb:b∉S):iy w' b us:=
 ⟨aF h.lt k.size,fun j u hj=>(k.cell h.lt hb).trans (h.c j u hj),fun j hj=>(k.frozen h.lt hb).trans (h.f j hj)⟩
theorem iy.below {w w':World} {b:Nat} {us:List Value} (h:iy w b us) {n:Nat} (k:Below n w w') (hb:b<n):iy w' b us:=
 ⟨aF h.lt k.size,fun j u hj=>(k.cell (p:=⟨b,j,none⟩) hb).trans (h.c j u hj),fun j hj=>(k.frozen (p:=⟨b,j,none⟩) hb).trans (h.f j hj)⟩
theorem iy.go {w w':World} {b:Nat} {us:List Value} (h:iy w b us) (k:Below w.heap.size w w'):iy w' b us:=h.below k h.lt
theorem iy.new (w:World) (us:List Value) (t:TypeId):iy (w.alloc (.cells us.toArray t)) w.heap.size us:=
 ⟨sI,fun j u hj=>by rw[aK _ _ _ _ sI];simpa using hj,fun j hj=>bQ _ _ _ _ rfl⟩
theorem iy.store {w:World} {b:Nat} {us:List Value} (h:iy w b us) (i:Nat) (v:Value) (hi:i<us.length):iy (w.setCell ⟨b,i,none⟩ v) b (us.set i v):=by
 refine⟨by simpa[World.setCell] using h.lt,fun j u hj=> ?_,fun j hj=>by rw[iI];exact h.f j (by simpa using hj)⟩
 by_cases e:i=j
 ·subst e
  rw[aL hi] at hj
  injection hj with hj
  subst hj
  obtain⟨x,hx⟩: ∃x,us[i]?=some x:=⟨us[i],au _⟩
  exact iJ _ (h.c i x hx)
 ·rw[bD e] at hj
  rw[iA _ e]
  exact h.c j u hj
end
section
open Go.RowKit
theorem iy.mk_ (w:World) (us:List Value) (t:TypeId) {b:Nat} (h:w.heap.size=b):iy (w.alloc (.cells us.toArray t)) b us:=by subst h;exact iy.new w us t
theorem iy.past {w:World} {b:Nat} {us:List Value} (h:iy w b us) (o:Obj):iy (w.alloc o) b us:=h.go ((aJ _ _).alloc (aI _) o)
theorem iy.jF {w:World} {b:Nat} {us:List Value} (h:iy w b us):iy w.drew b us:=h.keep ((Keep.refl [] _).drew) sI
theorem iy.drewNL {w:World} {b:Nat} {us:List Value} (h:iy w b us) (m:Nat):iy (w.drewN m) b us:=h.keep ((Keep.refl [] _).drewN m) sI
theorem iy.far {w:World} {b c:Nat} {us:List Value} (h:iy w b us) (hb:c≠b) (o:Nat) (v:Value):iy (w.setCell ⟨c,o,none⟩ v) b us:=
 h.keep (S:=[c]) ((Keep.refl [c] _).setCell (p:=⟨c,o,none⟩) (.inl sI) v) (by simpa using fun e=>hb e.symm)
theorem iy.jC {w:World} {b:Nat} {u0 u1:Value} (h:iy w b [u0,u1]) (v0 v1:Value):iy ((w.setCell ⟨b,0,none⟩ v0).setCell ⟨b,1,none⟩ v1) b [v0,v1]:=(h.store 0 v0 sI).store 1 v1 sI
theorem iy.qj {w:World} {b:Nat} {u0 u1 u2:Value} (h:iy w b [u0,u1,u2]) (v0 v1 v2:Value):iy (((w.setCell ⟨b,0,none⟩ v0).setCell ⟨b,1,none⟩ v1).setCell ⟨b,2,none⟩ v2) b [v0,v1,v2]:=((h.store 0 v0 sI).store 1 v1 sI).store 2 v2 sI
theorem Keep.wide {S:List Nat} {a b:World} (h:Keep [] a b):Keep S a b:=h.mono (fun _ q=>by cases q)
theorem Keep.stepW {S:List Nat} {a b c:World} (h:Keep [] a b) (k:Below b.heap.size b c):Keep S a c:=(h.step k).wide
theorem Keep.thenW {S:List Nat} {a b c:World} (h:Keep [] a b) (k:Keep S b c):Keep S a c:=h.wide.then k
end
section
open Go.RowKit Go.ChangeShapes
def lI (x:Int):Prop:= -9223372036854775808≤x∧x≤9223372036854775807
theorem lQ {x:Int} (h:(Lit.int .i64 x).wf=true):lI x:=by
 simp[Lit.wf,IntKind.min,IntKind.max,IntKind.signed,IntKind.bits] at h
 exact⟨om,om⟩
def RowG {α:Type} (s:Nat) (cells:α→List Value) (fits:α→Prop) (w:World) (v:Value) (xs:List α):Prop:=
 ∃p cap,v= .slice p xs.length cap∧(xs.length≤cap∧cap≤maxLen)∧∀j x,xs[j]?=some x→fits x∧∃g off,p=some ⟨g,off,none⟩∧g<w.heap.size∧∀i u,(cells x)[i]?=some u→w.cell? ⟨g,off+j*s+i,none⟩=some u
theorem Ej (b off i:Nat):(⟨b,off,none⟩:Addr).add i=⟨b,off+i,none⟩:=by
 unfold Addr.add
 split
 ·rename_i h;rw[h];rfl
 ·rfl
theorem len2 {α:Type} {l:List α} (h:l.length=2): ∃a b,l=[a,b]:=by
 match l,h with
 |[a,b],_=>exact⟨a,b,rfl⟩
theorem len3 {α:Type} {l:List α} (h:l.length=3): ∃a b c,l=[a,b,c]:=by
 match l,h with
 |[a,b,c],_=>exact⟨a,b,c,rfl⟩
theorem len5 {α:Type} {l:List α} (h:l.length=5): ∃a b c d e,l=[a,b,c,d,e]:=by
 match l,h with
 |[a,b,c,d,e],_=>exact⟨a,b,c,d,e,rfl⟩
theorem len6 {α:Type} {l:List α} (h:l.length=6): ∃a b c d e f,l=[a,b,c,d,e,f]:=by
 match l,h with
 |[a,b,c,d,e,f],_=>exact⟨a,b,c,d,e,f,rfl⟩
theorem len7 {α:Type} {l:List α} (h:l.length=7): ∃a b c d e f g,l=[a,b,c,d,e,f,g]:=by
 match l,h with
 |[a,b,c,d,e,f,g],_=>exact⟨a,b,c,d,e,f,g,rfl⟩
theorem Ab {α:Type} {H:Type} {enc:TypeId×Value→H} {W:World} {base:Nat} {spare:Nat→Bool} {held:Bool} {fuel:Nat} {v:Value} {x:DataW H×List MemPlace} {T E:TypeId} {s:Nat} {cells:α→List Value} {fits:α→Prop}
 (ht:Tryz.prog.underlying T=some (.slice E)) (hs:Tryz.prog.cellsOf E=s) (hs0:0<s)
 (each: ∀(n:Nat) (cs:List Value) (y:DataW H×List MemPlace),cs.length=s→DataW.trod enc Tryz.prog W base spare held n E cs=some y→∃q:α,cs=cells q∧fits q)
 (h:DataW.trod enc Tryz.prog W base spare held fuel T [v]=some x): ∃xs,RowG s cells fits W v xs:=by
 rcases Go.Deep.open_slice ht h with⟨hcs,_⟩|⟨a,len,cap,m,n,D,Pl,hcs,_,hl,hm,hmm,_,hel⟩
 ·have e:v= .slice none 0 0:=by simpa using hcs
  exact⟨[],none,0,e,⟨aI _,aO _⟩,fun j x hj=>by simp at hj⟩
 ·have e:v= .slice (some a) len cap:=by simpa using hcs
  have hlm:len≤m:=by rw[hmm];split<;>omega
  have key: ∀i,i<len→∃q:α,fits q∧(cells q).length=s∧∀j u,(cells q)[j]?=some u→W.cell? (a.add (i*s+j))=some u:=by
   intro i hi
   obtain⟨cs',h1,h2⟩:=hel i om
   rw[hs] at h1
   obtain⟨_,hlen,hcell⟩:=World.cells?_some h1
   obtain⟨q,rfl,hq⟩:=each _ _ _ hlen h2
   refine⟨q,hq,hlen,fun j u hj=> ?_⟩
   have hjl:=(aj.1 hj).1
   have:=hcell j om
   rw[Go.Deep.add_add] at this
   rw[this,hj]
  cases len with
  |zero=>exact⟨[],some a,cap,e,⟨aO _,hm⟩,fun j x hj=>by simp at hj⟩
  |succ len=>
   have:Nonempty α:=⟨(key 0 om).choose⟩
   have ch: ∃q:Nat→α,∀i,i<len+1→fits (q i)∧(cells (q i)).length=s∧∀j u,(cells (q i))[j]?=some u→W.cell? (a.add (i*s+j))=some u:=by
    refine⟨fun i=>if hi:i<len+1 then(key i hi).choose else Classical.choice this,fun i hi=> ?_⟩
    simp only[dif_pos hi]
    exact(key i hi).choose_spec
   obtain⟨q,hq⟩:=ch
   obtain⟨b,off,spot⟩:=a
   obtain⟨_,c0,c1⟩:=hq 0 om
   have h00:=c1 0 _ (au om)
   have hspot:spot=none:=by simpa[Addr.add] using World.cell?_spot h00
   subst hspot
   refine⟨(List.range (len+1)).map q,some ⟨b,off,none⟩,cap,by simp[e],⟨by simpa using hl,hm⟩,fun j x hj=> ?_⟩
   have hjl:j<len+1:=by
    have:=(aj.1 hj).1
    simpa using this
   rw[gJ,List.getElem?_range hjl] at hj
   simp at hj
   subst hj
   obtain⟨f1,f2,f3⟩:=hq j hjl
   refine⟨f1,b,off,rfl,?_,fun i u hi=> ?_⟩
   ·rw[Ej] at h00
    rcases dH b W.heap.size with r|r
    ·exact r
    ·simp[World.cell?,dO r] at h00
   ·have:=f3 i u hi
    rwa [Ej,←Nat.add_assoc] at this
theorem RowG.form {α:Type} {s:Nat} {cells:α→List Value} {fits:α→Prop} {w:World} {v:Value} {xs:List α} (h:RowG s cells fits w v xs) (h0:0<xs.length):
 ∃g off cap,v= .slice (some ⟨g,off,none⟩) xs.length cap∧(xs.length≤cap∧cap≤maxLen)∧g<w.heap.size∧∀j x,xs[j]?=some x→fits x∧∀i u,(cells x)[i]?=some u→w.cell? ⟨g,off+j*s+i,none⟩=some u:=by
 obtain⟨p,cap,rfl,hcap,h2⟩:=h
 obtain⟨_,g,off,rfl,hg,_⟩:=h2 0 _ (au h0)
 refine⟨g,off,cap,rfl,hcap,hg,fun j x hj=> ?_⟩
 obtain⟨f,g',off',e,_,q⟩:=h2 j x hj
 injection e with e;injection e with ea eb
 subst ea eb
 exact⟨f,q⟩
end
section
open Go.RowKit Go.ChangeShapes
def RowI (w:World) (v:Value) (xs:List Int):Prop:=
 ∃p cap,v= .slice p xs.length cap∧∀j x,xs[j]?=some x→∃g off,p=some ⟨g,off,none⟩∧g<w.heap.size∧w.cell? ⟨g,off+j,none⟩=some (.int .i64 x)∧ -9223372036854775808≤x∧x≤9223372036854775807
theorem Em:Tryz.prog.cellsOf 3=1:=kR
end
end Go.Proofs.YtdcbhlcbiokbeaaGreatDoor
