/- Lemmas and contracts for the claim's last text: Code, ZTake, SB, SCS. -/
import Derived.Test.YtdcbhlcbiokbeaaGreatDoorMa01
import Derived.Test.YtdcbhlcbiokbeaaGreatDoorMa03
import Derived.Test.YtdcbhlcbiokbeaaGreatDoorMa05
import Derived.Test.YtdcbhlcbiokbeaaGreatDoorMa06
set_option linter.unusedSimpArgs false
set_option linter.unusedVariables false
set_option maxHeartbeats 16000000
set_option maxRecDepth 100000
namespace Go.Proofs.YtdcbhlcbiokbeaaGreatDoor
section
open Go.RowKit Go.Extern.Stop Go.Stop Go.Extern
theorem Ap (v:Value) (w:World):(Extern.ReflectliteType.typeOf #[.iface 434 v]).run Tryz.prog w= .ok (.iface 391 (.agg #[.pointer (some ⟨11,434,none⟩)])) w:=kR
theorem uU (w:World):((Extern.ReflectliteType.method fun t=>do Rtype.noPackHeld "Comparable" t;(fun a=>Value.bool a.comparable)<$>typeInfo t) #[.agg #[.pointer (some ⟨11,434,none⟩)]]).run Tryz.prog w= .ok (.bool true) w:=kR
theorem nX (v:Value) (w:World):(Go.method 571 391 v "Comparable").run Tryz.prog w= .ok (327,v) w:=kR
theorem wComp:(Tryz.prog.info? 434).map (·.comparable)=some true:=kR
theorem wSize:(Tryz.prog.info? 454).map (·.size)=some 1:=kR
theorem wNoIs (v:Value) (xT:TypeId) (w:World):(Instr.typeAssert (.iface 434 v) xT 393 true).run Tryz.prog w= .ok (.tuple #[.nilIface,.bool false]) w:=run_typeAssert_lacksB Tryz.underlying393 kR kR v xT w
theorem wNoAs (v:Value) (xT:TypeId) (w:World):(Instr.typeAssert (.iface 434 v) xT 408 true).run Tryz.prog w= .ok (.tuple #[.nilIface,.bool false]) w:=run_typeAssert_lacksB Tryz.underlying408 kR kR v xT w
theorem yS (v:Value) (xT:TypeId) (w:World):(Instr.typeAssert (.iface 434 v) xT 396 true).run Tryz.prog w= .ok (.tuple #[.nilIface,.bool false]) w:=run_typeAssert_lacksB Tryz.underlying396 kR kR v xT w
theorem wS (v:Value) (xT:TypeId) (w:World):(Instr.typeAssert (.iface 434 v) xT 397 true).run Tryz.prog w= .ok (.tuple #[.nilIface,.bool false]) w:=run_typeAssert_lacksB Tryz.underlying397 kR kR v xT w
theorem is_same (a:Addr) (w:World):
 Calls Tryz.prog 157 #[.iface 434 (.pointer (some a)),.iface 434 (.pointer (some a))] w fun e w'=>e= .returned (.bool true)∧w=w':=by
 obtain⟨i,hi,hcmp⟩:=fE.1 wComp
 obtain⟨j,hj,hjs⟩:=fE.1 wSize
 have h8:= @run_callFunc_extern Tryz.prog 236 _ Extern.ReflectliteType.typeOf Tryz.func236 kR kR kR kR
 have h32:= @run_callFunc_extern Tryz.prog 327 _ (Extern.ReflectliteType.method fun t=>do Rtype.noPackHeld "Comparable" t;pure (.bool (←typeInfo t).comparable)) Tryz.func327 kR kR kR kR
 have tT:=Ap
 have cT:=uU
 have mR:=nX
 have heq:=run_eql_iface_ptr_same (P:=Tryz.prog) w a Tryz.underlying33 Tryz.underlying434 hi hcmp hj
 go_enter Tryz.func157,Tryz.ntmps157
 go_wp2
 refine wp_loop_rounds 1 ?_
 rw[rounds_succ]
 go_wp2
 go_ret
 exact⟨rfl,rfl⟩
theorem is_other (a b:Addr) (ca cb:Array Value) (ta tb:TypeId) (w:World) (hne:a≠b) (ha:w.heap[a.block]?=some (.cells ca ta (0,0))) (hb:w.heap[b.block]?=some (.cells cb tb (0,0))):
 Calls Tryz.prog 157 #[.iface 434 (.pointer (some a)),.iface 434 (.pointer (some b))] w fun e w'=>e= .returned (.bool false)∧w=w':=by
 obtain⟨i,hi,hcmp⟩:=fE.1 wComp
 obtain⟨j,hj,hjs⟩:=fE.1 wSize
 have h8:= @run_callFunc_extern Tryz.prog 236 _ Extern.ReflectliteType.typeOf Tryz.func236 kR kR kR kR
 have h32:= @run_callFunc_extern Tryz.prog 327 _ (Extern.ReflectliteType.method fun t=>do Rtype.noPackHeld "Comparable" t;pure (.bool (←typeInfo t).comparable)) Tryz.func327 kR kR kR kR
 have tT:=Ap
 have cT:=uU
 have mR:=nX
 have nE:=wNoIs
 have uE:=yS
 have vE:=wS
 have heq:=run_eql_iface_ptr_other (P:=Tryz.prog) w Tryz.underlying33 Tryz.underlying434 hi hcmp hj (by rw[hjs];decide) hne ha hb
 go_enter Tryz.func157,Tryz.ntmps157
 go_wp2
 refine wp_loop_rounds 1 ?_
 rw[rounds_succ]
 go_wp2
 go_ret
 exact⟨rfl,rfl⟩
theorem xValueOf (t:Addr) (w:World):(ReflectliteValue.unpack (.iface 334 (.pointer (some t)))).run Tryz.prog w
 = .ok (.agg #[.pointer (some ⟨11,334,none⟩),.pointer (some ⟨w.heap.size,0,none⟩),.int .u64 150]) (w.alloc (.cells #[.pointer (some t)] 334)):=kR
theorem xType (a:Addr) (w:World):(ReflectliteValue.methodAny (ReflectliteValue.valueError "reflectlite.Value.Type" 0) (fun t _ _ _=>ReflectliteType.toType t) #[.agg #[.pointer (some ⟨11,334,none⟩),.pointer (some a),.int .u64 150]]).run Tryz.prog w
 = .ok (.iface 391 (.agg #[.pointer (some ⟨11,334,none⟩)])) w:=kR
theorem Aq (h:Value) (w:World):(Go.method 571 391 (.agg #[h]) "Kind").run Tryz.prog w= .ok (314,h) w:=kR
theorem xKindPP (w:World):((ReflectliteType.abiMethod fun t=>(fun a:Nat=>Value.int IntKind.u8 (a:Int))<$>Rtype.kind t) #[.pointer (some ⟨11,334,none⟩)]).run Tryz.prog w= .ok (.int .u8 22) w:=kR
theorem xKindP (w:World):((ReflectliteType.abiMethod fun t=>(fun a:Nat=>Value.int IntKind.u8 (a:Int))<$>Rtype.kind t) #[.pointer (some ⟨11,332,none⟩)]).run Tryz.prog w= .ok (.int .u8 22) w:=kR
theorem xrlm (z:Sem Value) (f:TypeId→Addr→Nat→Nat→Sem Value) (v:Value):
 ReflectliteValue.method z f #[v]=(do match ←ReflectliteValue.parts v with|none=>z|some (t,a,fl)=>f t a fl (fl % 32)):=rfl
theorem xParts (a:Addr) (w:World):(ReflectliteValue.parts (.agg #[.pointer (some ⟨11,334,none⟩),.pointer (some a),.int .u64 150])).run Tryz.prog w= .ok (some (334,a,150)) w:=kR
theorem xIsNil (a p:Addr) (W:World) (ha:W.cell? a=some (.pointer (some p))):
 (ReflectliteValue.method (ReflectliteValue.valueError "reflectlite.Value.IsNil" 0) ReflectliteValue.isNil #[.agg #[.pointer (some ⟨11,334,none⟩),.pointer (some a),.int .u64 150]]).run Tryz.prog W= .ok (.bool false) W:=by
 rw[xrlm]
 simp only[dP,xParts,Result.andThen]
 simp[ReflectliteValue.isNil,loadVar,isAgg,underlying,Tryz.underlying334,ha,Result.andThen]
theorem Ar (h:Value) (w:World):(Go.method 571 391 (.agg #[h]) "Elem").run Tryz.prog w= .ok (328,.agg #[h]) w:=kR
theorem sD (h:Value) (w:World):(Go.method 571 391 (.agg #[h]) "Implements").run Tryz.prog w= .ok (329,.agg #[h]) w:=kR
theorem qI (h:Value) (w:World):(Go.method 571 391 (.agg #[h]) "AssignableTo").run Tryz.prog w= .ok (326,.agg #[h]) w:=kR
theorem xElem (w:World):(ReflectliteType.method ReflectliteType.elem #[.agg #[.pointer (some ⟨11,334,none⟩)]]).run Tryz.prog w= .ok (.iface 391 (.agg #[.pointer (some ⟨11,332,none⟩)])) w:=kR
theorem Au (w:World):(ReflectliteType.relation "Implements" ReflectliteType.implements_ #[.agg #[.pointer (some ⟨11,332,none⟩)],.iface 391 (.agg #[.pointer (some ⟨11,33,none⟩)])]).run Tryz.prog w= .ok (.bool true) w:=kR
theorem F9 (w:World):(ReflectliteType.relation "AssignableTo" ReflectliteType.assignableTo #[.agg #[.pointer (some ⟨11,434,none⟩)],.iface 391 (.agg #[.pointer (some ⟨11,332,none⟩)])]).run Tryz.prog w= .ok (.bool false) w:=kR
theorem as_miss {B:Nat} {ev:Nat→Addr} (e t:Addr) (w:World) (hE:sS B ev w):
 Calls Tryz.prog 209 #[.iface 434 (.pointer (some e)),.iface 334 (.pointer (some t))] w fun ev w'=>ev= .returned (.bool false)∧Below w.heap.size w w':=by
 have hg:=hE.typ
 have hB:=hE.size
 have hlt:10<w.heap.size:=aF hE.globT hE.size
 have h6:= @run_callFunc_extern Tryz.prog 248 _ (fun args=>ReflectliteValue.unpack (args.getD 0 (.tuple #[]))) Tryz.func248 kR kR kR kR
 have h7:= @run_callFunc_extern Tryz.prog 249 _ (ReflectliteValue.methodAny (ReflectliteValue.valueError "reflectlite.Value.Type" 0) (fun t _ _ _=>ReflectliteType.toType t)) Tryz.func249 kR kR kR kR
 have h8:= @run_callFunc_extern Tryz.prog 250 _ (ReflectliteValue.method (ReflectliteValue.valueError "reflectlite.Value.IsNil" 0) ReflectliteValue.isNil) Tryz.func250 kR kR kR kR
 have h27:= @run_callFunc_extern Tryz.prog 314 _ (ReflectliteType.abiMethod fun t=>do pure (.int .u8 (←Rtype.kind t))) Tryz.func314 kR kR kR kR
 have h37:= @run_callFunc_extern Tryz.prog 328 _ (ReflectliteType.method ReflectliteType.elem) Tryz.func328 kR kR kR kR
 have h38:= @run_callFunc_extern Tryz.prog 329 _ (ReflectliteType.relation "Implements" ReflectliteType.implements_) Tryz.func329 kR kR kR kR
 have h10:= @run_callFunc_extern Tryz.prog 236 _ ReflectliteType.typeOf Tryz.func236 kR kR kR kR
 have h35:= @run_callFunc_extern Tryz.prog 326 _ (ReflectliteType.relation "AssignableTo" ReflectliteType.assignableTo) Tryz.func326 kR kR kR kR
 have tO:=Ap
 have mA:=qI
 have aN:=F9
 have f6:=xValueOf
 have f7:=xType
 have mK:=Aq
 have mE:=Ar
 have mI:=sD
 have k27:=xKindPP
 have k25:=xKindP
 have e27:=xElem
 have i25:=Au
 have nA:=wNoAs
 have nU:=yS
 have nV:=wS
 have n8:=xIsNil ⟨w.heap.size,0,none⟩ t ((w.alloc (.cells #[.pointer (some t)] 334)).alloc (.cells #[.pointer (some ⟨11,334,none⟩),.pointer (some ⟨w.heap.size,0,none⟩),.int .u64 150] 372)) sI
 have hg2:((w.alloc (.cells #[.pointer (some t)] 334)).alloc (.cells #[.pointer (some ⟨11,334,none⟩),.pointer (some ⟨w.heap.size,0,none⟩),.int .u64 150] 372)).cell? ⟨10,0,none⟩=some (.iface 391 (.agg #[.pointer (some ⟨11,33,none⟩)])):=by
  rw[World.cell?_alloc_lt _ _ ⟨10,0,none⟩ (by simp;omega),World.cell?_alloc_lt _ _ ⟨10,0,none⟩ hlt];exact hg
 go_enter Tryz.func209,Tryz.ntmps209
 go_wp2
 refine wp_loop_rounds 1 ?_
 rw[rounds_succ]
 go_wp2
 go_ret
 exact⟨rfl,iB⟩
end
section
open Go.RowKit
theorem code_nil (w:World):Calls Tryz.prog 112 #[.nilIface] w fun e w'=>e= .returned (.tuple #[.int .i64 0,.int .i64 (-1)])∧w=w':=by
 go_enter Tryz.func112,Tryz.ntmps112
 go_wp2
 go_ret2
 exact⟨rfl,rfl⟩
theorem Fa {B:Nat} {ev:Nat→Addr} (i j:Nat) (w:World) (hE:sS B ev w) (i1:1≤i) (i2:i≤10) (j1:1≤j) (j2:j≤10):
 Calls Tryz.prog 157 #[.iface 434 (.pointer (some (ev i))),.iface 434 (.pointer (some (ev j)))] w fun e w'=>e= .returned (.bool (decide (i=j)))∧w=w':=by
 by_cases h:i=j
 ·subst h
  rw[decide_eq_true rfl]
  exact is_same _ w
 ·rw[decide_eq_false h]
  obtain⟨ca,ta,ha⟩:=hE.row i i1 i2
  obtain⟨cb,tb,hb⟩:=hE.row j j1 j2
  exact is_other _ _ ca cb ta tb w (fun e=>h (hE.inj i j i1 i2 j1 j2 e)) ha hb
theorem Fb {B:Nat} {ev:Nat→Addr} (i:Nat) (w:World) (hE:sS B ev w) (i1:1≤i) (i2:i≤10):
 Calls Tryz.prog 112 #[.iface 434 (.pointer (some (ev i)))] w fun e w'=>e= .returned (.tuple #[.int .i64 i,.int .i64 (-1)])∧Below w.heap.size w w':=by
 have hB:=hE.size
 go_enter Tryz.func112,Tryz.ntmps112
 go_wp2_with fail
 refine(as_miss _ _ _ (hE.below iB)).mono ?_
 rintro e w1 ⟨rfl,hb1⟩;obtain⟨c1,f1⟩:=qD hb1;have z1:=hb1.size;try simp at z1 c1 f1
 have hE1:sS B ev w1:=hE.below iB
 have g1:=hE1.cell 1 (by decide) (by decide)
 have g2:=hE1.cell 2 (by decide) (by decide)
 have g3:=hE1.cell 3 (by decide) (by decide)
 have g4:=hE1.cell 4 (by decide) (by decide)
 have g5:=hE1.cell 5 (by decide) (by decide)
 have g6:=hE1.cell 6 (by decide) (by decide)
 have g7:=hE1.cell 7 (by decide) (by decide)
 have g8:=hE1.cell 8 (by decide) (by decide)
 have g9:=hE1.cell 9 (by decide) (by decide)
 have g10:=hE1.cell 10 (by decide) (by decide)
 simp only[errG,jB] at g1 g2 g3 g4 g5 g6 g7 g8 g9 g10
 clear c1 f1
 have cells: ∀k,k<10→(w1.alloc (.cells #[.iface 434 (.pointer (some (ev 1))),.iface 434 (.pointer (some (ev 2))),.iface 434 (.pointer (some (ev 3))),.iface 434 (.pointer (some (ev 4))),.iface 434 (.pointer (some (ev 5))),.iface 434 (.pointer (some (ev 6))),.iface 434 (.pointer (some (ev 7))),.iface 434 (.pointer (some (ev 8))),.iface 434 (.pointer (some (ev 9))),.iface 434 (.pointer (some (ev 10)))] 33)).cell? ⟨w1.heap.size,k,none⟩=some (.iface 434 (.pointer (some (ev (k+1))))):=by
  intro k hk
  rw[aK _ _ _ _ rfl]
  match k,hk with
  |0,_=>rfl
  |1,_=>rfl
  |2,_=>rfl
  |3,_=>rfl
  |4,_=>rfl
  |5,_=>rfl
  |6,_=>rfl
  |7,_=>rfl
  |8,_=>rfl
  |9,_=>rfl
 have CC:=ah cells
 clear cells
 go_wp2
 go_loop [3,28] (fun a s=>∃k:Nat,k<i∧s= .int .i64 k∧a= .int .i64 (-1)) (fun _ s=>i-(intOf s).toNat)
 case atStart=>exact⟨0,om,rfl,rfl⟩
 case round=>
  obtain⟨k,hk,rfl,rfl⟩:=hrel
  have hck:=CC.out k om
  have hki:(k:Int)<10:=om
  by_cases hlt:k+1<i
  ·have hd:decide (i=k+1)=false:=decide_eq_false om
   have isK:=Fa i (k+1) (w1.alloc (.cells #[.iface 434 (.pointer (some (ev 1))),.iface 434 (.pointer (some (ev 2))),.iface 434 (.pointer (some (ev 3))),.iface 434 (.pointer (some (ev 4))),.iface 434 (.pointer (some (ev 5))),.iface 434 (.pointer (some (ev 6))),.iface 434 (.pointer (some (ev 7))),.iface 434 (.pointer (some (ev 8))),.iface 434 (.pointer (some (ev 9))),.iface 434 (.pointer (some (ev 10)))] 33)) (hE1.below iB) i1 i2 om om
   rw[hd] at isK
   have IK:=ah isK
   clear isK hd
   go_wp2_with (go_at_call 157;refine IK.out.mono ?_;rintro e w' ⟨rfl,rfl⟩)
   go_round
   case rel=>exact⟨k+1,om,by go_num,rfl⟩
   case measure=>simp[intOf];omega
  ·have hd:decide (i=k+1)=true:=decide_eq_true om
   have isK:=Fa i (k+1) (w1.alloc (.cells #[.iface 434 (.pointer (some (ev 1))),.iface 434 (.pointer (some (ev 2))),.iface 434 (.pointer (some (ev 3))),.iface 434 (.pointer (some (ev 4))),.iface 434 (.pointer (some (ev 5))),.iface 434 (.pointer (some (ev 6))),.iface 434 (.pointer (some (ev 7))),.iface 434 (.pointer (some (ev 8))),.iface 434 (.pointer (some (ev 9))),.iface 434 (.pointer (some (ev 10)))] 33)) (hE1.below iB) i1 i2 om om
   rw[hd] at isK
   have IK:=ah isK
   clear isK hd
   go_wp2_with (go_at_call 157;refine IK.out.mono ?_;rintro e w' ⟨rfl,rfl⟩)
   go_ret2
   have e1:i=k+1:=om
   exact⟨by rw[show(i:Int)=(k:Int)+1 from om];rfl,iB⟩
theorem code_any {B:Nat} {ev:Nat→Addr} (i:Nat) (w:World) (hE:sS B ev w) (i2:i≤10):
 Calls Tryz.prog 112 #[jB ev i] w fun e w'=>e= .returned (.tuple #[.int .i64 i,.int .i64 (-1)])∧Below w.heap.size w w':=by
 rcases i with _|i
 ·exact(code_nil w).mono fun e w' ⟨h1,h2⟩=>⟨h1,by rw[←h2];exact aJ _ _⟩
 ·exact Fb (i+1) w hE om i2
theorem Fe {B:Nat} {ev:Nat→Addr} (i:Nat) (n:Int) (w:World) (hE:sS B ev w) (i2:i≤10):
 Calls Tryz.prog 21 #[jB ev i,.int .i64 n] w fun e w'=>e= .returned (.bool (decide ((i:Int)=n)))∧Below w.heap.size w w':=by
 obtain⟨m,hm⟩: ∃m:Int,m=(i:Int):=⟨_,rfl⟩
 have cc:=code_any i w hE i2
 rw[←hm] at cc
 have CC:=ah cc
 clear cc
 rw[←hm]
 clear hm
 generalize jB ev i=x at CC
 by_cases h:m=n
 ·rw[decide_eq_true h]
  have hd:(m==n)=true:=by simpa using h
  clear h
  go_enter Tryz.func21,Tryz.ntmps21
  go_wp2_with fail
  refine CC.out.mono ?_
  rintro e w1 ⟨rfl,hb1⟩;obtain⟨c1,f1⟩:=qD hb1;have z1:=hb1.size;try simp at z1 c1 f1
  go_wp2
  go_ret
  exact⟨rfl,iB⟩
 ·rw[decide_eq_false h]
  have hd:(m==n)=false:=by simpa using h
  clear h
  go_enter Tryz.func21,Tryz.ntmps21
  go_wp2_with fail
  refine CC.out.mono ?_
  rintro e w1 ⟨rfl,hb1⟩;obtain⟨c1,f1⟩:=qD hb1;have z1:=hb1.size;try simp at z1 c1 f1
  go_wp2
  go_ret
  exact⟨rfl,iB⟩
theorem pY {B:Nat} {ev:Nat→Addr} (i:Nat) (n:Int) (w:World) (hE:sS B ev w) (i2:i≤10) (h:(i:Int)=n):
 Calls Tryz.prog 21 #[jB ev i,.int .i64 n] w fun e w'=>e= .returned (.bool true)∧Below w.heap.size w w':=by
 have:=Fe i n w hE i2
 rwa [decide_eq_true h] at this
theorem sS.go {B:Nat} {ev:Nat→Addr} {w w':World} (h:sS B ev w) (hb:Below w.heap.size w w'):sS B ev w':=h.below (hb.mono h.size)
end
section
open Go.RowKit Go.Maps
attribute [local go_sem ↓] aW aX
def plV (p:Pl):Value:=.agg #[.int .i64 p.1,.int .i64 p.2.1,.int .i64 p.2.2]
structure qM (B:Nat) (ev:Nat→Addr) (w:World):Prop where
 d:Bu B ev w
 l7:3<B
 c7:w.cell? ⟨3,0,none⟩=some (jB ev 7)
theorem qM.below {B:Nat} {ev:Nat→Addr} {w w':World} (h:qM B ev w) (hb:Below B w w'):qM B ev w':=
 ⟨h.d.below hb,h.l7,(hb.cell (p:=⟨3,0,none⟩) h.l7).trans h.c7⟩
theorem qM.size {B:Nat} {ev:Nat→Addr} {w:World} (h:qM B ev w):B≤w.heap.size:=h.d.size
theorem qM.go {B:Nat} {ev:Nat→Addr} {w w':World} (h:qM B ev w) (hb:Below w.heap.size w w'):qM B ev w':=h.below (hb.mono h.size)
theorem qM.c {B:Nat} {ev:Nat→Addr} {w:World} (h:qM B ev w):qh B ev w:=h.d.c
theorem D5 {B:Nat} {ev:Nat→Addr} (pz:Nat) (mn lw hi:Int) (O:List (List Int)) (L:List Nd) (v k:Int) (u:Bool) (w:World) (hE:qM B ev w) (h:jK B w pz mn lw hi O L) (hL:0<L.length) (hv:v<0∨(L.length:Int)≤v):
 Calls Tryz.prog 27 #[.pointer (some ⟨pz,0,none⟩),.int .i64 v,.int .i64 k,.bool u] w fun e w'=>e= .returned (.tuple #[plV (0,0,0),jB ev 2])∧Below w.heap.size w w':=by
 have hB:=hE.size
 have hb0:Below w.heap.size w ((w.alloc (.cells #[.int .i64 k] 3)).alloc (.cells #[.int .i64 0,.int .i64 0,.int .i64 0] 61)):=iB
 have NO:=ah (xO pz mn lw hi O L v _ (hE.c.below (hb0.mono hB)) (h.below hb0) hL hv)
 have L1:=ah (iy.mk_ (w.alloc (.cells #[.int .i64 k] 3)) [.int .i64 0,.int .i64 0,.int .i64 0] 61 (b:=w.heap.size+1) sI)
 have e1:jB ev 2= .iface 434 (.pointer (some (ev 2))):=rfl
 rw[e1] at NO ⊢
 clear h hv hE e1 hb0
 go_enter Tryz.func27,Tryz.ntmps27
 go_wp2_with fail
 refine NO.out.mono ?_
 rintro e w1 ⟨rfl,hb1⟩
 have M:=L1.out.go hb1
 have m0:=M.c 0 _ rfl;have m1:=M.c 1 _ rfl;have m2:=M.c 2 _ rfl;have f0:=M.f 0 sI;have f1:=M.f 1 sI;have f2:=M.f 2 sI;have ml:=M.lt
 have HM:=ah (M.qj (.int .i64 0) (.int .i64 0) (.int .i64 0))
 clear M NO L1
 go_wp2
 have x0:=HM.out.c 0 _ rfl;have x1:=HM.out.c 1 _ rfl;have x2:=HM.out.c 2 _ rfl
 exact bodyPost_ret (v:=.tuple #[.agg #[.int .i64 0,.int .i64 0,.int .i64 0],.iface 434 (.pointer (some (ev 2)))]) (by simp[x0,x1,x2,results,fJ,go_sem]) rfl ⟨rfl,iB⟩
theorem Av {B:Nat} {ev:Nat→Addr} (pz:Nat) (mn lw hi:Int) (O:List (List Int)) (L:List Nd) (v:Nat) (k:Int) (u:Bool) (w:World) (hE:qM B ev w) (h:jK B w pz mn lw hi O L) (hv:v<L.length) (hk:k<0∨6<k):
 Calls Tryz.prog 27 #[.pointer (some ⟨pz,0,none⟩),.int .i64 v,.int .i64 k,.bool u] w fun e w'=>e= .returned (.tuple #[plV (0,0,0),jB ev 2])∧Below w.heap.size w w':=by
 have hB:=hE.size
 have hb0:Below w.heap.size w ((w.alloc (.cells #[.int .i64 k] 3)).alloc (.cells #[.int .i64 0,.int .i64 0,.int .i64 0] 61)):=iB
 have NO:=ah (xM pz mn lw hi O L v _ (h.below hb0) hv)
 have L0:=ah ((iy.mk_ w [.int .i64 k] 3 rfl).past (.cells #[.int .i64 0,.int .i64 0,.int .i64 0] 61))
 have L1:=ah (iy.mk_ (w.alloc (.cells #[.int .i64 k] 3)) [.int .i64 0,.int .i64 0,.int .i64 0] 61 (b:=w.heap.size+1) sI)
 have e1:jB ev 2= .iface 434 (.pointer (some (ev 2))):=rfl
 have SZ:Hid (∀W,Below w.heap.size w W→Calls Tryz.prog 121 #[.int .i64 k] W fun e w'=>e= .returned (.tuple #[.int .i64 0,jB ev 2])∧Below W.heap.size W w'):=fun W hb=>size_no k W (hE.c.below (hb.mono hB)) hk
 rw[e1] at SZ ⊢
 clear h hv hE e1 hb0
 go_enter Tryz.func27,Tryz.ntmps27
 go_wp2_with fail
 refine NO.out.mono ?_
 rintro e w1 ⟨rfl,hb1⟩
 have P:=L0.out.go hb1
 have p0:=P.c 0 _ rfl;have pl:=P.lt
 have M:=ah (L1.out.go hb1)
 clear P NO L0 L1
 go_wp2_with fail
 refine(SZ.out _ iB).mono ?_
 rintro e w2 ⟨rfl,hb2⟩
 have M2:=M.out.go hb2
 have m0:=M2.c 0 _ rfl;have m1:=M2.c 1 _ rfl;have m2:=M2.c 2 _ rfl;have f0:=M2.f 0 sI;have f1:=M2.f 1 sI;have f2:=M2.f 2 sI;have ml:=M2.lt
 have HM:=ah (M2.qj (.int .i64 0) (.int .i64 0) (.int .i64 0))
 clear M2 SZ M p0
 have z1:=hb1.size;simp at z1
 go_wp2
 have x0:=HM.out.c 0 _ rfl;have x1:=HM.out.c 1 _ rfl;have x2:=HM.out.c 2 _ rfl
 exact bodyPost_ret (v:=.tuple #[.agg #[.int .i64 0,.int .i64 0,.int .i64 0],.iface 434 (.pointer (some (ev 2)))]) (by simp[x0,x1,x2,results,fJ,go_sem]) rfl ⟨rfl,iB⟩
theorem jK.row {B:Nat} {w:World} {pz:Nat} {mn lw hi:Int} {O:List (List Int)} {L:List Nd} (h:jK B w pz mn lw hi O L) {v:Nat} {D:List Int} (hD:O[v]?=some D) (hD0:0<D.length):
 ∃g off kn gO oO ko gD oD kD,iy w pz [.slice none 0 0,.slice none 0 0,.int .i64 mn,.int .i64 lw,.int .i64 hi,.slice (some ⟨g,off,none⟩) L.length kn,.slice (some ⟨gO,oO,none⟩) L.length ko]∧(g∉ys L∧g<w.heap.size)∧(gO∉ys L∧gO<w.heap.size)∧(gD∉ys L∧gD<w.heap.size)∧(L.length≤kn∧kn≤maxLen)∧(L.length≤ko∧ko≤maxLen)∧(D.length≤kD∧kD≤maxLen)∧
  (∀j y,L[j]?=some y→w.cell? ⟨g,off+j,none⟩=some (.pointer (some ⟨y.pb,0,none⟩)))∧w.cell? ⟨gO,oO+v,none⟩=some (.slice (some ⟨gD,oD,none⟩) D.length kD)∧∀t z,D[t]?=some z→w.cell? ⟨gD,oD+t,none⟩=some (.int .i64 z):=by
 have hl:v<L.length:=by rw[←h.ord.1];exact(aj.1 hD).1
 obtain⟨g,off,kn,qo,ko,hz,hg,hgl,hk1,hk2,hc,hr⟩:=h.open om
 obtain⟨p,cap,e,hc1,hc2,hn⟩:=hr.form
 rw[h.ord.1] at e hc1
 injection e with e1 e2 e3
 subst e1 e3
 obtain⟨gO,oO,u,rfl,hgO,hgOl,hcu,hu⟩:=hn v D hD
 obtain⟨pD,kD,rfl,hkD,hmD,hcD⟩:=hu.int
 obtain⟨x,hx⟩: ∃x,D[0]?=some x:=⟨D[0],au hD0⟩
 obtain⟨gD,oD,rfl,hgD,hgDl,_⟩:=hcD 0 x hx
 refine⟨g,off,kn,gO,oO,ko,gD,oD,kD,hz,⟨hg,hgl⟩,⟨hgO,hgOl⟩,⟨hgD,hgDl⟩,⟨hk1,hk2⟩,⟨hc1,hc2⟩,⟨hkD,hmD⟩,hc,hcu,fun t z ht=> ?_⟩
 obtain⟨g',o',e,_,_,q⟩:=hcD t z ht
 injection e with e;injection e with ea eb
 subst ea eb
 exact q
theorem nY {α:Type} {D:List α} {t:Nat} {z:α} {P:α→Prop} (h: ∀y∈D.take t,P y) (hz:D[t]?=some z) (hp:P z): ∀y∈D.take (t+1),P y:=by
 rw[bH,hz]
 intro y hy
 simp at hy
 rcases hy with hy|rfl
 ·exact h y hy
 ·exact hp
def xP (B:Nat) (ev:Nat→Addr) (pz:Nat) (mn lw hi:Int) (O:List (List Int)) (L:List Nd) (w:World) (r:List Nd×Nat×Pl) (e:Ending) (w':World):Prop:=
 e= .returned (.tuple #[plV r.2.2,jB ev r.2.1])∧jK B w' pz mn lw hi O r.1∧Keep (ys L) w w'
theorem zhit {B:Nat} {ev:Nat→Addr} {pz:Nat} {mn lw hi:Int} {O:List (List Int)} {L:List Nd} {r:List Nd×Nat×Pl} {w w3 w4:World} {k:Int} {zn:Nat} {x:Nd} {b:Int×Int} (hr:r=(L.set (zn:Int).toNat (qF k b x),0,((zn:Int),b.1,k)))
 (h:jK B w pz mn lw hi O L) (hx:L[zn]?=some x) (hI:Inv x.n (nL k b x.F) (kM b.1 k x.T)) (hb:Bud w3 x.pb x.n x.bf x.bt (nL k b x.F) (kM b.1 k x.T)) (h3:Keep [x.bf,x.bt] w w3) (h4:Keep [x.bf,x.bt] w w4) {c1 c2:Nat} (h34:Keep [c1,c2] w3 w4) (hc1:w.heap.size≤c1) (hc2:w.heap.size≤c2):
 xP B ev pz mn lw hi O L w r (.returned (.tuple #[plV ((zn:Int),b.1,k),.nilIface])) w4:=by
 have hxm:=aB hx
 have b0:=h.b.bud x hxm
 have e1:=b0.1.ltp;have e2:=b0.1.ltf;have e3:=b0.1.ltt
 have hb4:Bud w4 x.pb x.n x.bf x.bt (nL k b x.F) (kM b.1 k x.T):=hb.keep h34 (by simp;omega) (by simp;omega) (by simp;omega)
 obtain⟨q1,q2⟩:=jK.keep (S:=[]) h hx hb4 hI h4
 subst hr
 exact⟨rfl,by rw[bJ];exact q1,q2⟩
theorem D6 {B:Nat} {ev:Nat→Addr} (pz:Nat) (mn lw hi:Int) (O:List (List Int)) (L:List Nd) (v:Nat) (k:Int) (u:Bool) (w:World) (hE:qM B ev w) (h:jK B w pz mn lw hi O L) (hv:v<L.length) (k0:0≤k) (k6:k≤6):
 Calls Tryz.prog 27 #[.pointer (some ⟨pz,0,none⟩),.int .i64 v,.int .i64 k,.bool u] w (xP B ev pz mn lw hi O L w (j4 mn O L v k u)):=by
 have hB:=hE.size
 obtain⟨D,hD,hDl,hDm⟩:=h.ord.get hv
 have hn0:0<D.length:=om
 have hnn: ¬((v:Int)<0∨(L.length:Int)≤(v:Int)∨k<0∨6<k):=om
 have TNO:Hid (qV mn k u L D=none→j4 mn O L v k u=(L,xJ k L,(0,0,0))):=fun hp=>xK hnn (by simpa using hD) hp
 have TYES:Hid (∀(j:Int) (x:Nd) (b:Int×Int),qV mn k u L D=some j→L[j.toNat]?=some x→jE k x.F=some b→j4 mn O L v k u=(L.set j.toNat (qF k b x),0,(j,b.1,k))):=fun j x b hp hx hb=>uR hnn (by simpa using hD) hp hx hb
 have hb0:Below w.heap.size w ((w.alloc (.cells #[.int .i64 k] 3)).alloc (.cells #[.int .i64 0,.int .i64 0,.int .i64 0] 61)):=iB
 have NO:=ah (xM pz mn lw hi O L v _ (h.below hb0) hv)
 have L0:=ah ((iy.mk_ w [.int .i64 k] 3 rfl).past (.cells #[.int .i64 0,.int .i64 0,.int .i64 0] 61))
 have L1:=ah (iy.mk_ (w.alloc (.cells #[.int .i64 k] 3)) [.int .i64 0,.int .i64 0,.int .i64 0] 61 (b:=w.heap.size+1) sI)
 have HH:=ah h;have HD:=ah hD;have HDM:=ah hDm;have HDL:=ah hDl;have HB0:=ah hb0
 have hs:=qA k0 k6
 obtain⟨n,hn⟩: ∃n,n=L.length:=⟨_,rfl⟩
 clear h hb0 hD hDm hDl hnn
 go_enter Tryz.func27,Tryz.ntmps27
 go_wp2_with fail
 refine NO.out.mono ?_
 rintro e w1 ⟨rfl,hb1⟩
 have K1:Below w.heap.size w w1:=HB0.out.trans (hb1.mono (by simp;omega))
 have h1:=HH.out.below K1
 obtain⟨g,off,kn,gO,oO,ko,gD,oD,kD,hz,⟨gy,gl⟩,⟨gOy,gOl⟩,⟨gDy,gDl⟩,⟨ka,kb⟩,⟨kc,kd⟩,⟨ke,kf⟩,hc,hcu,hcD⟩:=h1.row HD.out hn0
 have c5:=hz.c 5 _ rfl;have c6:=hz.c 6 _ rfl;have cl:=hz.lt
 have P:=L0.out.go hb1
 have p0:=P.c 0 _ rfl;have pl:=P.lt
 have HP:=ah P;have HM:=ah (L1.out.go hb1);have HZ:=ah hz;have HC:=ah hc;have HCD:=ah hcD
 have ml:=HM.out.lt
 have H1:=ah h1
 unfold maxLen at kb kd kf
 clear P NO L0 L1 hz hc hcD h1 HB0
 go_wp2_with (go_at_call 121;refine(xC _ _ ⟨k0,k6⟩).mono ?_;rintro e w' ⟨rfl,rfl⟩)
 go_loopw [43] (fun iv wr=>∃t:Nat,t≤D.length∧iv= .int .i64 t∧Hid (∀z∈D.take t,vZ mn k u L z=false)∧Below w1.heap.size w1 wr) (fun iv _=>D.length-(intOf iv).toNat)
 case atStart=>exact⟨0,aO _,by go_num,(show∀z∈D.take 0,vZ mn k u L z=false from sI),aJ _ _⟩
 case round=>
  obtain⟨t,ht,rfl,NOK,hbel⟩:=hrel
  have zr:=hbel.size
  have KR:Below w.heap.size w wr:=K1.trans (hbel.mono (by have:=K1.size;omega))
  by_cases hlt:t<D.length
  ·obtain⟨z,hz⟩: ∃z,D[t]?=some z:=⟨D[t],au hlt⟩
   have hzm:=(HDM.out z).1 (aB hz)
   obtain⟨zn,rfl⟩: ∃zn:Nat,z=zn:=⟨z.toNat,om⟩
   obtain⟨x,hx⟩: ∃x,L[zn]?=some x:=⟨L[zn]' om,au _⟩
   have r0:=(hbel.cell (p:=⟨gD,oD+t,none⟩) gDl).trans (HCD.out t _ hz)
   have q0:=(HP.out.go hbel).c 0 _ rfl
   have ql:=(HP.out.go hbel).lt
   have wh:=HH.out.below KR
   have MAY:=ah (may_any pz mn lw hi O L zn x k u wr wh hx k0 k6)
   have HX:=ah hx;have HZT:=ah hz
   have gr:gD<wr.heap.size:=om
   cases hmay:mayN mn k u x with
   |false=>
    rw[hmay] at MAY
    have hno:vZ mn k u L (zn:Int)=false:=by unfold vZ;rw[bJ,hx];simp[okN,hmay]
    have NOK2:=ah (nY NOK.out hz hno)
    clear hz hx wh hno hmay
    go_wp2_with fail
    refine MAY.out.mono ?_
    rintro e w2 ⟨rfl,hb2⟩
    go_wp2
    go_roundw
    case rel=>exact⟨t+1,om,by go_num,NOK2,hbel.trans (hb2.mono zr)⟩
    case measure=>simp[intOf];omega
   |true=>
    rw[hmay] at MAY
    have hI:=(wh.b.bud x (aB hx)).2
    have hxm:=aB hx
    have hbfl:=wh.b.lim x.bf (oJ.2 ⟨x,hxm,.inl rfl⟩)
    have hbtl:=wh.b.lim x.bt (oJ.2 ⟨x,hxm,.inr rfl⟩)
    have hbf0:=HH.out.b.lim x.bf (oJ.2 ⟨x,hxm,.inl rfl⟩)
    have hbt0:=HH.out.b.lim x.bt (oJ.2 ⟨x,hxm,.inr rfl⟩)
    have cz:Hid (∀W,Keep [x.bf,x.bt] wr W→W.cell? ⟨pz,5,none⟩=some (.slice (some ⟨g,off,none⟩) L.length kn)):=fun W q=>(((HZ.out.go hbel).keep q (by have:=H1.out.out;intro e;apply this;simp at e;exact oJ.2 ⟨x,hxm,e⟩)).c 5 _ rfl)
    have cr:Hid (∀W,Keep [x.bf,x.bt] wr W→W.cell? ⟨g,off+zn,none⟩=some (.pointer (some ⟨x.pb,0,none⟩))):=fun W q=>(q.cell om (by intro e;apply gy;simp at e;exact oJ.2 ⟨x,hxm,e⟩)).trans ((hbel.cell (p:=⟨g,off+zn,none⟩) gl).trans (HC.out zn x hx))
    have cp:Hid (∀W,Keep [x.bf,x.bt] wr W→W.cell? ⟨w.heap.size,0,none⟩=some (.int .i64 k)):=fun W q=>((HP.out.go hbel).keep q (by simp;omega)).c 0 _ rfl
    have c8:Hid (∀W,Keep [x.bf,x.bt] wr W→iy W (w.heap.size+1) [.int .i64 0,.int .i64 0,.int .i64 0]):=fun W q=>(HM.out.go hbel).keep q (by simp;omega)
    have uV:=(wh.b.bud x hxm).1
    have HBUD:=ah uV
    have z5:wr.heap.size≤wr.heap.size:=aI _
    have HER:Hid (qM B ev wr):=hE.go KR
    have HI:=ah hI
    clear wh hI uV
    cases hbb:jE k x.F with
    |none=>
     have TF:Hid (∀W,Keep [] wr W→Calls Tryz.prog 123 #[.pointer (some ⟨x.pb,0,none⟩),.int .i64 k] W fun e w'=>e= .returned (.tuple #[.agg #[.int .i64 0,.int .i64 0],.iface 434 (.pointer (some (ev 5)))])∧Below W.heap.size W w'):=fun W q=>F7 x.pb x.n x.bf x.bt x.F x.T k W (HER.out.go q.qP).d (HBUD.out.keep q sI sI sI) k0 k6 hbb
     have hno:vZ mn k u L (zn:Int)=false:=by unfold vZ;rw[bJ,hx];simp[okN,hmay,hbb]
     have NOK2:=ah (nY NOK.out hz hno)
     clear hz hx hno hbb hmay HBUD HER
     go_wp2_with fail
     refine MAY.out.mono ?_
     rintro e w2 ⟨rfl,hb2⟩
     have k2:Keep [] wr w2:=Keep.of hb2
     have a1:=cz.out w2 k2.wide;have a2:=cr.out w2 k2.wide;have a3:=cp.out w2 k2.wide
     have HK2:=ah k2
     have z2:=hb2.size
     have ne1: ¬(w2.heap.size=pz):=om
     have ne2: ¬(w2.heap.size=g):=om
     have ne3: ¬(w2.heap.size=w.heap.size):=om
     have ne1': ¬(pz=w2.heap.size):=om
     have ne2': ¬(g=w2.heap.size):=om
     have ne3': ¬(w.heap.size=w2.heap.size):=om
     clear MAY k2 r0 q0
     go_wp2_with fail
     go_region_held3 (fun w'=>w'.cell? ⟨pz,5,none⟩=some (.slice (some ⟨g,off,none⟩) L.length kn)∧w'.cell? ⟨g,off+zn,none⟩=some (.pointer (some ⟨x.pb,0,none⟩))∧w'.cell? ⟨w.heap.size,0,none⟩=some (.int .i64 k)) (go_keep) (first
      |(go_at_call 123;refine(TF.out _ ?_).mono ?_;(repeat(first|exact HK2.out|refine Keep.alloc ?_ _|refine Keep.drew ?_|refine Keep.drewN ?_ _|refine Keep.setCell ?_ (.inr (by first|omega|(simp;omega)|(simp;done))) _));rintro e w3 ⟨rfl,hb3⟩;have k3':Keep [] wr w3:=(by refine Keep.stepW ?_ hb3;(repeat(first|exact HK2.out|refine Keep.alloc ?_ _|refine Keep.drew ?_|refine Keep.drewN ?_ _|refine Keep.setCell ?_ (.inr (by first|omega|(simp;omega)|(simp;done))) _)));have k3:Keep [x.bf,x.bt] wr w3:=k3'.wide;have z3:=k3'.size;have b1:=cz.out w3 k3;have b2:=cr.out w3 k3;have b3:=cp.out w3 k3;(first|(have PN:=((iy.mk_ w2 [.int .i64 0,.int .i64 0] 59 rfl).jF).go hb3;have n0:=PN.c 0 _ rfl;have n1:=PN.c 1 _ rfl;have nf0:=PN.f 0 sI;have nf1:=PN.f 1 sI;have nl:=PN.lt;clear PN)|skip)))
     all_goals
      go_wp2
      go_roundw
      case rel=>exact⟨t+1,om,by go_num,NOK2,hbel.trans ((Keep.qP (by repeat(first|exact k3'|refine Keep.alloc ?_ _|refine Keep.drew ?_|refine Keep.drewN ?_ _|refine Keep.setCell ?_ (.inr (by first|omega|(simp;omega)|(simp;done))) _))).mono zr)⟩
      case measure=>simp[intOf];omega
    |some b=>
     have hpick:qV mn k u L D=some (zn:Int):=Ah NOK.out hz (by unfold vZ;rw[bJ,hx];simp[okN,hmay,hbb])
     have TT:=ah (TYES.out (zn:Int) x b hpick (by rw[bJ];exact hx) hbb)
     have TK:Hid (∀W,Keep [] wr W→Calls Tryz.prog 123 #[.pointer (some ⟨x.pb,0,none⟩),.int .i64 k] W fun e w'=>e= .returned (.tuple #[.agg #[.int .i64 b.1,.int .i64 k],.nilIface])∧Bud w' x.pb x.n x.bf x.bt (nL k b x.F) (kM b.1 k x.T)∧Keep [x.bf,x.bt] W w'):=fun W q=>take_ok x.pb x.n x.bf x.bt x.F x.T k b W (HER.out.go q.qP).c hbfl.1 (HBUD.out.keep q sI sI sI) HI.out k0 k6 hbb
     have HBB:=ah hbb
     have HIT:=ah (HI.out.take k0 hbb)
     obtain⟨b1,b2⟩:=b
     simp only at TK TT
     clear hz hx hbb hmay HER hpick
     go_wp2_with fail
     refine MAY.out.mono ?_
     rintro e w2 ⟨rfl,hb2⟩
     have k2:Keep [] wr w2:=Keep.of hb2
     have a1:=cz.out w2 k2.wide;have a2:=cr.out w2 k2.wide;have a3:=cp.out w2 k2.wide
     have HK2:=ah k2
     have z2:=hb2.size
     have ne1: ¬(w2.heap.size=pz):=om
     have ne2: ¬(w2.heap.size=g):=om
     have ne3: ¬(w2.heap.size=w.heap.size):=om
     have ne4: ¬(w2.heap.size=w.heap.size+1):=om
     have ne1': ¬(pz=w2.heap.size):=om
     have ne2': ¬(g=w2.heap.size):=om
     have ne3': ¬(w.heap.size=w2.heap.size):=om
     have ne4': ¬(w.heap.size+1=w2.heap.size):=om
     have NB:Hid (w2.heap.size∉[x.bf,x.bt]):=by show _∉_;simp;omega
     clear MAY k2 r0 q0
     go_wp2_with fail
     go_region_held3 (fun w'=>w'.cell? ⟨pz,5,none⟩=some (.slice (some ⟨g,off,none⟩) L.length kn)∧w'.cell? ⟨g,off+zn,none⟩=some (.pointer (some ⟨x.pb,0,none⟩))∧w'.cell? ⟨w.heap.size,0,none⟩=some (.int .i64 k)) (go_keep) (first
      |(go_at_call 123;refine(TK.out _ ?_).mono ?_;(repeat(first|exact HK2.out|refine Keep.alloc ?_ _|refine Keep.drew ?_|refine Keep.drewN ?_ _|refine Keep.setCell ?_ (.inr (by first|omega|(simp;omega)|(simp;done))) _));rintro e w3 ⟨rfl,hbd3,hk3⟩;have k3:Keep [x.bf,x.bt] wr w3:=(by refine Keep.thenW ?_ hk3;(repeat(first|exact HK2.out|refine Keep.alloc ?_ _|refine Keep.drew ?_|refine Keep.drewN ?_ _|refine Keep.setCell ?_ (.inr (by first|omega|(simp;omega)|(simp;done))) _)));have BD3:=ah hbd3;have y1:=cz.out w3 k3;have y2:=cr.out w3 k3;have y3:=cp.out w3 k3;(first|(have PN:=((iy.mk_ w2 [.int .i64 0,.int .i64 0] 59 rfl).jF).keep hk3 NB.out;have n0:=PN.c 0 _ rfl;have n1:=PN.c 1 _ rfl;have nf0:=PN.f 0 sI;have nf1:=PN.f 1 sI;have nl:=PN.lt;clear PN)|skip);have M8:=c8.out w3 k3;have m0:=M8.c 0 _ rfl;have m1:=M8.c 1 _ rfl;have m2:=M8.c 2 _ rfl;have f0:=M8.f 0 sI;have f1:=M8.f 1 sI;have f2:=M8.f 2 sI;have ml8:=M8.lt;have HM8:=ah M8;clear M8 hbd3))
     ·have k03:Keep [x.bf,x.bt] w w3:=(Keep.of KR).then k3
      have z03:=k03.size
      go_wp2
      have LF:=(HM8.out.qj (.int .i64 zn) (.int .i64 b1) (.int .i64 k)).past (.cells #[.int .i64 b1,.int .i64 k] 59)
      have e0:=LF.c 0 _ rfl;have e1:=LF.c 1 _ rfl;have e2:=LF.c 2 _ rfl
      refine bodyPost_ret (v:=.tuple #[plV (zn,b1,k),.nilIface]) (by simp[e0,e1,e2,results,fJ,go_sem,plV]) rfl ?_
      refine zhit (c1:=w.heap.size+1) (c2:=w2.heap.size) (TT.out) HH.out HX.out HIT.out BD3.out k03 (by repeat(first|exact k03|refine Keep.alloc ?_ _|refine Keep.drew ?_|refine Keep.drewN ?_ _|refine Keep.setCell ?_ (.inr (by first|omega|(simp;omega)|(simp;done))) _)) ?_ om om
      refine Keep.trans (S':=[w.heap.size+1,w2.heap.size]) (Keep.refl _ _) ?_ (fun s hs=>.inl hs)
      repeat(first|exact Keep.refl _ _|refine Keep.alloc ?_ _|refine Keep.setCell ?_ (.inl sI) _)
     ·have k03:Keep [x.bf,x.bt] w w3:=(Keep.of KR).then k3
      have z03:=k03.size
      go_wp2
      have LF:=((HM8.out.far ne4 0 (.int .i64 b1)).far ne4 1 (.int .i64 k)).qj (.int .i64 zn) (.int .i64 b1) (.int .i64 k)
      have e0:=LF.c 0 _ rfl;have e1:=LF.c 1 _ rfl;have e2:=LF.c 2 _ rfl
      refine bodyPost_ret (v:=.tuple #[plV (zn,b1,k),.nilIface]) (by simp[e0,e1,e2,results,fJ,go_sem,plV]) rfl ?_
      refine zhit (c1:=w.heap.size+1) (c2:=w2.heap.size) (TT.out) HH.out HX.out HIT.out BD3.out k03 (by repeat(first|exact k03|refine Keep.alloc ?_ _|refine Keep.drew ?_|refine Keep.drewN ?_ _|refine Keep.setCell ?_ (.inr (by first|omega|(simp;omega)|(simp;done))) _)) ?_ om om
      refine Keep.trans (S':=[w.heap.size+1,w2.heap.size]) (Keep.refl _ _) ?_ (fun s hs=>.inl hs)
      repeat(first|exact Keep.refl _ _|refine Keep.alloc ?_ _|refine Keep.setCell ?_ (.inl sI) _)
  ·have et:t=D.length:=by omega
   subst et
   have hp:qV mn k u L D=none:=ES (fun z hz=>NOK.out z (by rw[bF];exact hz))
   have TT:=ah (TNO.out hp)
   clear hp NOK
   obtain⟨wo,rfl⟩: ∃wo:World,wo=wr:=⟨_,rfl⟩
   have q5:=(HZ.out.go hbel).c 5 _ rfl
   have hmf: ∀(fn:Fn) (first cap:Array Value) (w:World),(Instr.makeFunc fn first cap).run Tryz.prog w= .ok (.func fn first cap) w:=fun _ _ _ _=>rfl
   have pzl:pz<wo.heap.size:=om
   go_wp2_with fail
   go_loopw [75] (fun iv wr=>∃t:Nat,t≤L.length∧iv= .int .i64 t∧Hid (∀y∈L.take t,qX k y=false)∧Below wo.heap.size wo wr) (fun iv _=>L.length-(intOf iv).toNat)
   case atStart=>exact⟨0,aO _,by go_num,(show∀z∈L.take 0,qX k z=false from sI),aJ _ _⟩
   case round=>
    obtain⟨t,ht,rfl,NOS,hbl2⟩:=hrel
    have zr2:=hbl2.size
    have KR2:Below w.heap.size w wr:=KR.trans (hbl2.mono KR.size)
    have M8:=ah ((HM.out.go hbel).go hbl2)
    by_cases hlt:t<L.length
    ·obtain⟨y,hy⟩: ∃y,L[t]?=some y:=⟨L[t],au hlt⟩
     have wh:=HH.out.below KR2
     have uV:=(wh.b.bud y (aB hy)).1
     have FR:=ah (Eo y.pb y.n y.bf y.bt y.F y.T wr uV)
     have r0:=(hbl2.cell (p:=⟨g,off+t,none⟩) (show g<wo.heap.size by omega)).trans ((hbel.cell (p:=⟨g,off+t,none⟩) gl).trans (HC.out t y hy))
     have gr:g<wr.heap.size:=om
     have HY:=ah hy
     have PP:=ah ((HP.out.go hbel).go hbl2)
     clear wh uV hy
     go_wp2_with fail
     refine FR.out.mono ?_
     rintro e w3 ⟨vF,rfl,hown⟩
     have hb3:=hown.2
     have z3:=hb3.size
     have hrow:yt 0 w3 vF y.F:=hown.Eh.mono (aO _)
     have CF:=ah (EA vF y.F k w.heap.size w3 hrow ((PP.out.go hb3).c 0 _ rfl) (PP.out.go hb3).lt)
     have es:y.F.any (uO k)=qX k y:=rfl
     rw[es] at CF
     have M3:=ah (M8.out.go hb3)
     clear FR r0 hrow es hown PP
     cases hs:qX k y with
     |false=>
      rw[hs] at CF
      have NOS2:=ah (nY NOS.out HY.out hs)
      clear hs
      go_wp2_with fail
      refine CF.out.mono ?_
      rintro e w4 ⟨rfl,hb4⟩
      go_wp2
      go_roundw
      case rel=>exact⟨t+1,om,by go_num,NOS2,hbl2.trans ((hb3.mono zr2).trans (hb4.mono om))⟩
      case measure=>simp[intOf];omega
     |true=>
      rw[hs] at CF
      have hlow:xJ k L=7:=by unfold xJ;rw[if_pos (dR.2 ⟨y,aB HY.out,hs⟩)]
      clear hs
      go_wp2_with fail
      refine CF.out.mono ?_
      rintro e w4 ⟨rfl,hb4⟩
      have z4:=hb4.size
      have K4:Below w.heap.size w w4:=KR2.trans ((hb3.mono KR2.size).trans (hb4.mono (by have:=KR2.size;omega)))
      have E4:=hE.go K4
      have c7:=E4.c7
      have l7:=hE.l7
      have ne7: ¬(w.heap.size+1=3):=om
      have ne7': ¬(3=w.heap.size+1):=om
      have M4:=M3.out.go hb4
      have m0:=M4.c 0 _ rfl;have m1:=M4.c 1 _ rfl;have m2:=M4.c 2 _ rfl;have f0:=M4.f 0 sI;have f1:=M4.f 1 sI;have f2:=M4.f 2 sI;have ml8:=M4.lt
      have LF:=ah (M4.qj (.int .i64 0) (.int .i64 0) (.int .i64 0))
      have HLOW:=ah hlow
      clear M4 E4 hlow CF
      go_wp2
      go_region
      all_goals go_wp2
      all_goals
       have e0:=LF.out.c 0 _ rfl;have e1:=LF.out.c 1 _ rfl;have e2:=LF.out.c 2 _ rfl
       refine bodyPost_ret (v:=.tuple #[plV (0,0,0),jB ev 7]) (by simp[e0,e1,e2,results,fJ,go_sem,plV]) rfl ?_
       rw[TT.out,HLOW.out]
       refine⟨rfl,HH.out.below (show Below w.heap.size w _ from ?_),Keep.of ?_⟩
       all_goals (exact Keep.qP (by repeat(first|exact Keep.of K4|refine Keep.alloc ?_ _|refine Keep.drew ?_|refine Keep.drewN ?_ _|refine Keep.setCell ?_ (.inr (by first|omega|(simp;omega)|(simp;done))) _)))
    ·have et:t=L.length:=by omega
     subst et
     have hlow:xJ k L=5:=by
      unfold xJ
      rw[if_neg]
      intro q
      obtain⟨y,hy,hs⟩:=dR.1 q
      rw[NOS.out y (by rw[bF];exact hy)] at hs
      cases hs
     have E4:=(hE.go KR2).d
     have c7:=E4.c5
     have l7:=hE.d.l5
     have ne7: ¬(w.heap.size+1=4):=om
     have ne7': ¬(4=w.heap.size+1):=om
     have M4:=M8.out
     have m0:=M4.c 0 _ rfl;have m1:=M4.c 1 _ rfl;have m2:=M4.c 2 _ rfl;have f0:=M4.f 0 sI;have f1:=M4.f 1 sI;have f2:=M4.f 2 sI;have ml8:=M4.lt
     have LF:=ah (M4.qj (.int .i64 0) (.int .i64 0) (.int .i64 0))
     have HLOW:=ah hlow
     clear M4 E4 hlow
     go_wp2
     go_region
     all_goals go_wp2
     all_goals
      have e0:=LF.out.c 0 _ rfl;have e1:=LF.out.c 1 _ rfl;have e2:=LF.out.c 2 _ rfl
      refine bodyPost_ret (v:=.tuple #[plV (0,0,0),jB ev 5]) (by simp[e0,e1,e2,results,fJ,go_sem,plV]) rfl ?_
      rw[TT.out,HLOW.out]
      refine⟨rfl,HH.out.below (show Below w.heap.size w _ from ?_),Keep.of ?_⟩
      all_goals (exact Keep.qP (by repeat(first|exact Keep.of KR2|refine Keep.alloc ?_ _|refine Keep.drew ?_|refine Keep.drewN ?_ _|refine Keep.setCell ?_ (.inr (by first|omega|(simp;omega)|(simp;done))) _)))
theorem yT {B:Nat} {ev:Nat→Addr} (pz:Nat) (mn lw hi:Int) (O:List (List Int)) (L:List Nd) (v k:Int) (u:Bool) (w:World) (hE:qM B ev w) (h:jK B w pz mn lw hi O L) (hL:0<L.length):
 Calls Tryz.prog 27 #[.pointer (some ⟨pz,0,none⟩),.int .i64 v,.int .i64 k,.bool u] w (xP B ev pz mn lw hi O L w (j4 mn O L v k u)):=by
 by_cases hv:v<0∨(L.length:Int)≤v
 ·refine(D5 pz mn lw hi O L v k u w hE h hL hv).mono fun e w' ⟨h1,h2⟩=> ?_
  rw[uQ om]
  exact⟨h1,h.below h2,Keep.of h2⟩
 ·obtain⟨n,rfl⟩: ∃n:Nat,v=n:=⟨v.toNat,om⟩
  by_cases hk:k<0∨6<k
  ·refine(Av pz mn lw hi O L n k u w hE h om hk).mono fun e w' ⟨h1,h2⟩=> ?_
   rw[uQ om]
   exact⟨h1,h.below h2,Keep.of h2⟩
  ·exact D6 pz mn lw hi O L n k u w hE h om om om
end
section
open Go.RowKit Go.Maps
def GivePost (B:Nat) (ev:Nat→Addr) (pz:Nat) (mn lw hi:Int) (O:List (List Int)) (L:List Nd) (w:World) (r:List Nd×Nat) (e:Ending) (w':World):Prop:=
 e= .returned (jB ev r.2)∧jK B w' pz mn lw hi O r.1∧Keep (ys L) w w'
end
section
open Go.RowKit Go.Maps
structure q9 (X:List Nat) (B:Nat) (w:World) (pz:Nat) (mn lw hi:Int) (O:List (List Int)) (L:List Nd):Prop where
 z: ∃qn kn qo ko,iy w pz [.slice none 0 0,.slice none 0 0,.int .i64 mn,.int .i64 lw,.int .i64 hi,.slice qn L.length kn,.slice qo L.length ko]∧jT X w (.slice qn L.length kn) (ptrs L)∧uN X w (.slice qo L.length ko) O
 b:zX B w L
 mem: ∀y∈ys L,y∈X
 out:pz∉X
 outb: ∀x∈L,x.pb∉X
 ord:vV O L.length
 m0:0≤mn∧mn≤lw∧lw≤hi∧hi≤9223372036854775807
theorem uN.sub {X Y:List Nat} {w:World} {v:Value} {N:List (List Int)} (h:uN Y w v N) (hX: ∀x∈X,x∈Y):uN X w v N:=by
 obtain⟨us,h1,h2,h3⟩:=h
 exact⟨us,h1,h2.sub hX,fun j u xs hu hx=>(h3 j u xs hu hx).sub hX⟩
section
variable {X Y S:List Nat} {B:Nat} {w w':World} {pz:Nat} {mn lw hi:Int} {O:List (List Int)} {L L':List Nd}
theorem q9.toB (h:q9 X B w pz mn lw hi O L):jK B w pz mn lw hi O L:=by
 obtain⟨qn,kn,qo,ko,h1,h2,h3⟩:=h.z
 exact⟨⟨qn,kn,qo,ko,h1,h2.sub h.mem,h3.sub h.mem⟩,h.b,fun q=>h.out (h.mem _ q),h.ord,h.m0⟩
theorem jK.toX (h:jK B w pz mn lw hi O L):q9 (ys L) B w pz mn lw hi O L:=⟨h.z,h.b,fun _ q=>q,h.out,h.b.out,h.ord,h.m0⟩
theorem q9.keep (h:q9 X B w pz mn lw hi O L) (k:Keep S w w') (hs: ∀s∈S,(s∈X∧s∉ys L)∨w.heap.size≤s):q9 X B w' pz mn lw hi O L:=by
 obtain⟨qn,kn,qo,ko,h1,h2,h3⟩:=h.z
 have hX: ∀s∈S,s∈X∨w.heap.size≤s:=fun s q=>(hs s q).imp And.left id
 refine⟨⟨qn,kn,qo,ko,h1.keep k fun q=> ?_,h2.keep k hX,h3.keep k hX⟩,h.b.keep k fun x hx=>⟨fun q=> ?_,fun q=> ?_,fun q=> ?_⟩,h.mem,h.out,h.outb,h.ord,h.m0⟩
 ·rcases hX _ q with r|r
  ·exact h.out r
  ·have:=h1.lt;omega
 ·rcases hX _ q with r|r
  ·exact h.outb x hx r
  ·have:=(h.b.bud x hx).1.ltp;omega
 ·rcases hs _ q with r|r
  ·exact r.2 (oJ.2 ⟨x,hx,.inl rfl⟩)
  ·have:=(h.b.bud x hx).1.ltf;omega
 ·rcases hs _ q with r|r
  ·exact r.2 (oJ.2 ⟨x,hx,.inr rfl⟩)
  ·have:=(h.b.bud x hx).1.ltt;omega
theorem q9.below (h:q9 X B w pz mn lw hi O L) (k:Below w.heap.size w w'):q9 X B w' pz mn lw hi O L:=h.keep (Keep.of (S:=[]) k) (fun s q=>by cases q)
theorem q9.more (h:q9 X B w pz mn lw hi O L) (hX: ∀x∈X,x∈Y) (hY: ∀y∈Y,y∈X∨w.heap.size≤y):q9 Y B w pz mn lw hi O L:=by
 obtain⟨qn,kn,qo,ko,h1,h2,h3⟩:=h.z
 refine⟨⟨qn,kn,qo,ko,h1,h2.more hY,h3.more hY⟩,h.b,fun y hy=>hX y (h.mem y hy),fun q=> ?_,fun x hx q=> ?_,h.ord,h.m0⟩
 ·rcases hY _ q with r|r
  ·exact h.out r
  ·have:=h1.lt;omega
 ·rcases hY _ q with r|r
  ·exact h.outb x hx r
  ·have:=(h.b.bud x hx).1.ltp;omega
theorem q9.after (h:q9 X B w pz mn lw hi O L) (k:Keep (ys L) w w') (hb:jK B w' pz mn lw hi O L') (hs:l6 L L'):q9 X B w' pz mn lw hi O L':=by
 obtain⟨qn,kn,qo,ko,h1,h2,h3⟩:=h.z
 have ep:ptrs L'=ptrs L:=hs.map (fun x=>Value.pointer (some ⟨x.pb,0,none⟩)) fun x y q=>by rw[q.pb]
 have el:L'.length=L.length:=hs.1.symm
 refine⟨⟨qn,kn,qo,ko,by rw[el];exact h1.keep k (fun q=>h.out (h.mem _ q)),by rw[el,ep];exact h2.keep k (fun s q=>.inl (h.mem s q)),by rw[el];exact h3.keep k (fun s q=>.inl (h.mem s q))⟩,hb.b,by rw[hs.ys];exact h.mem,h.out,fun y hy=> ?_,hb.ord,h.m0⟩
 obtain⟨i,hi⟩:=bR hy
 have hl:=(aj.1 hi).1
 obtain⟨x,hx⟩: ∃x,L[i]?=some x:=⟨L[i]' om,au _⟩
 rw[(hs.2 i x y hx hi).pb]
 exact h.outb x (aB hx)
end
end
section
open Go.RowKit Go.Maps
def bools (T:List Bool):List Value:=T.map Value.bool
theorem jJ (T:List Bool):(bools T).length=T.length:=by simp[bools]
theorem jk {T:List Bool} {j:Nat} {b:Bool} (h:T[j]?=some b):(bools T)[j]?=some (.bool b):=by simp[bools,h]
theorem yU (T:List Bool) (k:Nat) (b:Bool):bools (T.set k b)=(bools T).set k (.bool b):=by simp[bools,List.map_set]
abbrev SA:=List (Nat×Nat)
def iW (A:SA):List Value:=A.map fun p=>.pointer (some ⟨p.1,0,none⟩)
theorem lq (A:SA):(iW A).length=A.length:=by simp[iW]
theorem uW {A:SA} {j:Nat} {p:Nat×Nat} (h:A[j]?=some p):(iW A)[j]?=some (.pointer (some ⟨p.1,0,none⟩)):=by simp[iW,h]
theorem uX (A:SA): ∀u∈iW A,u.oneCell'=true:=by
 intro u hu
 obtain⟨p,_,rfl⟩:=dA.1 hu
 rfl
theorem elSlab:El 198 208 (.pointer none) 8:=⟨dU,kR,rfl,om⟩
def jV (s:Sl) (gt:Nat):List Value:=[.int .i64 s.nd,.int .i64 s.pg,.int .i64 0,.slice (some ⟨gt,0,none⟩) s.T.length s.T.length,.int .i64 (iD s)]
def nQ (w:World) (p:Nat×Nat) (s:Sl):Prop:=iy w p.1 (jV s p.2)∧iy w p.2 (bools s.T)
def ay (A:SA):List Nat:=A.flatMap fun p=>[p.1,p.2]
theorem lC {A:SA} {y:Nat}:y∈ay A↔∃p∈A,y=p.1∨y=p.2:=by simp[ay]
def cay (pc:Nat) (v:Value) (A:SA):List Nat:=pc::(iF v++ay A)
structure uY (X:List Nat) (B:Nat) (w:World) (pc pz e:Nat) (v:Value) (A:SA) (C:List Sl):Prop where
 c:iy w pc [.pointer (some ⟨pz,0,none⟩),.int .i64 e,v]
 row:w.ownsRow B 208 1 v C.length (iW A)
 len:A.length=C.length
 sl: ∀(i:Nat) (p:Nat×Nat) (s:Sl),A[i]?=some p→C[i]?=some s→nQ w p s
 mem: ∀y∈cay pc v A,y∈X
 nd:(cay pc v A).Nodup
 lim: ∀y∈cay pc v A,B≤y∧y<w.heap.size
section
variable {X Y S:List Nat} {B:Nat} {w w':World} {pc pz e:Nat} {v:Value} {A:SA} {C:List Sl}
theorem nQ.keep {p:Nat×Nat} {s:Sl} (h:nQ w p s) (k:Keep S w w') (h1:p.1∉S) (h2:p.2∉S):nQ w' p s:=⟨h.1.keep k h1,h.2.keep k h2⟩
theorem uY.keep (h:uY X B w pc pz e v A C) (k:Keep S w w') (hs: ∀s∈S,s∉cay pc v A):uY X B w' pc pz e v A C:=
 ⟨h.c.keep k (fun q=>hs _ q (by simp[cay])),iE h.row k (fun x hx q=>hs x hx (by simp[cay,q])),h.len,fun i p s hp hq=>(h.sl i p s hp hq).keep k (fun q=>hs _ q (by
   unfold cay;exact ak _ (aA _ (lC.2 ⟨p,aB hp,.inl rfl⟩)))) (fun q=>hs _ q (by
   unfold cay;exact ak _ (aA _ (lC.2 ⟨p,aB hp,.inr rfl⟩)))),h.mem,h.nd,fun y hy=>⟨(h.lim y hy).1,aF (h.lim y hy).2 k.size⟩⟩
theorem uY.below (h:uY X B w pc pz e v A C) (k:Below w.heap.size w w'):uY X B w' pc pz e v A C:=h.keep (Keep.of (S:=[]) k) (fun s q=>by cases q)
theorem uY.more (h:uY X B w pc pz e v A C) (hX: ∀x∈X,x∈Y):uY Y B w pc pz e v A C:=⟨h.c,h.row,h.len,h.sl,fun y hy=>hX y (h.mem y hy),h.nd,h.lim⟩
theorem uY.at (h:uY X B w pc pz e v A C) {i:Nat} {s:Sl} (hs:C[i]?=some s): ∃p,A[i]?=some p∧nQ w p s∧p.1∈cay pc v A∧p.2∈cay pc v A:=by
 have hl:=(aj.1 hs).1
 obtain⟨p,hp⟩: ∃p,A[i]?=some p:=⟨A[i]'(by rw[h.len];exact hl),au _⟩
 have hm:=aB hp
 exact⟨p,hp,h.sl i p s hp hs,ak _ (aA _ (lC.2 ⟨p,hm,.inl rfl⟩)),ak _ (aA _ (lC.2 ⟨p,hm,.inr rfl⟩))⟩
theorem uY.form (h:uY X B w pc pz e v A C): ∃q k,v= .slice q C.length k∧C.length≤k∧k≤maxLen∧∀j p,A[j]?=some p→∃g,q=some ⟨g,0,none⟩∧g<w.heap.size∧w.cell? ⟨g,j,none⟩=some (.pointer (some ⟨p.1,0,none⟩)):=by
 have ho:=h.row
 have hln:=h.len
 rcases h.row.2 with⟨rfl,h3⟩|⟨g,cap,cur,rfl,hg,hh,hcap,hmax,_⟩
 ·refine⟨none,0,by rw[h3],om,by unfold maxLen;omega,fun j p hj=> ?_⟩
  have:=(aj.1 hj).1
  omega
 ·refine⟨some ⟨g,0,none⟩,cap,rfl,hcap,hmax,fun j p hj=>⟨g,rfl,(ho.lt g rfl).2,?_⟩⟩
  have hlt:=(aj.1 hj).1
  rw[ho.cellAt j om]
  exact uW hj
theorem BP {A:SA} (h:(ay A).Nodup) {i j:Nat} {p r:Nat×Nat} (hp:A[i]?=some p) (hr:A[j]?=some r) (hne:i≠j):p.1≠r.1∧p.1≠r.2∧p.2≠r.1∧p.2≠r.2:=by
 induction A generalizing i j with
 |nil=>simp at hp
 |cons a A ih=>
  simp only[ay,gL] at h
  obtain⟨n1,n2,n3⟩:=cO.1 h
  cases i with
  |zero=>
   cases j with
   |zero=>omega
   |succ j=>
    simp at hp hr
    subst hp
    have hm:=aB hr
    have m1:r.1∈A.flatMap fun p=>[p.1,p.2]:=lC.2 ⟨r,hm,.inl rfl⟩
    have m2:r.2∈A.flatMap fun p=>[p.1,p.2]:=lC.2 ⟨r,hm,.inr rfl⟩
    exact⟨n3 _ sI _ m1,n3 _ sI _ m2,n3 _ sI _ m1,n3 _ sI _ m2⟩
  |succ i=>
   cases j with
   |zero=>
    simp at hp hr
    subst hr
    have hm:=aB hp
    have m1:p.1∈A.flatMap fun p=>[p.1,p.2]:=lC.2 ⟨p,hm,.inl rfl⟩
    have m2:p.2∈A.flatMap fun p=>[p.1,p.2]:=lC.2 ⟨p,hm,.inr rfl⟩
    exact⟨fun q=>n3 _ sI _ m1 q.symm,fun q=>n3 _ sI _ m1 q.symm,fun q=>n3 _ sI _ m2 q.symm,fun q=>n3 _ sI _ m2 q.symm⟩
   |succ j=>exact ih n2 (by simpa using hp) (by simpa using hr) om
theorem wT {A:SA} (h:(ay A).Nodup) {i:Nat} {p:Nat×Nat} (hp:A[i]?=some p):p.1≠p.2:=by
 induction A generalizing i with
 |nil=>simp at hp
 |cons a A ih=>
  simp only[ay,gL] at h
  obtain⟨n1,n2,_⟩:=cO.1 h
  cases i with
  |zero=>simp at hp;subst hp;simpa using n1
  |succ i=>exact ih n2 (by simpa using hp)
theorem uY.nday (h:uY X B w pc pz e v A C):(ay A).Nodup:=(cO.1 (aZ.1 h.nd).2).2.1
theorem uY.use (h:uY X B w pc pz e v A C) {i:Nat} {p:Nat×Nat} (hp:A[i]?=some p) {s:Sl} (hs:nQ w' p s) (k:Keep [p.1,p.2] w w'):uY X B w' pc pz e v A (C.set i s):=by
 have hm:=aB hp
 have a1:p.1∈ay A:=lC.2 ⟨p,hm,.inl rfl⟩
 have a2:p.2∈ay A:=lC.2 ⟨p,hm,.inr rfl⟩
 obtain⟨n0,n1⟩:=aZ.1 h.nd
 obtain⟨_,n2,n3⟩:=cO.1 n1
 have npc:pc∉[p.1,p.2]:=fun q=>by
  simp at q
  rcases q with q|q
  ·exact n0 (aA _ (q▸a1))
  ·exact n0 (aA _ (q▸a2))
 have ho:w'.ownsRow B 208 1 v C.length (iW A):=iE h.row k fun x hx q=>by
  simp at hx
  rcases hx with rfl|rfl
  ·exact n3 _ q _ a1 rfl
  ·exact n3 _ q _ a2 rfl
 refine⟨h.c.keep k npc,by rw[bM];exact ho,by simpa using h.len,fun j r z hr hz=> ?_,h.mem,h.nd,fun y hy=>⟨(h.lim y hy).1,aF (h.lim y hy).2 k.size⟩⟩
 by_cases e:i=j
 ·subst e
  rw[hp] at hr;obtain rfl:=aH hr
  rw[aL (by rw[←h.len];exact(aj.1 hp).1)] at hz
  obtain rfl:=aH hz
  exact hs
 ·rw[bD e] at hz
  obtain⟨q1,q2,q3,q4⟩:=BP n2 hr hp om
  exact(h.sl j r z hr hz).keep k (by simp;exact⟨q1,q2⟩) (by simp;exact⟨q3,q4⟩)
end
end
section
open Go.RowKit Go.Maps
def obV (o:Ob):Value:=.agg #[.int .i64 o.1,.int .i64 o.2]
structure CS (B:Nat) (w:World) (pc pz:Nat) (mn lw hi:Int) (O:List (List Int)) (e:Nat) (X:List Nat) (v:Value) (A:SA) (c:Ca):Prop where
 z:q9 X B w pz mn lw hi O c.L
 ch:uY X B w pc pz e v A c.C
 ne: ∀y∈cay pc v A,y∉ys c.L
 l0:0<c.L.length
section
variable {X Y S:List Nat} {B:Nat} {w w' w1:World} {pc pz e:Nat} {mn lw hi:Int} {O:List (List Int)} {v v':Value} {A:SA} {c:Ca} {L':List Nd}
theorem CS.below (h:CS B w pc pz mn lw hi O e X v A c) (k:Below w.heap.size w w'):CS B w' pc pz mn lw hi O e X v A c:=⟨h.z.below k,h.ch.below k,h.ne,h.l0⟩
theorem CS.keep (h:CS B w pc pz mn lw hi O e X v A c) (k:Keep S w w') (hs: ∀s∈S,s∉cay pc v A∧((s∈X∧s∉ys c.L)∨w.heap.size≤s)):CS B w' pc pz mn lw hi O e X v A c:=
 ⟨h.z.keep k (fun s q=>(hs s q).2),h.ch.keep k (fun s q=>(hs s q).1),h.ne,h.l0⟩
theorem CS.more (h:CS B w pc pz mn lw hi O e X v A c) (hX: ∀x∈X,x∈Y) (hY: ∀y∈Y,y∈X∨w.heap.size≤y):CS B w pc pz mn lw hi O e Y v A c:=⟨h.z.more hX hY,h.ch.more hX,h.ne,h.l0⟩
theorem CS.zone (h:CS B w pc pz mn lw hi O e X v A c) (k:Keep (ys c.L) w w') (hb:jK B w' pz mn lw hi O L') (hs:l6 c.L L'):CS B w' pc pz mn lw hi O e X v A ⟨L',c.C⟩:=
 ⟨h.z.after k hb hs,h.ch.keep k (fun s q r=>h.ne s r q),by show∀y∈cay pc v A,y∉ys L';rw[hs.ys];exact h.ne,by show 0<L'.length;rw[←hs.1];exact h.l0⟩
theorem CS.slab (h:CS B w pc pz mn lw hi O e X v A c) {i:Nat} {p:Nat×Nat} (hp:A[i]?=some p):p.1∈cay pc v A∧p.2∈cay pc v A∧p.1≠p.2:=by
 have hm:=aB hp
 exact⟨ak _ (aA _ (lC.2 ⟨p,hm,.inl rfl⟩)),ak _ (aA _ (lC.2 ⟨p,hm,.inr rfl⟩)),wT h.ch.nday hp⟩
theorem CS.use (h:CS B w pc pz mn lw hi O e X v A c) {i:Nat} {p:Nat×Nat} (hp:A[i]?=some p) {s:Sl} (hs:nQ w' p s) (k:Keep [p.1,p.2] w w'):CS B w' pc pz mn lw hi O e X v A ⟨c.L,c.C.set i s⟩:=by
 obtain⟨m1,m2,_⟩:=h.slab hp
 refine⟨h.z.keep k (fun x hx=>.inl ?_),h.ch.use hp hs k,h.ne,h.l0⟩
 simp at hx
 rcases hx with rfl|rfl
 ·exact⟨h.ch.mem _ m1,h.ne _ m1⟩
 ·exact⟨h.ch.mem _ m2,h.ne _ m2⟩
theorem nQ.put {p:Nat×Nat} {s:Sl} {k:Nat} (b:Bool) (h:nQ w p s) (hne:p.1≠p.2) (hk:k<s.T.length):
 nQ ((w.setCell ⟨p.2,k,none⟩ (.bool b)).setCell ⟨p.1,4,none⟩ (.int .i64 (iD (jH s k b)))) p (jH s k b)∧Keep [p.1,p.2] w ((w.setCell ⟨p.2,k,none⟩ (.bool b)).setCell ⟨p.1,4,none⟩ (.int .i64 (iD (jH s k b)))):=by
 refine⟨⟨?_,?_⟩,((Keep.refl _ _).setCell (p:=⟨p.2,k,none⟩) (.inl sI) _).setCell (p:=⟨p.1,4,none⟩) (.inl sI) _⟩
 ·have h1:=(h.1.far (c:=p.2) (fun q=>hne q.symm) k (.bool b)).store 4 (.int .i64 (iD (jH s k b))) (by simp[jV])
  have e:(jV s p.2).set 4 (.int .i64 (iD (jH s k b)))=jV (jH s k b) p.2:=by simp[jV,jH]
  rwa [e] at h1
 ·have h2:=(h.2.store k (.bool b) (by rw[jJ];exact hk)).far (c:=p.1) hne 4 (.int .i64 (iD (jH s k b)))
  rw[←yU] at h2
  exact h2
theorem qJ {α:Type} {l:List α} {i:Nat} {x:α} (hi:i≤l.length) (j:Nat):(l.take i++x::l.drop i)[j]?=if j<i then l[j]? else if j=i then some x else l[j-1]?:=by
 have hl:(l.take i).length=i:=by rw[aQ];omega
 split
 ·rename_i h
  rw[bE om,eY,if_pos h]
 ·split
  ·rename_i h;subst h
   rw[bK om,hl,Nat.sub_self];rfl
  ·rw[bK om,hl]
   obtain⟨d,hd⟩: ∃d,j-i=d+1:=⟨j-i-1,om⟩
   rw[hd,List.getElem?_cons_succ,cu]
   congr 1;omega
theorem yV (A:SA) (i:Nat) (p:Nat×Nat):iW (A.take i++p::A.drop i)=(iW A).take i++ .pointer (some ⟨p.1,0,none⟩)::(iW A).drop i:=by simp[iW,List.map_take,List.map_drop]
theorem uZ (A:SA) (i:Nat) (p:Nat×Nat):(ay (A.take i++p::A.drop i)).Perm (p.1::p.2::ay A):=by
 have h:(A.take i++p::A.drop i).Perm (p::A):=by
  have:=List.perm_middle (a:=p) (l₁:=A.take i) (l₂:=A.drop i)
  rwa [bP] at this
 exact h.flatMap_right (fun p=>[p.1,p.2])
theorem uY.ins {C:List Sl} (h:uY X B w pc pz e v A C) {p:Nat×Nat} {s:Sl} {i n:Nat} (hi:i≤C.length) (k:Keep (iF v) w w1) (own:w1.ownsRow B 208 1 v' (C.length+1) (iW (A.take i++p::A.drop i))) (hw':w'=w1.setCell ⟨pc,2,none⟩ v') (hs:nQ w p s)
 (n1:p.1∉cay pc v A) (n2:p.2∉cay pc v A) (n12:p.1≠p.2) (b1:B≤p.1) (b2:B≤p.2) (hv': ∀y∈iF v',y∈iF v∨w.heap.size≤y):
 uY (p.1::p.2::(iF v'++X)) B w' pc pz e v' (A.take i++p::A.drop i) (C.take i++s::C.drop i)∧Keep (pc::iF v) w w'∧∀y∈cay pc v' (A.take i++p::A.drop i),y∈cay pc v A∨y=p.1∨y=p.2∨w.heap.size≤y:=by
 obtain⟨n0,nn⟩:=aZ.1 h.nd
 obtain⟨no,na,nx⟩:=cO.1 nn
 have hpv:pc∉iF v:=fun q=>n0 (av _ q)
 have hpa:pc∉ay A:=fun q=>n0 (aA _ q)
 have kk:Keep (pc::iF v) w w':=by rw[hw'];exact(k.mono (fun _ q=>ak _ q)).setCell (p:=⟨pc,2,none⟩) (.inl sI) _
 have hpc:=h.c.lt
 have hpv':pc∉iF v':=fun q=>by
  rcases hv' _ q with r|r
  ·exact hpv r
  ·omega
 have key: ∀y∈cay pc v' (A.take i++p::A.drop i),y=pc∨y∈iF v'∨y=p.1∨y=p.2∨y∈ay A:=fun y hy=>by
  rcases aC.1 hy with q|q
  ·exact .inl q
  ·rcases aG.1 q with r|r
   ·exact .inr (.inl r)
   ·have:=(uZ A i p).mem_iff.1 r
    simp at this
    rcases this with t|t|t
    ·exact .inr (.inr (.inl t))
    ·exact .inr (.inr (.inr (.inl t)))
    ·exact .inr (.inr (.inr (.inr t)))
 have hal: ∀y∈ay A,B≤y∧y<w.heap.size:=fun y hy=>h.lim y (ak _ (aA _ hy))
 have hvl: ∀y∈iF v',B≤y∧y<w'.heap.size:=fun y hy=>by
  have:=iN own hy
  refine⟨this.1,?_⟩
  rw[hw'];simpa using this.2
 have e1:(C.take i++s::C.drop i).length=C.length+1:=by simp;omega
 refine⟨⟨?_,?_,?_,fun j r z hr hz=> ?_,fun y hy=> ?_,?_,fun y hy=> ?_⟩,kk,fun y hy=> ?_⟩
 ·rw[hw']
  have:=(h.c.keep k hpv).store 2 v' sI
  exact this
 ·rw[e1,hw']
  exact iE own ((Keep.refl [pc] _).setCell (p:=⟨pc,2,none⟩) (.inl sI) _) (fun x hx q=>by simp at hx;subst hx;exact hpv' q)
 ·have:=h.len
  simp;omega
 ·rw[qJ (by rw[h.len];exact hi)] at hr
  rw[qJ hi] at hz
  have old: ∀j r z,A[j]?=some r→C[j]?=some z→nQ w' r z:=fun j r z hr hz=>by
   have hm:=aB hr
   have a1:r.1∈ay A:=lC.2 ⟨r,hm,.inl rfl⟩
   have a2:r.2∈ay A:=lC.2 ⟨r,hm,.inr rfl⟩
   refine(h.sl j r z hr hz).keep kk (fun q=> ?_) (fun q=> ?_)
   ·rcases aC.1 q with t|t
    ·exact hpa (t▸a1)
    ·exact nx _ t _ a1 rfl
   ·rcases aC.1 q with t|t
    ·exact hpa (t▸a2)
    ·exact nx _ t _ a2 rfl
  split at hr
  ·rename_i q
   rw[if_pos q] at hz
   exact old j r z hr hz
  ·rename_i q
   rw[if_neg q] at hz
   split at hr
   ·rename_i t
    rw[if_pos t] at hz
    obtain rfl:=aH hr
    obtain rfl:=aH hz
    refine hs.keep kk (fun q=> ?_) (fun q=> ?_)
    ·rcases aC.1 q with t|t
     ·exact n1 (t▸aD ..)
     ·exact n1 (ak _ (av _ t))
    ·rcases aC.1 q with t|t
     ·exact n2 (t▸aD ..)
     ·exact n2 (ak _ (av _ t))
   ·rename_i t
    rw[if_neg t] at hz
    exact old _ r z hr hz
 ·rcases key y hy with q|q|q|q|q
  ·have:=h.mem pc (aD ..)
   subst q;simp[this]
  ·simp[q]
  ·simp[q]
  ·simp[q]
  ·have:=h.mem y (ak _ (aA _ q))
   simp[this]
 ·refine aZ.2 ⟨fun q=> ?_,cO.2 ⟨?_,(uZ A i p).nodup_iff.2 ?_,fun a ha b hb hab=> ?_⟩⟩
  ·rcases aG.1 q with r|r
   ·exact hpv' r
   ·have:=(uZ A i p).mem_iff.1 r
    simp at this
    rcases this with t|t|t
    ·exact n1 (t▸aD ..)
    ·exact n2 (t▸aD ..)
    ·exact hpa t
  ·unfold iF;cases v'.ownBlock<;>simp
  ·refine aZ.2 ⟨fun q=> ?_,aZ.2 ⟨fun q=> ?_,na⟩⟩
   ·rcases aC.1 q with t|t
    ·exact n12 t
    ·exact n1 (ak _ (aA _ t))
   ·exact n2 (ak _ (aA _ q))
  ·subst hab
   have hb':=(uZ A i p).mem_iff.1 hb
   have hsl:p.1<w.heap.size∧p.2<w.heap.size:=⟨hs.1.lt,hs.2.lt⟩
   rcases hv' a ha with r|r
   ·simp at hb'
    rcases hb' with t|t|t
    ·exact n1 (t▸ak _ (av _ r))
    ·exact n2 (t▸ak _ (av _ r))
    ·exact nx _ r _ t rfl
   ·simp at hb'
    rcases hb' with t|t|t
    ·omega
    ·omega
    ·have:=hal _ t;omega
 ·have hz:w.heap.size≤w'.heap.size:=kk.size
  rcases key y hy with q|q|q|q|q
  ·have:=h.lim pc (aD ..)
   subst q;exact⟨this.1,om⟩
  ·exact hvl y q
  ·subst q;have:=hs.1.lt;exact⟨b1,om⟩
  ·subst q;have:=hs.2.lt;exact⟨b2,om⟩
  ·have:=hal y q;exact⟨this.1,om⟩
 ·rcases key y hy with q|q|q|q|q
  ·exact .inl (by subst q;exact aD ..)
  ·rcases hv' y q with r|r
   ·exact .inl (ak _ (av _ r))
   ·exact .inr (.inr (.inr r))
  ·exact .inr (.inl q)
  ·exact .inr (.inr (.inl q))
  ·exact .inl (ak _ (aA _ q))
end
end
end Go.Proofs.YtdcbhlcbiokbeaaGreatDoor
