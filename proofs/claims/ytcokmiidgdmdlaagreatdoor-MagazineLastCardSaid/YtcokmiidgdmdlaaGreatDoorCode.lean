/- errors.Is and errors.As by their contracts, at what these programs hand them: the errors of package api. Go's own text of both is walked. plain.Code and coded by their contracts: the number of each error of package api. -/
import Derived.Test.YtcokmiidgdmdlaaGreatDoorBase
import Derived.WalkKit
import Derived.LaidEql
import Derived.Stop.Asserts
import Derived.RowKitTokens
import Derived.Outline
import Derived.LoopTactic
namespace Go.Proofs.YtcokmiidgdmdlaaGreatDoor
open Go.RowKit Go.Extern.Stop Go.Stop Go.Extern

theorem wTypeOf (v : Value) (w : World) : (Extern.ReflectliteType.typeOf #[.iface 291 v]).run Tryz.prog w = .ok (.iface 251 (.agg #[.pointer (some ⟨11, 291, none⟩)])) w := by kernel_rfl
theorem wComparable (w : World) : ((Extern.ReflectliteType.method fun t => do Rtype.noPackHeld "Comparable" t; (fun a => Value.bool a.comparable) <$> typeInfo t) #[.agg #[.pointer (some ⟨11, 291, none⟩)]]).run Tryz.prog w = .ok (.bool true) w := by kernel_rfl
theorem wMethodComparable (v : Value) (w : World) : (Go.method 423 251 v "Comparable").run Tryz.prog w = .ok (221, v) w := by kernel_rfl
theorem wComp : (Tryz.prog.info? 291).map (·.comparable) = some true := by kernel_rfl
theorem wSize : (Tryz.prog.info? 311).map (·.size) = some 1 := by kernel_rfl
theorem wNoIs (v : Value) (xT : TypeId) (w : World) : (Instr.typeAssert (.iface 291 v) xT 262 true).run Tryz.prog w = .ok (.tuple #[.nilIface, .bool false]) w := run_typeAssert_lacksB Tryz.underlying262 (by kernel_rfl) (by kernel_rfl) v xT w
theorem wNoAs (v : Value) (xT : TypeId) (w : World) : (Instr.typeAssert (.iface 291 v) xT 255 true).run Tryz.prog w = .ok (.tuple #[.nilIface, .bool false]) w := run_typeAssert_lacksB Tryz.underlying255 (by kernel_rfl) (by kernel_rfl) v xT w
theorem wNoUnwrap (v : Value) (xT : TypeId) (w : World) : (Instr.typeAssert (.iface 291 v) xT 258 true).run Tryz.prog w = .ok (.tuple #[.nilIface, .bool false]) w := run_typeAssert_lacksB Tryz.underlying258 (by kernel_rfl) (by kernel_rfl) v xT w
theorem wNoUnwraps (v : Value) (xT : TypeId) (w : World) : (Instr.typeAssert (.iface 291 v) xT 260 true).run Tryz.prog w = .ok (.tuple #[.nilIface, .bool false]) w := run_typeAssert_lacksB Tryz.underlying260 (by kernel_rfl) (by kernel_rfl) v xT w

/-- errors.Is(x, x) -/
theorem is_same (a : Addr) (w : World) :
    Calls Tryz.prog 116 #[.iface 291 (.pointer (some a)), .iface 291 (.pointer (some a))] w fun e w' => e = .returned (.bool true) ∧ w = w' := by
  obtain ⟨i, hi, hcmp⟩ := Option.map_eq_some_iff.1 wComp
  obtain ⟨j, hj, hjs⟩ := Option.map_eq_some_iff.1 wSize
  have h8 := @run_callFunc_extern Tryz.prog 152 _ Extern.ReflectliteType.typeOf Tryz.func152 (by kernel_rfl) (by kernel_rfl) (by kernel_rfl) (by kernel_rfl)
  have h32 := @run_callFunc_extern Tryz.prog 221 _ (Extern.ReflectliteType.method fun t => do Rtype.noPackHeld "Comparable" t; pure (.bool (← typeInfo t).comparable)) Tryz.func221 (by kernel_rfl) (by kernel_rfl) (by kernel_rfl) (by kernel_rfl)
  have tT := wTypeOf
  have cT := wComparable
  have mR := wMethodComparable
  have heq := run_eql_iface_ptr_same (P := Tryz.prog) w a Tryz.underlying33 Tryz.underlying291 hi hcmp hj
  go_enter Tryz.func116, Tryz.ntmps116
  go_wp2
  refine wp_loop_rounds 1 ?_
  rw [rounds_succ]
  go_wp2
  go_ret
  exact ⟨rfl, rfl⟩

/-- errors.Is(x, y), two different ones -/
theorem is_other (a b : Addr) (ca cb : Array Value) (ta tb : TypeId) (w : World) (hne : a ≠ b) (ha : w.heap[a.block]? = some (.cells ca ta (0, 0))) (hb : w.heap[b.block]? = some (.cells cb tb (0, 0))) :
    Calls Tryz.prog 116 #[.iface 291 (.pointer (some a)), .iface 291 (.pointer (some b))] w fun e w' => e = .returned (.bool false) ∧ w = w' := by
  obtain ⟨i, hi, hcmp⟩ := Option.map_eq_some_iff.1 wComp
  obtain ⟨j, hj, hjs⟩ := Option.map_eq_some_iff.1 wSize
  have h8 := @run_callFunc_extern Tryz.prog 152 _ Extern.ReflectliteType.typeOf Tryz.func152 (by kernel_rfl) (by kernel_rfl) (by kernel_rfl) (by kernel_rfl)
  have h32 := @run_callFunc_extern Tryz.prog 221 _ (Extern.ReflectliteType.method fun t => do Rtype.noPackHeld "Comparable" t; pure (.bool (← typeInfo t).comparable)) Tryz.func221 (by kernel_rfl) (by kernel_rfl) (by kernel_rfl) (by kernel_rfl)
  have tT := wTypeOf
  have cT := wComparable
  have mR := wMethodComparable
  have nE := wNoIs
  have uE := wNoUnwrap
  have vE := wNoUnwraps
  have heq := run_eql_iface_ptr_other (P := Tryz.prog) w Tryz.underlying33 Tryz.underlying291 hi hcmp hj (by rw [hjs]; decide) hne ha hb
  go_enter Tryz.func116, Tryz.ntmps116
  go_wp2
  refine wp_loop_rounds 1 ?_
  rw [rounds_succ]
  go_wp2
  go_ret
  exact ⟨rfl, rfl⟩

/-! ### errors.As at a *api.Fault's variable: closed facts on the model's entries -/
theorem xValueOf (t : Addr) (w : World) : (ReflectliteValue.unpack (.iface 195 (.pointer (some t)))).run Tryz.prog w
    = .ok (.agg #[.pointer (some ⟨11, 195, none⟩), .pointer (some ⟨w.heap.size, 0, none⟩), .int .u64 150]) (w.alloc (.cells #[.pointer (some t)] 195)) := by kernel_rfl
theorem xType (a : Addr) (w : World) : (ReflectliteValue.methodAny (ReflectliteValue.valueError "reflectlite.Value.Type" 0) (fun t _ _ _ => ReflectliteType.toType t) #[.agg #[.pointer (some ⟨11, 195, none⟩), .pointer (some a), .int .u64 150]]).run Tryz.prog w
    = .ok (.iface 251 (.agg #[.pointer (some ⟨11, 195, none⟩)])) w := by kernel_rfl
theorem xMethodKind (h : Value) (w : World) : (Go.method 423 251 (.agg #[h]) "Kind").run Tryz.prog w = .ok (210, h) w := by kernel_rfl
theorem xKindPP (w : World) : ((ReflectliteType.abiMethod fun t => (fun a : Nat => Value.int IntKind.u8 (a : Int)) <$> Rtype.kind t) #[.pointer (some ⟨11, 195, none⟩)]).run Tryz.prog w = .ok (.int .u8 22) w := by kernel_rfl
theorem xKindP (w : World) : ((ReflectliteType.abiMethod fun t => (fun a : Nat => Value.int IntKind.u8 (a : Int)) <$> Rtype.kind t) #[.pointer (some ⟨11, 193, none⟩)]).run Tryz.prog w = .ok (.int .u8 22) w := by kernel_rfl
theorem xrlm (z : Sem Value) (f : TypeId → Addr → Nat → Nat → Sem Value) (v : Value) :
    ReflectliteValue.method z f #[v] = (do match ← ReflectliteValue.parts v with | none => z | some (t, a, fl) => f t a fl (fl % 32)) := rfl
theorem xParts (a : Addr) (w : World) : (ReflectliteValue.parts (.agg #[.pointer (some ⟨11, 195, none⟩), .pointer (some a), .int .u64 150])).run Tryz.prog w = .ok (some (195, a, 150)) w := by kernel_rfl
theorem xIsNil (a p : Addr) (W : World) (ha : W.cell? a = some (.pointer (some p))) :
    (ReflectliteValue.method (ReflectliteValue.valueError "reflectlite.Value.IsNil" 0) ReflectliteValue.isNil #[.agg #[.pointer (some ⟨11, 195, none⟩), .pointer (some a), .int .u64 150]]).run Tryz.prog W = .ok (.bool false) W := by
  rw [xrlm]
  simp only [Sem.run_bind, xParts, Result.andThen]
  simp [ReflectliteValue.isNil, loadVar, isAgg, underlying, Tryz.underlying195, ha, Result.andThen]
theorem xMethodElem (h : Value) (w : World) : (Go.method 423 251 (.agg #[h]) "Elem").run Tryz.prog w = .ok (222, .agg #[h]) w := by kernel_rfl
theorem xMethodImplements (h : Value) (w : World) : (Go.method 423 251 (.agg #[h]) "Implements").run Tryz.prog w = .ok (223, .agg #[h]) w := by kernel_rfl
theorem xMethodAssignableTo (h : Value) (w : World) : (Go.method 423 251 (.agg #[h]) "AssignableTo").run Tryz.prog w = .ok (220, .agg #[h]) w := by kernel_rfl
theorem xElem (w : World) : (ReflectliteType.method ReflectliteType.elem #[.agg #[.pointer (some ⟨11, 195, none⟩)]]).run Tryz.prog w = .ok (.iface 251 (.agg #[.pointer (some ⟨11, 193, none⟩)])) w := by kernel_rfl
theorem xImplements (w : World) : (ReflectliteType.relation "Implements" ReflectliteType.implements_ #[.agg #[.pointer (some ⟨11, 193, none⟩)], .iface 251 (.agg #[.pointer (some ⟨11, 33, none⟩)])]).run Tryz.prog w = .ok (.bool true) w := by kernel_rfl
theorem xAssignNo (w : World) : (ReflectliteType.relation "AssignableTo" ReflectliteType.assignableTo #[.agg #[.pointer (some ⟨11, 291, none⟩)], .iface 251 (.agg #[.pointer (some ⟨11, 193, none⟩)])]).run Tryz.prog w = .ok (.bool false) w := by kernel_rfl

set_option maxHeartbeats 4000000 in
/-- errors.As at an error of errors.New's make: false -/
theorem as_miss {B : Nat} {ev : Nat → Addr} (e t : Addr) (w : World) (hE : Errs B ev w) :
    Calls Tryz.prog 115 #[.iface 291 (.pointer (some e)), .iface 195 (.pointer (some t))] w fun ev w' => ev = .returned (.bool false) ∧ Below w.heap.size w w' := by
  have hg := hE.typ
  have hB := hE.size
  have hlt : 10 < w.heap.size := Nat.lt_of_lt_of_le hE.globT hE.size
  have h6 := @run_callFunc_extern Tryz.prog 148 _ (fun args => ReflectliteValue.unpack (args.getD 0 (.tuple #[]))) Tryz.func148 (by kernel_rfl) (by kernel_rfl) (by kernel_rfl) (by kernel_rfl)
  have h7 := @run_callFunc_extern Tryz.prog 149 _ (ReflectliteValue.methodAny (ReflectliteValue.valueError "reflectlite.Value.Type" 0) (fun t _ _ _ => ReflectliteType.toType t)) Tryz.func149 (by kernel_rfl) (by kernel_rfl) (by kernel_rfl) (by kernel_rfl)
  have h8 := @run_callFunc_extern Tryz.prog 150 _ (ReflectliteValue.method (ReflectliteValue.valueError "reflectlite.Value.IsNil" 0) ReflectliteValue.isNil) Tryz.func150 (by kernel_rfl) (by kernel_rfl) (by kernel_rfl) (by kernel_rfl)
  have h27 := @run_callFunc_extern Tryz.prog 210 _ (ReflectliteType.abiMethod fun t => do pure (.int .u8 (← Rtype.kind t))) Tryz.func210 (by kernel_rfl) (by kernel_rfl) (by kernel_rfl) (by kernel_rfl)
  have h37 := @run_callFunc_extern Tryz.prog 222 _ (ReflectliteType.method ReflectliteType.elem) Tryz.func222 (by kernel_rfl) (by kernel_rfl) (by kernel_rfl) (by kernel_rfl)
  have h38 := @run_callFunc_extern Tryz.prog 223 _ (ReflectliteType.relation "Implements" ReflectliteType.implements_) Tryz.func223 (by kernel_rfl) (by kernel_rfl) (by kernel_rfl) (by kernel_rfl)
  have h10 := @run_callFunc_extern Tryz.prog 152 _ ReflectliteType.typeOf Tryz.func152 (by kernel_rfl) (by kernel_rfl) (by kernel_rfl) (by kernel_rfl)
  have h35 := @run_callFunc_extern Tryz.prog 220 _ (ReflectliteType.relation "AssignableTo" ReflectliteType.assignableTo) Tryz.func220 (by kernel_rfl) (by kernel_rfl) (by kernel_rfl) (by kernel_rfl)
  have tO := wTypeOf
  have mA := xMethodAssignableTo
  have aN := xAssignNo
  have f6 := xValueOf
  have f7 := xType
  have mK := xMethodKind
  have mE := xMethodElem
  have mI := xMethodImplements
  have k27 := xKindPP
  have k25 := xKindP
  have e27 := xElem
  have i25 := xImplements
  have nA := wNoAs
  have nU := wNoUnwrap
  have nV := wNoUnwraps
  have n8 := xIsNil ⟨w.heap.size, 0, none⟩ t ((w.alloc (.cells #[.pointer (some t)] 195)).alloc (.cells #[.pointer (some ⟨11, 195, none⟩), .pointer (some ⟨w.heap.size, 0, none⟩), .int .u64 150] 227)) (by simp)
  have hg2 : ((w.alloc (.cells #[.pointer (some t)] 195)).alloc (.cells #[.pointer (some ⟨11, 195, none⟩), .pointer (some ⟨w.heap.size, 0, none⟩), .int .u64 150] 227)).cell? ⟨10, 0, none⟩ = some (.iface 251 (.agg #[.pointer (some ⟨11, 33, none⟩)])) := by
    rw [World.cell?_alloc_lt _ _ ⟨10, 0, none⟩ (by simp; omega), World.cell?_alloc_lt _ _ ⟨10, 0, none⟩ hlt]; exact hg
  go_enter Tryz.func115, Tryz.ntmps115
  go_wp2
  refine wp_loop_rounds 1 ?_
  rw [rounds_succ]
  go_wp2
  go_ret
  exact ⟨rfl, (by repeat (first | exact Below.refl _ _ | refine Below.drew ?_ | refine below_drewN ?_ _ | refine Below.trans ?_ (Below.mono (by assumption) (by first | omega | (simp; omega) | (simp; done))) | refine Below.alloc ?_ (by first | omega | (simp; omega) | (simp; done)) _ | refine Below.setCell ?_ (by first | omega | (simp; omega) | (simp; done)) _))⟩
end Go.Proofs.YtcokmiidgdmdlaaGreatDoor

namespace Go.Proofs.YtcokmiidgdmdlaaGreatDoor
open Go.RowKit
set_option linter.unusedSimpArgs false

theorem code_nil (w : World) : Calls Tryz.prog 65 #[.nilIface] w fun e w' => e = .returned (.tuple #[.int .i64 0, .int .i64 (-1)]) ∧ w = w' := by
  go_enter Tryz.func65, Tryz.ntmps65
  go_wp2
  go_ret2
  exact ⟨rfl, rfl⟩

/-- errors.Is between two errors of package api -/
theorem is_sent {B : Nat} {ev : Nat → Addr} (i j : Nat) (w : World) (hE : Errs B ev w) (i1 : 1 ≤ i) (i2 : i ≤ 10) (j1 : 1 ≤ j) (j2 : j ≤ 10) :
    Calls Tryz.prog 116 #[.iface 291 (.pointer (some (ev i))), .iface 291 (.pointer (some (ev j)))] w fun e w' => e = .returned (.bool (decide (i = j))) ∧ w = w' := by
  by_cases h : i = j
  · subst h
    rw [decide_eq_true rfl]
    exact is_same _ w
  · rw [decide_eq_false h]
    obtain ⟨ca, ta, ha⟩ := hE.row i i1 i2
    obtain ⟨cb, tb, hb⟩ := hE.row j j1 j2
    exact is_other _ _ ca cb ta tb w (fun e => h (hE.inj i j i1 i2 j1 j2 e)) ha hb

set_option maxHeartbeats 1000000 in
theorem code_sent {B : Nat} {ev : Nat → Addr} (i : Nat) (w : World) (hE : Errs B ev w) (i1 : 1 ≤ i) (i2 : i ≤ 10) :
    Calls Tryz.prog 65 #[.iface 291 (.pointer (some (ev i)))] w fun e w' => e = .returned (.tuple #[.int .i64 i, .int .i64 (-1)]) ∧ Below w.heap.size w w' := by
  have hB := hE.size
  go_enter Tryz.func65, Tryz.ntmps65
  go_wp2_with fail
  refine (as_miss _ _ _ (hE.below (by repeat (first | exact Below.refl _ _ | refine Below.drew ?_ | refine below_drewN ?_ _ | refine Below.trans ?_ (Below.mono (by assumption) (by first | omega | (simp; omega) | (simp; done))) | refine Below.alloc ?_ (by first | omega | (simp; omega) | (simp; done)) _ | refine Below.setCell ?_ (by first | omega | (simp; omega) | (simp; done)) _)))).mono ?_
  rintro e w1 ⟨rfl, hb1⟩; obtain ⟨c1, f1⟩ := bcell hb1; have z1 := hb1.size; try simp at z1 c1 f1
  have hE1 : Errs B ev w1 := hE.below (by repeat (first | exact Below.refl _ _ | refine Below.drew ?_ | refine below_drewN ?_ _ | refine Below.trans ?_ (Below.mono (by assumption) (by first | omega | (simp; omega) | (simp; done))) | refine Below.alloc ?_ (by first | omega | (simp; omega) | (simp; done)) _ | refine Below.setCell ?_ (by first | omega | (simp; omega) | (simp; done)) _))
  have g1 := hE1.cell 1 (by decide) (by decide)
  have g2 := hE1.cell 2 (by decide) (by decide)
  have g3 := hE1.cell 3 (by decide) (by decide)
  have g4 := hE1.cell 4 (by decide) (by decide)
  have g5 := hE1.cell 5 (by decide) (by decide)
  have g6 := hE1.cell 6 (by decide) (by decide)
  have g7 := hE1.cell 7 (by decide) (by decide)
  have g8 := hE1.cell 8 (by decide) (by decide)
  have g9 := hE1.cell 9 (by decide) (by decide)
  have g10 := hE1.cell 10 (by decide) (by decide)
  simp only [errG, errV] at g1 g2 g3 g4 g5 g6 g7 g8 g9 g10
  clear c1 f1
  have cells : ∀ k, k < 10 → (w1.alloc (.cells #[.iface 291 (.pointer (some (ev 1))), .iface 291 (.pointer (some (ev 2))), .iface 291 (.pointer (some (ev 3))), .iface 291 (.pointer (some (ev 4))), .iface 291 (.pointer (some (ev 5))), .iface 291 (.pointer (some (ev 6))), .iface 291 (.pointer (some (ev 7))), .iface 291 (.pointer (some (ev 8))), .iface 291 (.pointer (some (ev 9))), .iface 291 (.pointer (some (ev 10)))] 33)).cell? ⟨w1.heap.size, k, none⟩ = some (.iface 291 (.pointer (some (ev (k + 1))))) := by
    intro k hk
    rw [World.cell?_alloc_at _ _ _ _ rfl]
    match k, hk with
    | 0, _ => rfl
    | 1, _ => rfl
    | 2, _ => rfl
    | 3, _ => rfl
    | 4, _ => rfl
    | 5, _ => rfl
    | 6, _ => rfl
    | 7, _ => rfl
    | 8, _ => rfl
    | 9, _ => rfl
  have CC := Lib.hid cells
  clear cells
  go_wp2
  go_loop [3, 28] (fun a s => ∃ k : Nat, k < i ∧ s = .int .i64 k ∧ a = .int .i64 (-1)) (fun _ s => i - (intOf s).toNat)
  case atStart => exact ⟨0, by omega, rfl, rfl⟩
  case round =>
    obtain ⟨k, hk, rfl, rfl⟩ := hrel
    have hck := CC.out k (by omega)
    have hki : (k : Int) < 10 := by omega
    by_cases hlt : k + 1 < i
    · have hd : decide (i = k + 1) = false := decide_eq_false (by omega)
      have isK := is_sent i (k + 1) (w1.alloc (.cells #[.iface 291 (.pointer (some (ev 1))), .iface 291 (.pointer (some (ev 2))), .iface 291 (.pointer (some (ev 3))), .iface 291 (.pointer (some (ev 4))), .iface 291 (.pointer (some (ev 5))), .iface 291 (.pointer (some (ev 6))), .iface 291 (.pointer (some (ev 7))), .iface 291 (.pointer (some (ev 8))), .iface 291 (.pointer (some (ev 9))), .iface 291 (.pointer (some (ev 10)))] 33)) (hE1.below (by repeat (first | exact Below.refl _ _ | refine Below.drew ?_ | refine below_drewN ?_ _ | refine Below.trans ?_ (Below.mono (by assumption) (by first | omega | (simp; omega) | (simp; done))) | refine Below.alloc ?_ (by first | omega | (simp; omega) | (simp; done)) _ | refine Below.setCell ?_ (by first | omega | (simp; omega) | (simp; done)) _))) i1 i2 (by omega) (by omega)
      rw [hd] at isK
      have IK := Lib.hid isK
      clear isK hd
      go_wp2_with (go_at_call 116; refine IK.out.mono ?_; rintro e w' ⟨rfl, rfl⟩)
      go_round
      case rel => exact ⟨k + 1, by omega, by go_num, rfl⟩
      case measure => simp [intOf]; omega
    · have hd : decide (i = k + 1) = true := decide_eq_true (by omega)
      have isK := is_sent i (k + 1) (w1.alloc (.cells #[.iface 291 (.pointer (some (ev 1))), .iface 291 (.pointer (some (ev 2))), .iface 291 (.pointer (some (ev 3))), .iface 291 (.pointer (some (ev 4))), .iface 291 (.pointer (some (ev 5))), .iface 291 (.pointer (some (ev 6))), .iface 291 (.pointer (some (ev 7))), .iface 291 (.pointer (some (ev 8))), .iface 291 (.pointer (some (ev 9))), .iface 291 (.pointer (some (ev 10)))] 33)) (hE1.below (by repeat (first | exact Below.refl _ _ | refine Below.drew ?_ | refine below_drewN ?_ _ | refine Below.trans ?_ (Below.mono (by assumption) (by first | omega | (simp; omega) | (simp; done))) | refine Below.alloc ?_ (by first | omega | (simp; omega) | (simp; done)) _ | refine Below.setCell ?_ (by first | omega | (simp; omega) | (simp; done)) _))) i1 i2 (by omega) (by omega)
      rw [hd] at isK
      have IK := Lib.hid isK
      clear isK hd
      go_wp2_with (go_at_call 116; refine IK.out.mono ?_; rintro e w' ⟨rfl, rfl⟩)
      go_ret2
      have e1 : i = k + 1 := by omega
      exact ⟨by rw [show (i : Int) = (k : Int) + 1 from by omega]; rfl, (by repeat (first | exact Below.refl _ _ | refine Below.drew ?_ | refine below_drewN ?_ _ | refine Below.trans ?_ (Below.mono (by assumption) (by first | omega | (simp; omega) | (simp; done))) | refine Below.alloc ?_ (by first | omega | (simp; omega) | (simp; done)) _ | refine Below.setCell ?_ (by first | omega | (simp; omega) | (simp; done)) _))⟩

theorem code_any {B : Nat} {ev : Nat → Addr} (i : Nat) (w : World) (hE : Errs B ev w) (i2 : i ≤ 10) :
    Calls Tryz.prog 65 #[errV ev i] w fun e w' => e = .returned (.tuple #[.int .i64 i, .int .i64 (-1)]) ∧ Below w.heap.size w w' := by
  rcases i with _ | i
  · exact (code_nil w).mono fun e w' ⟨h1, h2⟩ => ⟨h1, by rw [← h2]; exact Below.refl _ _⟩
  · exact code_sent (i + 1) w hE (by omega) i2

/-- coded: is an error of that number, without a place? -/
theorem coded_any {B : Nat} {ev : Nat → Addr} (i : Nat) (n : Int) (w : World) (hE : Errs B ev w) (i2 : i ≤ 10) :
    Calls Tryz.prog 18 #[errV ev i, .int .i64 n] w fun e w' => e = .returned (.bool (decide ((i : Int) = n))) ∧ Below w.heap.size w w' := by
  obtain ⟨m, hm⟩ : ∃ m : Int, m = (i : Int) := ⟨_, rfl⟩
  have cc := code_any i w hE i2
  rw [← hm] at cc
  have CC := Lib.hid cc
  clear cc
  rw [← hm]
  clear hm
  generalize errV ev i = x at CC
  by_cases h : m = n
  · rw [decide_eq_true h]
    have hd : (m == n) = true := by simpa using h
    clear h
    go_enter Tryz.func18, Tryz.ntmps18
    go_wp2_with fail
    refine CC.out.mono ?_
    rintro e w1 ⟨rfl, hb1⟩; obtain ⟨c1, f1⟩ := bcell hb1; have z1 := hb1.size; try simp at z1 c1 f1
    go_wp2
    go_ret
    exact ⟨rfl, (by repeat (first | exact Below.refl _ _ | refine Below.drew ?_ | refine below_drewN ?_ _ | refine Below.trans ?_ (Below.mono (by assumption) (by first | omega | (simp; omega) | (simp; done))) | refine Below.alloc ?_ (by first | omega | (simp; omega) | (simp; done)) _ | refine Below.setCell ?_ (by first | omega | (simp; omega) | (simp; done)) _))⟩
  · rw [decide_eq_false h]
    have hd : (m == n) = false := by simpa using h
    clear h
    go_enter Tryz.func18, Tryz.ntmps18
    go_wp2_with fail
    refine CC.out.mono ?_
    rintro e w1 ⟨rfl, hb1⟩; obtain ⟨c1, f1⟩ := bcell hb1; have z1 := hb1.size; try simp at z1 c1 f1
    go_wp2
    go_ret
    exact ⟨rfl, (by repeat (first | exact Below.refl _ _ | refine Below.drew ?_ | refine below_drewN ?_ _ | refine Below.trans ?_ (Below.mono (by assumption) (by first | omega | (simp; omega) | (simp; done))) | refine Below.alloc ?_ (by first | omega | (simp; omega) | (simp; done)) _ | refine Below.setCell ?_ (by first | omega | (simp; omega) | (simp; done)) _))⟩
theorem coded_at {B : Nat} {ev : Nat → Addr} (i : Nat) (n : Int) (w : World) (hE : Errs B ev w) (i2 : i ≤ 10) (h : (i : Int) = n) :
    Calls Tryz.prog 18 #[errV ev i, .int .i64 n] w fun e w' => e = .returned (.bool true) ∧ Below w.heap.size w w' := by
  have := coded_any i n w hE i2
  rwa [decide_eq_true h] at this
theorem Errs.go {B : Nat} {ev : Nat → Addr} {w w' : World} (h : Errs B ev w) (hb : Below w.heap.size w w') : Errs B ev w' := h.below (hb.mono h.size)
theorem ErrC.go {B : Nat} {ev : Nat → Addr} {w w' : World} (h : ErrC B ev w) (hb : Below w.heap.size w w') : ErrC B ev w' := h.below (hb.mono h.size)
theorem ErrD.go {B : Nat} {ev : Nat → Addr} {w w' : World} (h : ErrD B ev w) (hb : Below w.heap.size w w') : ErrD B ev w' := h.below (hb.mono h.size)
end Go.Proofs.YtcokmiidgdmdlaaGreatDoor
