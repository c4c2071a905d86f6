/- What the walks ask of the package-level variables: each error of package api lies in its variable, and each is another one; it stays so while nothing below B is written. '==' and '!=' between two blocks of pages, and between an error and nil. '==' and '!=' between two places. Package frames by its contracts: each function of pages answers what the plain functions of Pure say, and leaves all older memory as it was. Package frames by its contracts, second part: Buddy, Halves, Check. The document's answer of chapter 1 by its contracts: sizes of orders, errors of blocks, parents and buddies. The document's answer of chapter 1 by its contracts, second part: parents and buddies of right blocks. What a call leaves as it was, where it may write into a few blocks: all but those. A region that draws its order, whose operations only read and whose callees leave older memory as it was: one walk in the order of the text. A region that draws its order, whose operations read but for the last ones: the head in the order of the text, in a world one draw on. frames.Cover and the document's CoverOf by their contracts: a new slice that holds just the blocks of the plain law. Slices of blocks that are read: what their cells hold; SameBlocks by its contract. -/
import Derived.Test.YtcokmiidgdmdlaaGreatDoorPlain
import Derived.Test.YtcokmiidgdmdlaaGreatDoorChecked
import Derived.WalkKit
import Derived.Lib.Hide
import Derived.Laws.StructEq
import Derived.WalkLawsBesides
import Derived.WalkSpells
import Derived.Outline
import Derived.RegionTactic
import Derived.BigRegion
import Derived.Deep.QuietTactic
import Derived.BigQuiet
import Derived.ChangeAlike
import Derived.Deep.RegionWith
import Derived.LoopTactic
import Derived.Below
import Derived.WalkSmall
import Derived.StillTailTactics
import Derived.OwnWalk
namespace Go.Proofs.YtcokmiidgdmdlaaGreatDoor
open Go.RowKit

/-- an error by its number (0: nil) -/
def errV (ev : Nat → Addr) : Nat → Value
  | 0 => .nilIface
  | i + 1 => .iface 291 (.pointer (some (ev (i + 1))))

/-- the number of an error's variable -/
def errG : Nat → Nat
  | 1 => 5
  | 2 => 2
  | 3 => 3
  | 4 => 6
  | 5 => 1
  | 6 => 7
  | 7 => 0
  | 8 => 8
  | 9 => 4
  | _ => 9

/-- the three errors that package frames tells -/
structure ErrC (B : Nat) (ev : Nat → Addr) (w : World) : Prop where
  size : B ≤ w.heap.size
  l2 : 2 < B
  l3 : 3 < B
  l4 : 6 < B
  c2 : w.cell? ⟨2, 0, Option.none⟩ = some (errV ev 2)
  c3 : w.cell? ⟨3, 0, Option.none⟩ = some (errV ev 3)
  c4 : w.cell? ⟨6, 0, Option.none⟩ = some (errV ev 4)

theorem ErrC.below {B : Nat} {ev : Nat → Addr} {w w' : World} (h : ErrC B ev w) (hb : Below B w w') : ErrC B ev w' :=
  ⟨Nat.le_trans h.size hb.size, h.l2, h.l3, h.l4,
   by rw [hb.cell (p := ⟨2, 0, Option.none⟩) h.l2]; exact h.c2,
   by rw [hb.cell (p := ⟨3, 0, Option.none⟩) h.l3]; exact h.c3,
   by rw [hb.cell (p := ⟨6, 0, Option.none⟩) h.l4]; exact h.c4⟩
theorem ErrC.z2 {B : Nat} {ev : Nat → Addr} {w : World} (h : ErrC B ev w) : 2 < w.heap.size := Nat.lt_of_lt_of_le h.l2 h.size
theorem ErrC.z3 {B : Nat} {ev : Nat → Addr} {w : World} (h : ErrC B ev w) : 3 < w.heap.size := Nat.lt_of_lt_of_le h.l3 h.size
theorem ErrC.z4 {B : Nat} {ev : Nat → Addr} {w : World} (h : ErrC B ev w) : 6 < w.heap.size := Nat.lt_of_lt_of_le h.l4 h.size

/-- .. and the fourth, which package buddy tells besides -/
structure ErrD (B : Nat) (ev : Nat → Addr) (w : World) : Prop where
  c : ErrC B ev w
  l5 : 1 < B
  c5 : w.cell? ⟨1, 0, Option.none⟩ = some (errV ev 5)
theorem ErrD.below {B : Nat} {ev : Nat → Addr} {w w' : World} (h : ErrD B ev w) (hb : Below B w w') : ErrD B ev w' :=
  ⟨h.c.below hb, h.l5, by rw [hb.cell (p := ⟨1, 0, Option.none⟩) h.l5]; exact h.c5⟩
theorem ErrD.z5 {B : Nat} {ev : Nat → Addr} {w : World} (h : ErrD B ev w) : 1 < w.heap.size := Nat.lt_of_lt_of_le h.l5 h.c.size
theorem ErrD.size {B : Nat} {ev : Nat → Addr} {w : World} (h : ErrD B ev w) : B ≤ w.heap.size := h.c.size

/-- all ten errors, and package errors' own variable -/
structure Errs (B : Nat) (ev : Nat → Addr) (w : World) : Prop where
  size : B ≤ w.heap.size
  glob : ∀ i, 1 ≤ i → i ≤ 10 → errG i < B
  cell : ∀ i, 1 ≤ i → i ≤ 10 → w.cell? ⟨errG i, 0, Option.none⟩ = some (errV ev i)
  inj : ∀ i j, 1 ≤ i → i ≤ 10 → 1 ≤ j → j ≤ 10 → ev i = ev j → i = j
  row : ∀ i, 1 ≤ i → i ≤ 10 → ∃ c t, w.heap[(ev i).block]? = some (.cells c t (0, 0))
  lt : ∀ i, 1 ≤ i → i ≤ 10 → (ev i).block < B
  globT : 10 < B
  typ : w.cell? ⟨10, 0, Option.none⟩ = some (.iface 251 (.agg #[.pointer (some ⟨11, 33, Option.none⟩)]))

theorem Errs.below {B : Nat} {ev : Nat → Addr} {w w' : World} (h : Errs B ev w) (hb : Below B w w') : Errs B ev w' :=
  ⟨Nat.le_trans h.size hb.size, h.glob, fun i a b => by rw [hb.cell (p := ⟨errG i, 0, Option.none⟩) (h.glob i a b)]; exact h.cell i a b, h.inj,
   fun i a b => by rw [hb.block _ (h.lt i a b)]; exact h.row i a b, h.lt, h.globT,
   by rw [hb.cell (p := ⟨10, 0, Option.none⟩) h.globT]; exact h.typ⟩
theorem Errs.c {B : Nat} {ev : Nat → Addr} {w : World} (h : Errs B ev w) : ErrC B ev w :=
  ⟨h.size, h.glob 2 (by decide) (by decide), h.glob 3 (by decide) (by decide), h.glob 4 (by decide) (by decide), h.cell 2 (by decide) (by decide), h.cell 3 (by decide) (by decide), h.cell 4 (by decide) (by decide)⟩
theorem Errs.d {B : Nat} {ev : Nat → Addr} {w : World} (h : Errs B ev w) : ErrD B ev w := ⟨h.c, h.glob 5 (by decide) (by decide), h.cell 5 (by decide) (by decide)⟩
/-- behind a contract that leaves older memory: cells and marks read as before (the walk takes both by itself) -/
theorem bcell {W w1 : World} {n : Nat} (hb : Below n W w1) : (∀ b o, b < n → w1.cell? ⟨b, o, Option.none⟩ = W.cell? ⟨b, o, Option.none⟩) ∧ (∀ b o, b < n → w1.frozen? ⟨b, o, Option.none⟩ = W.frozen? ⟨b, o, Option.none⟩) :=
  ⟨fun b o h => hb.cell (p := ⟨b, o, Option.none⟩) h, fun b o h => hb.frozen (p := ⟨b, o, Option.none⟩) h⟩
end Go.Proofs.YtcokmiidgdmdlaaGreatDoor

namespace Go.Proofs.YtcokmiidgdmdlaaGreatDoor
open Go.RowKit

theorem eqB (a k b m : Int) (w : World) : (binOp .eql 39 (.agg #[.int .i64 a, .int .i64 k]) (.agg #[.int .i64 b, .int .i64 m])).run Tryz.prog w = .ok (.bool (a == b && k == m)) w := by
  have u3 := Tryz.underlying3
  have a3 := Tryz.isAgg3
  have z3 := Tryz.sizeOf3
  have hS : Tryz.prog.underlying 39 = some (.struct (Tryz.prog.fieldsOf 39)) := by kernel_rfl
  have hp : Tryz.prog.stoodInHeld 39 = false := by kernel_rfl
  rw [run_eql_struct, show (10000 : Nat) = 9999 + 1 from rfl, run_equalIn_agg w 9999 39 _ _ hS hp]
  simp only [Program.fieldsOf, Tryz.underlying39]
  go_simp
  by_cases h1 : a = b <;> by_cases h2 : k = m <;> simp [h1, h2]
theorem neqB (a k b m : Int) (w : World) : (binOp .neq 39 (.agg #[.int .i64 a, .int .i64 k]) (.agg #[.int .i64 b, .int .i64 m])).run Tryz.prog w = .ok (.bool (!(a == b && k == m))) w := by
  have u3 := Tryz.underlying3
  have a3 := Tryz.isAgg3
  have z3 := Tryz.sizeOf3
  have hS : Tryz.prog.underlying 39 = some (.struct (Tryz.prog.fieldsOf 39)) := by kernel_rfl
  have hp : Tryz.prog.stoodInHeld 39 = false := by kernel_rfl
  rw [run_neq_struct, show (10000 : Nat) = 9999 + 1 from rfl, run_equalIn_agg w 9999 39 _ _ hS hp]
  simp only [Program.fieldsOf, Tryz.underlying39]
  go_simp
  by_cases h1 : a = b <;> by_cases h2 : k = m <;> simp [h1, h2]
theorem guardB : Tryz.prog.eqGuardType Tryz.prog.depth 39 = false := by kernel_rfl
end Go.Proofs.YtcokmiidgdmdlaaGreatDoor

namespace Go.Proofs.YtcokmiidgdmdlaaGreatDoor
open Go.RowKit

theorem eqP (n a k m b c : Int) (w : World) : (binOp .eql 41 (.agg #[.int .i64 n, .int .i64 a, .int .i64 k]) (.agg #[.int .i64 m, .int .i64 b, .int .i64 c])).run Tryz.prog w = .ok (.bool (n == m && (a == b && k == c))) w := by
  have u3 := Tryz.underlying3
  have a3 := Tryz.isAgg3
  have z3 := Tryz.sizeOf3
  have ub := Tryz.underlying39
  have zb := Tryz.sizeOf39
  have hS : Tryz.prog.underlying 41 = some (.struct (Tryz.prog.fieldsOf 41)) := by kernel_rfl
  have hp : Tryz.prog.stoodInHeld 41 = false := by kernel_rfl
  have hS2 : Tryz.prog.underlying 39 = some (.struct (Tryz.prog.fieldsOf 39)) := by kernel_rfl
  have hp2 : Tryz.prog.stoodInHeld 39 = false := by kernel_rfl
  rw [run_eql_struct, show (10000 : Nat) = 9999 + 1 from rfl, run_equalIn_agg w 9999 41 _ _ hS hp]
  simp only [Program.fieldsOf, Tryz.underlying41]
  go_simp
  by_cases h1 : n = m <;> by_cases h2 : a = b <;> by_cases h3 : k = c <;> simp [h1, h2, h3]
theorem neqP (n a k m b c : Int) (w : World) : (binOp .neq 41 (.agg #[.int .i64 n, .int .i64 a, .int .i64 k]) (.agg #[.int .i64 m, .int .i64 b, .int .i64 c])).run Tryz.prog w = .ok (.bool (!(n == m && (a == b && k == c)))) w := by
  have u3 := Tryz.underlying3
  have a3 := Tryz.isAgg3
  have z3 := Tryz.sizeOf3
  have ub := Tryz.underlying39
  have zb := Tryz.sizeOf39
  have hS : Tryz.prog.underlying 41 = some (.struct (Tryz.prog.fieldsOf 41)) := by kernel_rfl
  have hp : Tryz.prog.stoodInHeld 41 = false := by kernel_rfl
  have hS2 : Tryz.prog.underlying 39 = some (.struct (Tryz.prog.fieldsOf 39)) := by kernel_rfl
  have hp2 : Tryz.prog.stoodInHeld 39 = false := by kernel_rfl
  rw [run_neq_struct, show (10000 : Nat) = 9999 + 1 from rfl, run_equalIn_agg w 9999 41 _ _ hS hp]
  simp only [Program.fieldsOf, Tryz.underlying41]
  go_simp
  by_cases h1 : n = m <;> by_cases h2 : a = b <;> by_cases h3 : k = c <;> simp [h1, h2, h3]
theorem guardP : Tryz.prog.eqGuardType Tryz.prog.depth 41 = false := by kernel_rfl
end Go.Proofs.YtcokmiidgdmdlaaGreatDoor

namespace Go.Proofs.YtcokmiidgdmdlaaGreatDoor
open Go.RowKit
set_option linter.unusedSimpArgs false

theorem order_any (k : Int) (w : World) : Calls Tryz.prog 107 #[.int .i64 k] w fun e w' => e = .returned (.bool (decide (0 ≤ k ∧ k ≤ 6))) ∧ w = w' := by
  by_cases h0 : 0 ≤ k
  · by_cases h6 : k ≤ 6
    · have hd : decide (0 ≤ k ∧ k ≤ 6) = true := decide_eq_true ⟨h0, h6⟩
      rw [hd]
      go_enter Tryz.func107, Tryz.ntmps107
      go_wp2
      go_ret
      exact ⟨rfl, rfl⟩
    · have hd : decide (0 ≤ k ∧ k ≤ 6) = false := decide_eq_false (by omega)
      rw [hd]
      go_enter Tryz.func107, Tryz.ntmps107
      go_wp2
      go_ret
      exact ⟨by simp, rfl⟩
  · have hd : decide (0 ≤ k ∧ k ≤ 6) = false := decide_eq_false (by omega)
    rw [hd]
    go_enter Tryz.func107, Tryz.ntmps107
    go_wp2
    go_ret
    exact ⟨rfl, rfl⟩
theorem order_yes (k : Int) (w : World) (h : 0 ≤ k ∧ k ≤ 6) : Calls Tryz.prog 107 #[.int .i64 k] w fun e w' => e = .returned (.bool true) ∧ w = w' := by
  have := order_any k w; rwa [decide_eq_true h] at this
theorem order_no (k : Int) (w : World) (h : k < 0 ∨ 6 < k) : Calls Tryz.prog 107 #[.int .i64 k] w fun e w' => e = .returned (.bool false) ∧ w = w' := by
  have := order_any k w; rwa [decide_eq_false (show ¬ (0 ≤ k ∧ k ≤ 6) by omega)] at this

/-- frames.Size -/
theorem size_yes (k : Int) (w : World) (h : 0 ≤ k ∧ k ≤ 6) : Calls Tryz.prog 58 #[.int .i64 k] w fun e w' => e = .returned (.tuple #[.int .i64 (sz k), .nilIface]) ∧ w = w' := by
  have hs := shl_sz' h.1 h.2
  obtain ⟨h0, h6⟩ := h
  go_enter Tryz.func58, Tryz.ntmps58
  go_wp2_with (go_at_call 107; refine (order_yes _ _ ⟨h0, h6⟩).mono ?_; rintro e w' ⟨rfl, rfl⟩)
  go_ret2
  exact ⟨by rw [← hs]; rfl, rfl⟩
theorem size_no {B : Nat} {ev : Nat → Addr} (k : Int) (w : World) (hE : ErrC B ev w) (h : k < 0 ∨ 6 < k) :
    Calls Tryz.prog 58 #[.int .i64 k] w fun e w' => e = .returned (.tuple #[.int .i64 0, errV ev 2]) ∧ Below w.heap.size w w' := by
  have hc := hE.c2
  go_enter Tryz.func58, Tryz.ntmps58
  go_wp2_with (go_at_call 107; refine (order_no _ _ h).mono ?_; rintro e w' ⟨rfl, rfl⟩)
  go_region
  all_goals go_wp2
  all_goals go_ret2
  all_goals exact ⟨rfl, (by repeat (first | exact Below.refl _ _ | refine Below.drew ?_ | refine below_drewN ?_ _ | refine Below.trans ?_ (Below.mono (by assumption) (by first | omega | (simp; omega) | (simp; done))) | refine Below.alloc ?_ (by first | omega | (simp; omega) | (simp; done)) _ | refine Below.setCell ?_ (by first | omega | (simp; omega) | (simp; done)) _))⟩

set_option maxHeartbeats 400000 in
/-- look: a block by itself -/
theorem look_any {B : Nat} {ev : Nat → Addr} (a k : Int) (w : World) (hE : ErrC B ev w) :
    Calls Tryz.prog 147 #[.agg #[.int .i64 a, .int .i64 k]] w fun e w' => e = .returned (errV ev (aloneE a k)) ∧ Below w.heap.size w w' := by
  have hc := hE.c2
  have hc' := hE.c3
  have hz := hE.z2
  have hz' := hE.z3
  rcases aloneE_cases a k with ⟨hr, h⟩ | ⟨⟨h0, h1, k0, k6⟩, h⟩
  · rw [hr]
    clear hr
    by_cases ha : a < 0
    · go_enter Tryz.func147, Tryz.ntmps147
      go_wp2_with fail
      go_ret
      exact ⟨rfl, (by repeat (first | exact Below.refl _ _ | refine Below.drew ?_ | refine below_drewN ?_ _ | refine Below.trans ?_ (Below.mono (by assumption) (by first | omega | (simp; omega) | (simp; done))) | refine Below.alloc ?_ (by first | omega | (simp; omega) | (simp; done)) _ | refine Below.setCell ?_ (by first | omega | (simp; omega) | (simp; done)) _))⟩
    · by_cases ha2 : 256 ≤ a
      · go_enter Tryz.func147, Tryz.ntmps147
        go_wp2_with fail
        go_ret
        exact ⟨rfl, (by repeat (first | exact Below.refl _ _ | refine Below.drew ?_ | refine below_drewN ?_ _ | refine Below.trans ?_ (Below.mono (by assumption) (by first | omega | (simp; omega) | (simp; done))) | refine Below.alloc ?_ (by first | omega | (simp; omega) | (simp; done)) _ | refine Below.setCell ?_ (by first | omega | (simp; omega) | (simp; done)) _))⟩
      · have hk : k < 0 ∨ 6 < k := by omega
        clear h
        go_enter Tryz.func147, Tryz.ntmps147
        go_wp2_with (go_at_call 107; refine (order_no _ _ hk).mono ?_; rintro e w' ⟨rfl, rfl⟩)
        go_ret
        exact ⟨rfl, (by repeat (first | exact Below.refl _ _ | refine Below.drew ?_ | refine below_drewN ?_ _ | refine Below.trans ?_ (Below.mono (by assumption) (by first | omega | (simp; omega) | (simp; done))) | refine Below.alloc ?_ (by first | omega | (simp; omega) | (simp; done)) _ | refine Below.setCell ?_ (by first | omega | (simp; omega) | (simp; done)) _))⟩
  · have hs := shl_sz' k0 k6
    have hn := and_sz h0 (by omega) k0 k6
    obtain ⟨s1, s2⟩ := sz_bd k0 k6
    have H : Hid _ := Lib.hid h
    clear h
    go_enter Tryz.func147, Tryz.ntmps147
    go_wp2_with (go_at_call 107; refine (order_yes _ _ ⟨k0, k6⟩).mono ?_; rintro e w' ⟨rfl, rfl⟩)
    go_quiet (fail)
    go_wp2
    · have hne : (a % sz k != 0) = true := by assumption
      rcases H.out with ⟨e1, e2⟩ | ⟨e1, e2⟩
      · go_ret
        exact ⟨by rw [e1]; rfl, (by repeat (first | exact Below.refl _ _ | refine Below.drew ?_ | refine below_drewN ?_ _ | refine Below.trans ?_ (Below.mono (by assumption) (by first | omega | (simp; omega) | (simp; done))) | refine Below.alloc ?_ (by first | omega | (simp; omega) | (simp; done)) _ | refine Below.setCell ?_ (by first | omega | (simp; omega) | (simp; done)) _))⟩
      · simp [e2] at hne
    · have hne : (a % sz k != 0) = false := by assumption
      rcases H.out with ⟨e1, e2⟩ | ⟨e1, e2⟩
      · simp [e2] at hne
      · go_ret
        exact ⟨by rw [e1]; rfl, (by repeat (first | exact Below.refl _ _ | refine Below.drew ?_ | refine below_drewN ?_ _ | refine Below.trans ?_ (Below.mono (by assumption) (by first | omega | (simp; omega) | (simp; done))) | refine Below.alloc ?_ (by first | omega | (simp; omega) | (simp; done)) _ | refine Below.setCell ?_ (by first | omega | (simp; omega) | (simp; done)) _))⟩
theorem look_ok {B : Nat} {ev : Nat → Addr} (a k : Int) (w : World) (hE : ErrC B ev w) (h : aloneE a k = 0) :
    Calls Tryz.prog 147 #[.agg #[.int .i64 a, .int .i64 k]] w fun e w' => e = .returned .nilIface ∧ Below w.heap.size w w' :=
  (look_any a k w hE).mono fun _ _ ⟨h1, h2⟩ => ⟨by rw [h1, h]; rfl, h2⟩
theorem look_err {B : Nat} {ev : Nat → Addr} (a k : Int) (c : Nat) (w : World) (hE : ErrC B ev w) (h : aloneE a k = c + 1) :
    Calls Tryz.prog 147 #[.agg #[.int .i64 a, .int .i64 k]] w fun e w' => e = .returned (.iface 291 (.pointer (some (ev (c + 1))))) ∧ Below w.heap.size w w' :=
  (look_any a k w hE).mono fun _ _ ⟨h1, h2⟩ => ⟨by rw [h1, h]; rfl, h2⟩

set_option maxHeartbeats 400000 in
/-- Parent of a right block below the greatest order -/
theorem parent_ok {B : Nat} {ev : Nat → Addr} (a k : Int) (w : World) (hE : ErrC B ev w) (h : upE a k = 0) :
    Calls Tryz.prog 126 #[.agg #[.int .i64 a, .int .i64 k]] w fun e w' => e = .returned (.tuple #[.agg #[.int .i64 (parA a k), .int .i64 (k + 1)], .nilIface]) ∧ Below w.heap.size w w' := by
  obtain ⟨ha, hk⟩ := upE_zero h
  obtain ⟨a0, a1, k0, k6, _⟩ := aloneE_zero ha
  have hB := hE.size
  have hs := shl_sz' k0 k6
  have hn := andNot_sz a0 (by omega) k0 k6
  go_enter Tryz.func126, Tryz.ntmps126
  go_wp2_with fail
  refine (look_ok a k _ (hE.below (by repeat (first | exact Below.refl _ _ | refine Below.drew ?_ | refine below_drewN ?_ _ | refine Below.trans ?_ (Below.mono (by assumption) (by first | omega | (simp; omega) | (simp; done))) | refine Below.alloc ?_ (by first | omega | (simp; omega) | (simp; done)) _ | refine Below.setCell ?_ (by first | omega | (simp; omega) | (simp; done)) _))) ha).mono ?_
  rintro e w1 ⟨rfl, hb⟩
  obtain ⟨hc, hf⟩ := bcell hb
  have hz := hb.size
  simp at hz hc hf
  go_wp2
  go_region
  go_wp2
  exact bodyPost_ret (v := .tuple #[.agg #[.int .i64 (parA a k), .int .i64 (k + 1)], .nilIface]) (by simp [results, Tryz.results126, go_sem, hc]) rfl ⟨rfl, (by repeat (first | exact Below.refl _ _ | refine Below.drew ?_ | refine below_drewN ?_ _ | refine Below.trans ?_ (Below.mono (by assumption) (by first | omega | (simp; omega) | (simp; done))) | refine Below.alloc ?_ (by first | omega | (simp; omega) | (simp; done)) _ | refine Below.setCell ?_ (by first | omega | (simp; omega) | (simp; done)) _))⟩

set_option maxHeartbeats 400000 in
theorem parent_err {B : Nat} {ev : Nat → Addr} (a k : Int) (c : Nat) (w : World) (hE : ErrC B ev w) (h : upE a k = c + 1) :
    Calls Tryz.prog 126 #[.agg #[.int .i64 a, .int .i64 k]] w fun e w' => e = .returned (.tuple #[.agg #[.int .i64 0, .int .i64 0], .iface 291 (.pointer (some (ev (c + 1))))]) ∧ Below w.heap.size w w' := by
  have hB := hE.size
  rcases upE_cases h with h | ⟨ha, rfl, rfl⟩
  · go_enter Tryz.func126, Tryz.ntmps126
    go_wp2_with fail
    refine (look_err a k c _ (hE.below (by repeat (first | exact Below.refl _ _ | refine Below.drew ?_ | refine below_drewN ?_ _ | refine Below.trans ?_ (Below.mono (by assumption) (by first | omega | (simp; omega) | (simp; done))) | refine Below.alloc ?_ (by first | omega | (simp; omega) | (simp; done)) _ | refine Below.setCell ?_ (by first | omega | (simp; omega) | (simp; done)) _))) h).mono ?_
    rintro e w1 ⟨rfl, hb⟩
    obtain ⟨hc, hf⟩ := bcell hb
    have hz := hb.size
    simp at hz hc hf
    go_wp2
    exact bodyPost_ret (v := .tuple #[.agg #[.int .i64 0, .int .i64 0], .iface 291 (.pointer (some (ev (c + 1))))]) (by simp [results, Tryz.results126, go_sem, hc]) rfl ⟨rfl, (by repeat (first | exact Below.refl _ _ | refine Below.drew ?_ | refine below_drewN ?_ _ | refine Below.trans ?_ (Below.mono (by assumption) (by first | omega | (simp; omega) | (simp; done))) | refine Below.alloc ?_ (by first | omega | (simp; omega) | (simp; done)) _ | refine Below.setCell ?_ (by first | omega | (simp; omega) | (simp; done)) _))⟩
  · have e4 : errV ev 4 = .iface 291 (.pointer (some (ev (3 + 1)))) := rfl
    go_enter Tryz.func126, Tryz.ntmps126
    go_wp2_with fail
    refine (look_ok a 6 _ (hE.below (by repeat (first | exact Below.refl _ _ | refine Below.drew ?_ | refine below_drewN ?_ _ | refine Below.trans ?_ (Below.mono (by assumption) (by first | omega | (simp; omega) | (simp; done))) | refine Below.alloc ?_ (by first | omega | (simp; omega) | (simp; done)) _ | refine Below.setCell ?_ (by first | omega | (simp; omega) | (simp; done)) _))) ha).mono ?_
    rintro e w1 ⟨rfl, hb⟩
    obtain ⟨hc, hf⟩ := bcell hb
    have hz := hb.size
    have h4 := (hE.below (by repeat (first | exact Below.refl _ _ | refine Below.drew ?_ | refine below_drewN ?_ _ | refine Below.trans ?_ (Below.mono (by assumption) (by first | omega | (simp; omega) | (simp; done))) | refine Below.alloc ?_ (by first | omega | (simp; omega) | (simp; done)) _ | refine Below.setCell ?_ (by first | omega | (simp; omega) | (simp; done)) _)) : ErrC B ev w1).c4
    rw [e4] at h4
    have z4 := hE.z4
    simp at hz hc hf
    go_wp2
    go_region
    go_wp2
    exact bodyPost_ret (v := .tuple #[.agg #[.int .i64 0, .int .i64 0], .iface 291 (.pointer (some (ev (3 + 1))))]) (by simp [results, Tryz.results126, go_sem, hc]) rfl ⟨rfl, (by repeat (first | exact Below.refl _ _ | refine Below.drew ?_ | refine below_drewN ?_ _ | refine Below.trans ?_ (Below.mono (by assumption) (by first | omega | (simp; omega) | (simp; done))) | refine Below.alloc ?_ (by first | omega | (simp; omega) | (simp; done)) _ | refine Below.setCell ?_ (by first | omega | (simp; omega) | (simp; done)) _))⟩
end Go.Proofs.YtcokmiidgdmdlaaGreatDoor

namespace Go.Proofs.YtcokmiidgdmdlaaGreatDoor
open Go.RowKit
set_option linter.unusedSimpArgs false

set_option maxHeartbeats 400000 in
/-- Buddy of a right block below the greatest order -/
theorem buddy_ok {B : Nat} {ev : Nat → Addr} (a k : Int) (w : World) (hE : ErrC B ev w) (h : upE a k = 0) :
    Calls Tryz.prog 125 #[.agg #[.int .i64 a, .int .i64 k]] w fun e w' => e = .returned (.tuple #[.agg #[.int .i64 (budA a k), .int .i64 k], .nilIface]) ∧ Below w.heap.size w w' := by
  obtain ⟨ha, hk⟩ := upE_zero h
  obtain ⟨a0, a1, k0, k6, _⟩ := aloneE_zero ha
  have hB := hE.size
  have hs := shl_sz' k0 k6
  have hn := xor_sz a0 (by omega) k0 k6
  go_enter Tryz.func125, Tryz.ntmps125
  go_wp2_with fail
  refine (parent_ok a k _ (hE.below (by repeat (first | exact Below.refl _ _ | refine Below.drew ?_ | refine below_drewN ?_ _ | refine Below.trans ?_ (Below.mono (by assumption) (by first | omega | (simp; omega) | (simp; done))) | refine Below.alloc ?_ (by first | omega | (simp; omega) | (simp; done)) _ | refine Below.setCell ?_ (by first | omega | (simp; omega) | (simp; done)) _))) h).mono ?_
  rintro e w1 ⟨rfl, hb⟩
  obtain ⟨hc, hf⟩ := bcell hb
  have hz := hb.size
  simp at hz hc hf
  have z0 : w.heap.size < w1.heap.size := by omega
  have z1 : w.heap.size + 1 < w1.heap.size := by omega
  go_wp2
  go_region
  go_wp2
  exact bodyPost_ret (v := .tuple #[.agg #[.int .i64 (budA a k), .int .i64 k], .nilIface]) (by simp [results, Tryz.results125, go_sem, hc, z0, z1]) rfl ⟨rfl, (by repeat (first | exact Below.refl _ _ | refine Below.drew ?_ | refine below_drewN ?_ _ | refine Below.trans ?_ (Below.mono (by assumption) (by first | omega | (simp; omega) | (simp; done))) | refine Below.alloc ?_ (by first | omega | (simp; omega) | (simp; done)) _ | refine Below.setCell ?_ (by first | omega | (simp; omega) | (simp; done)) _))⟩

set_option maxHeartbeats 400000 in
theorem buddy_err {B : Nat} {ev : Nat → Addr} (a k : Int) (c : Nat) (w : World) (hE : ErrC B ev w) (h : upE a k = c + 1) :
    Calls Tryz.prog 125 #[.agg #[.int .i64 a, .int .i64 k]] w fun e w' => e = .returned (.tuple #[.agg #[.int .i64 0, .int .i64 0], .iface 291 (.pointer (some (ev (c + 1))))]) ∧ Below w.heap.size w w' := by
  have hB := hE.size
  go_enter Tryz.func125, Tryz.ntmps125
  go_wp2_with fail
  refine (parent_err a k c _ (hE.below (by repeat (first | exact Below.refl _ _ | refine Below.drew ?_ | refine below_drewN ?_ _ | refine Below.trans ?_ (Below.mono (by assumption) (by first | omega | (simp; omega) | (simp; done))) | refine Below.alloc ?_ (by first | omega | (simp; omega) | (simp; done)) _ | refine Below.setCell ?_ (by first | omega | (simp; omega) | (simp; done)) _))) h).mono ?_
  rintro e w1 ⟨rfl, hb⟩
  obtain ⟨hc, hf⟩ := bcell hb
  have hz := hb.size
  simp at hz hc hf
  have z0 : w.heap.size < w1.heap.size := by omega
  have z1 : w.heap.size + 1 < w1.heap.size := by omega
  go_wp2
  exact bodyPost_ret (v := .tuple #[.agg #[.int .i64 0, .int .i64 0], .iface 291 (.pointer (some (ev (c + 1))))]) (by simp [results, Tryz.results125, go_sem, hc, z0, z1]) rfl ⟨rfl, (by repeat (first | exact Below.refl _ _ | refine Below.drew ?_ | refine below_drewN ?_ _ | refine Below.trans ?_ (Below.mono (by assumption) (by first | omega | (simp; omega) | (simp; done))) | refine Below.alloc ?_ (by first | omega | (simp; omega) | (simp; done)) _ | refine Below.setCell ?_ (by first | omega | (simp; omega) | (simp; done)) _))⟩

set_option maxHeartbeats 400000 in
/-- Halves of a right block of an order above 0 -/
theorem halves_ok {B : Nat} {ev : Nat → Addr} (a k : Int) (w : World) (hE : ErrC B ev w) (h : downE a k = 0) :
    Calls Tryz.prog 113 #[.agg #[.int .i64 a, .int .i64 k]] w fun e w' => e = .returned (.tuple #[.agg #[.int .i64 a, .int .i64 (k - 1)], .agg #[.int .i64 (a + sz (k - 1)), .int .i64 (k - 1)], .nilIface]) ∧ Below w.heap.size w w' := by
  obtain ⟨ha, hk⟩ := downE_zero h
  obtain ⟨a0, a1, k0, k6, _⟩ := aloneE_zero ha
  have hB := hE.size
  have k1 : 1 ≤ k := by omega
  have hs : wrap64 (2 ^ (k.toNat - 1)) = sz (k - 1) := by
    have e : (k - 1).toNat = k.toNat - 1 := by omega
    rw [← e]; exact shl_sz' (k := k - 1) (by omega) (by omega)
  obtain ⟨s1, s2⟩ := sz_bd (k := k - 1) (by omega) (by omega)
  go_enter Tryz.func113, Tryz.ntmps113
  go_wp2_with fail
  refine (look_ok a k _ (hE.below (by repeat (first | exact Below.refl _ _ | refine Below.drew ?_ | refine below_drewN ?_ _ | refine Below.trans ?_ (Below.mono (by assumption) (by first | omega | (simp; omega) | (simp; done))) | refine Below.alloc ?_ (by first | omega | (simp; omega) | (simp; done)) _ | refine Below.setCell ?_ (by first | omega | (simp; omega) | (simp; done)) _))) ha).mono ?_
  rintro e w1 ⟨rfl, hb⟩
  obtain ⟨hc, hf⟩ := bcell hb
  have hz := hb.size
  simp at hz hc hf
  have z0 : w.heap.size < w1.heap.size := by omega
  have z1 : w.heap.size + 1 < w1.heap.size := by omega
  go_wp2
  go_region
  go_wp2
  exact bodyPost_ret (v := .tuple #[.agg #[.int .i64 a, .int .i64 (k - 1)], .agg #[.int .i64 (a + sz (k - 1)), .int .i64 (k - 1)], .nilIface]) (by simp [results, Tryz.results113, go_sem, hc, z0, z1]) rfl ⟨rfl, (by repeat (first | exact Below.refl _ _ | refine Below.drew ?_ | refine below_drewN ?_ _ | refine Below.trans ?_ (Below.mono (by assumption) (by first | omega | (simp; omega) | (simp; done))) | refine Below.alloc ?_ (by first | omega | (simp; omega) | (simp; done)) _ | refine Below.setCell ?_ (by first | omega | (simp; omega) | (simp; done)) _))⟩

set_option maxHeartbeats 400000 in
theorem halves_err {B : Nat} {ev : Nat → Addr} (a k : Int) (c : Nat) (w : World) (hE : ErrC B ev w) (h : downE a k = c + 1) :
    Calls Tryz.prog 113 #[.agg #[.int .i64 a, .int .i64 k]] w fun e w' => e = .returned (.tuple #[.agg #[.int .i64 0, .int .i64 0], .agg #[.int .i64 0, .int .i64 0], .iface 291 (.pointer (some (ev (c + 1))))]) ∧ Below w.heap.size w w' := by
  have hB := hE.size
  rcases downE_cases h with h | ⟨ha, rfl, rfl⟩
  · go_enter Tryz.func113, Tryz.ntmps113
    go_wp2_with fail
    refine (look_err a k c _ (hE.below (by repeat (first | exact Below.refl _ _ | refine Below.drew ?_ | refine below_drewN ?_ _ | refine Below.trans ?_ (Below.mono (by assumption) (by first | omega | (simp; omega) | (simp; done))) | refine Below.alloc ?_ (by first | omega | (simp; omega) | (simp; done)) _ | refine Below.setCell ?_ (by first | omega | (simp; omega) | (simp; done)) _))) h).mono ?_
    rintro e w1 ⟨rfl, hb⟩
    obtain ⟨hc, hf⟩ := bcell hb
    have hz := hb.size
    simp at hz hc hf
    have z0 : w.heap.size < w1.heap.size := by omega
    have z1 : w.heap.size + 1 < w1.heap.size := by omega
    go_wp2
    exact bodyPost_ret (v := .tuple #[.agg #[.int .i64 0, .int .i64 0], .agg #[.int .i64 0, .int .i64 0], .iface 291 (.pointer (some (ev (c + 1))))]) (by simp [results, Tryz.results113, go_sem, hc, z0, z1]) rfl ⟨rfl, (by repeat (first | exact Below.refl _ _ | refine Below.drew ?_ | refine below_drewN ?_ _ | refine Below.trans ?_ (Below.mono (by assumption) (by first | omega | (simp; omega) | (simp; done))) | refine Below.alloc ?_ (by first | omega | (simp; omega) | (simp; done)) _ | refine Below.setCell ?_ (by first | omega | (simp; omega) | (simp; done)) _))⟩
  · have e4 : errV ev 4 = .iface 291 (.pointer (some (ev (3 + 1)))) := rfl
    go_enter Tryz.func113, Tryz.ntmps113
    go_wp2_with fail
    refine (look_ok a 0 _ (hE.below (by repeat (first | exact Below.refl _ _ | refine Below.drew ?_ | refine below_drewN ?_ _ | refine Below.trans ?_ (Below.mono (by assumption) (by first | omega | (simp; omega) | (simp; done))) | refine Below.alloc ?_ (by first | omega | (simp; omega) | (simp; done)) _ | refine Below.setCell ?_ (by first | omega | (simp; omega) | (simp; done)) _))) ha).mono ?_
    rintro e w1 ⟨rfl, hb⟩
    obtain ⟨hc, hf⟩ := bcell hb
    have hz := hb.size
    have h4 := (hE.below (by repeat (first | exact Below.refl _ _ | refine Below.drew ?_ | refine below_drewN ?_ _ | refine Below.trans ?_ (Below.mono (by assumption) (by first | omega | (simp; omega) | (simp; done))) | refine Below.alloc ?_ (by first | omega | (simp; omega) | (simp; done)) _ | refine Below.setCell ?_ (by first | omega | (simp; omega) | (simp; done)) _)) : ErrC B ev w1).c4
    rw [e4] at h4
    have z4 := hE.z4
    simp at hz hc hf
    have z0 : w.heap.size < w1.heap.size := by omega
    have z1 : w.heap.size + 1 < w1.heap.size := by omega
    go_wp2
    go_region
    go_wp2
    exact bodyPost_ret (v := .tuple #[.agg #[.int .i64 0, .int .i64 0], .agg #[.int .i64 0, .int .i64 0], .iface 291 (.pointer (some (ev (3 + 1))))]) (by simp [results, Tryz.results113, go_sem, hc, z0, z1]) rfl ⟨rfl, (by repeat (first | exact Below.refl _ _ | refine Below.drew ?_ | refine below_drewN ?_ _ | refine Below.trans ?_ (Below.mono (by assumption) (by first | omega | (simp; omega) | (simp; done))) | refine Below.alloc ?_ (by first | omega | (simp; omega) | (simp; done)) _ | refine Below.setCell ?_ (by first | omega | (simp; omega) | (simp; done)) _))⟩

end Go.Proofs.YtcokmiidgdmdlaaGreatDoor

namespace Go.Proofs.YtcokmiidgdmdlaaGreatDoor
open Go.RowKit
set_option linter.unusedSimpArgs false

theorem isOrder_any (k : Int) (w : World) : Calls Tryz.prog 75 #[.int .i64 k] w fun e w' => e = .returned (.bool (decide (0 ≤ k ∧ k ≤ 6))) ∧ w = w' := by
  by_cases h0 : 0 ≤ k
  · by_cases h6 : k ≤ 6
    · rw [decide_eq_true (show 0 ≤ k ∧ k ≤ 6 from ⟨h0, h6⟩)]
      go_enter Tryz.func75, Tryz.ntmps75
      go_wp2
      go_ret
      exact ⟨rfl, rfl⟩
    · rw [decide_eq_false (show ¬ (0 ≤ k ∧ k ≤ 6) by omega)]
      go_enter Tryz.func75, Tryz.ntmps75
      go_wp2
      go_ret
      exact ⟨by simp, rfl⟩
  · rw [decide_eq_false (show ¬ (0 ≤ k ∧ k ≤ 6) by omega)]
    go_enter Tryz.func75, Tryz.ntmps75
    go_wp2
    go_ret
    exact ⟨rfl, rfl⟩
theorem isOrder_yes (k : Int) (w : World) (h : 0 ≤ k ∧ k ≤ 6) : Calls Tryz.prog 75 #[.int .i64 k] w fun e w' => e = .returned (.bool true) ∧ w = w' := by
  have := isOrder_any k w; rwa [decide_eq_true h] at this
theorem isOrder_no (k : Int) (w : World) (h : k < 0 ∨ 6 < k) : Calls Tryz.prog 75 #[.int .i64 k] w fun e w' => e = .returned (.bool false) ∧ w = w' := by
  have := isOrder_any k w; rwa [decide_eq_false (show ¬ (0 ≤ k ∧ k ≤ 6) by omega)] at this

theorem pages_any (k : Int) (w : World) (k0 : 0 ≤ k) (k7 : k ≤ 7) : Calls Tryz.prog 132 #[.int .i64 k] w fun e w' => e = .returned (.int .i64 (sz k)) ∧ w = w' := by
  go_enter Tryz.func132, Tryz.ntmps132
  go_wp2
  go_loop [3, 4] (fun n i => ∃ j : Nat, (j : Int) ≤ k ∧ i = .int .i64 j ∧ n = .int .i64 (sz j)) (fun _ i => k.toNat - (intOf i).toNat)
  case atStart => exact ⟨0, by omega, rfl, rfl⟩
  case round =>
    obtain ⟨j, hj, rfl, rfl⟩ := hrel
    obtain ⟨s1, s2⟩ := sz_bd7 (k := (j : Int)) (by omega) (by omega)
    by_cases hlt : (j : Int) < k
    · have hs := sz_succ (k := (j : Int)) (by omega) (by omega)
      have HS := Lib.hid hs
      clear hs
      go_wp2
      go_round
      case rel => exact ⟨j + 1, by omega, by go_num, by rw [show ((j + 1 : Nat) : Int) = (j : Int) + 1 from by omega, HS.out]⟩
      case measure => simp [intOf]; omega
    · have e : (j : Int) = k := by omega
      have E := Lib.hid e
      clear e
      go_wp2
      go_ret
      exact ⟨by rw [← E.out]; rfl, rfl⟩

end Go.Proofs.YtcokmiidgdmdlaaGreatDoor

namespace Go.Proofs.YtcokmiidgdmdlaaGreatDoor
open Go.RowKit
set_option linter.unusedSimpArgs false

set_option maxHeartbeats 1000000 in
theorem parentOf_ok (a k : Int) (w : World) (a0 : 0 ≤ a) (a1 : a ≤ 255) (k0 : 0 ≤ k) (k5 : k ≤ 5) (ha : a % sz k = 0) :
    Calls Tryz.prog 130 #[.agg #[.int .i64 a, .int .i64 k]] w fun e w' => e = .returned (.agg #[.int .i64 (parA a k), .int .i64 (k + 1)]) ∧ Below w.heap.size w w' := by
  obtain ⟨p0, p1⟩ := kin_p a0 a1 k0 k5 ha
  have hm : wrap64 (a / sz (k + 1) * sz (k + 1)) = parA a k := by
    rw [kin_q a0 a1 k0 k5 ha]
    exact IntWalk.wrap64_in _ ⟨by omega, by omega⟩
  obtain ⟨s1, s2⟩ := sz_bd7 (k := k + 1) (by omega) (by omega)
  clear ha
  generalize parA a k = p at *
  generalize hq : sz (k + 1) = s at *
  have HQ := Lib.hid hq
  clear hq
  go_enter Tryz.func130, Tryz.ntmps130
  go_wp2_with (go_at_call 132; refine (pages_any _ _ (by omega) (by omega)).mono ?_; rintro e w' ⟨rfl, rfl⟩; rw [HQ.out])
  go_region
  go_wp2
  exact bodyPost_ret (v := .agg #[.int .i64 p, .int .i64 (k + 1)]) (by simp [results, Tryz.results130, go_sem]) rfl ⟨rfl, (by repeat (first | exact Below.refl _ _ | refine Below.drew ?_ | refine below_drewN ?_ _ | refine Below.trans ?_ (Below.mono (by assumption) (by first | omega | (simp; omega) | (simp; done))) | refine Below.alloc ?_ (by first | omega | (simp; omega) | (simp; done)) _ | refine Below.setCell ?_ (by first | omega | (simp; omega) | (simp; done)) _))⟩

set_option maxHeartbeats 1000000 in
set_option maxRecDepth 100000 in
theorem buddyOf_ok (a k : Int) (w : World) (a0 : 0 ≤ a) (a1 : a ≤ 255) (k0 : 0 ≤ k) (k5 : k ≤ 5) (ha : a % sz k = 0) :
    Calls Tryz.prog 129 #[.agg #[.int .i64 a, .int .i64 k]] w fun e w' => e = .returned (.agg #[.int .i64 (budA a k), .int .i64 k]) ∧ Below w.heap.size w w' := by
  obtain ⟨p0, p1⟩ := kin_p a0 a1 k0 k5 ha
  have hb := kin_b a0 a1 k0 k5 ha
  obtain ⟨s1, s2⟩ := sz_bd k0 (by omega : k ≤ 6)
  have hP := parentOf_ok a k
  generalize parA a k = p at *
  generalize budA a k = x at *
  rcases hb with ⟨rfl, rfl⟩ | ⟨hpa, rfl⟩
  · go_enter Tryz.func129, Tryz.ntmps129
    go_wp2_with fail
    refine (hP _ a0 a1 k0 k5 ha).mono ?_
    rintro e w1 ⟨rfl, hb1⟩; obtain ⟨c1, f1⟩ := bcell hb1; have z1 := hb1.size; try simp at z1 c1 f1
    have l0 : w.heap.size < w1.heap.size := by omega
    have l1 : w.heap.size + 1 < w1.heap.size := by omega
    clear hP
    go_wp2
    have hw : IntKind.i64.wrap (p + sz k) = p + sz k := IntWalk.i64_in _ (by omega)
    go_region_with ((go_at_call 132; refine (pages_any _ _ k0 (by omega)).mono ?_; rintro e w' ⟨rfl, rfl⟩))
    all_goals go_wp2
    all_goals exact bodyPost_ret (v := .agg #[.int .i64 (p + sz k), .int .i64 k]) (by simp [results, Tryz.results129, go_sem, c1, l0, l1, hw]) rfl ⟨rfl, (by repeat (first | exact Below.refl _ _ | refine Below.drew ?_ | refine below_drewN ?_ _ | refine Below.trans ?_ (Below.mono (by assumption) (by first | omega | (simp; omega) | (simp; done))) | refine Below.alloc ?_ (by first | omega | (simp; omega) | (simp; done)) _ | refine Below.setCell ?_ (by first | omega | (simp; omega) | (simp; done)) _))⟩
  · have hne : (x == a) = false := by simpa using hpa
    clear hpa
    go_enter Tryz.func129, Tryz.ntmps129
    go_wp2_with fail
    refine (hP _ a0 a1 k0 k5 ha).mono ?_
    rintro e w1 ⟨rfl, hb1⟩; obtain ⟨c1, f1⟩ := bcell hb1; have z1 := hb1.size; try simp at z1 c1 f1
    have l0 : w.heap.size < w1.heap.size := by omega
    have l1 : w.heap.size + 1 < w1.heap.size := by omega
    clear hP
    go_wp2
    exact bodyPost_ret (v := .agg #[.int .i64 x, .int .i64 k]) (by simp [results, Tryz.results129, go_sem, c1, l0, l1]) rfl ⟨rfl, (by repeat (first | exact Below.refl _ _ | refine Below.drew ?_ | refine below_drewN ?_ _ | refine Below.trans ?_ (Below.mono (by assumption) (by first | omega | (simp; omega) | (simp; done))) | refine Below.alloc ?_ (by first | omega | (simp; omega) | (simp; done)) _ | refine Below.setCell ?_ (by first | omega | (simp; omega) | (simp; done)) _))⟩
end Go.Proofs.YtcokmiidgdmdlaaGreatDoor

namespace Go.Proofs.YtcokmiidgdmdlaaGreatDoor
open Go.RowKit

/-- w' is w but for the blocks of S and for new ones -/
structure Keep (S : List Nat) (w w' : World) : Prop where
  os : w'.os = w.os
  tape : w'.tape = w.tape
  output : w'.output = w.output
  size : w.heap.size ≤ w'.heap.size
  block : ∀ k, k < w.heap.size → k ∉ S → w'.heap[k]? = w.heap[k]?

theorem Keep.refl (S : List Nat) (w : World) : Keep S w w := ⟨rfl, rfl, rfl, Nat.le_refl _, fun _ _ _ => rfl⟩
theorem Keep.of {S : List Nat} {w w' : World} (h : Below w.heap.size w w') : Keep S w w' := ⟨h.os, h.tape, h.output, h.size, fun k hk _ => h.block k hk⟩
/-- two steps; what the second one may write into is in S, or was not there at the beginning -/
theorem Keep.trans {S S' : List Nat} {a b c : World} (h : Keep S a b) (k : Keep S' b c) (hs : ∀ s ∈ S', s ∈ S ∨ a.heap.size ≤ s) : Keep S a c :=
  ⟨k.os.trans h.os, k.tape.trans h.tape, k.output.trans h.output, Nat.le_trans h.size k.size, fun i hi hn =>
    (k.block i (Nat.lt_of_lt_of_le hi h.size) (fun hm => by rcases hs i hm with q | q; (· exact hn q); (· omega))).trans (h.block i hi hn)⟩
theorem Keep.then {S : List Nat} {a b c : World} (h : Keep S a b) (k : Keep S b c) : Keep S a c := h.trans k fun _ q => .inl q
theorem Keep.mono {S S' : List Nat} {w w' : World} (h : Keep S w w') (hs : ∀ s ∈ S, s ∈ S') : Keep S' w w' := ⟨h.os, h.tape, h.output, h.size, fun k hk hn => h.block k hk fun q => hn (hs k q)⟩
/-- what may be written into lies from B on -/
theorem Keep.below {S : List Nat} {B : Nat} {w w' : World} (h : Keep S w w') (hB : B ≤ w.heap.size) (hs : ∀ s ∈ S, B ≤ s) : Below B w w' :=
  ⟨h.os, h.tape, h.output, h.size, fun k hk => h.block k (by omega) fun q => by have := hs k q; omega⟩
theorem Keep.belowN {w w' : World} (h : Keep [] w w') : Below w.heap.size w w' := h.below (Nat.le_refl _) (fun _ q => by cases q)
theorem Keep.after {S : List Nat} {B : Nat} {w0 w w' : World} (h : Below B w0 w) (k : Keep S w w') (hB : B ≤ w.heap.size) (hs : ∀ s ∈ S, B ≤ s) : Below B w0 w' := h.trans (k.below hB hs)
theorem Keep.step {S : List Nat} {a b c : World} (h : Keep S a b) (k : Below b.heap.size b c) : Keep S a c := h.trans (S' := []) (Keep.of k) (fun _ q => by cases q)
theorem Keep.low {S : List Nat} {a b c : World} {n : Nat} (h : Keep S a b) (k : Below n b c) (hn : a.heap.size ≤ n) : Keep S a c :=
  ⟨k.os.trans h.os, k.tape.trans h.tape, k.output.trans h.output, Nat.le_trans h.size k.size, fun i hi hq => (k.block i (by omega)).trans (h.block i hi hq)⟩
theorem Keep.grown {S : List Nat} {a b c : World} {r : Nat} (h : Keep S a b) (k : b.grownBy c (some r)) (hr : r ∈ S ∨ a.heap.size ≤ r) : Keep S a c :=
  h.trans (S' := [r]) ⟨k.os, k.tape, k.output, k.size, fun i hi hn => k.block i hi (by simp at hn ⊢; exact hn)⟩ fun s q => by simp at q; subst q; exact hr
theorem Keep.alloc {S : List Nat} {a b : World} (h : Keep S a b) (o : Obj) : Keep S a (b.alloc o) :=
  h.step ((Below.refl _ _).alloc (Nat.le_refl _) o)
theorem Keep.drew {S : List Nat} {a b : World} (h : Keep S a b) : Keep S a b.drew := h.step (Below.refl _ _).drew
theorem Keep.drewN {S : List Nat} {a b : World} (h : Keep S a b) (n : Nat) : Keep S a (b.drewN n) := h.step (below_drewN (Below.refl _ _) _)
theorem Keep.setCell {S : List Nat} {a b : World} (h : Keep S a b) {p : Addr} (hp : p.block ∈ S ∨ a.heap.size ≤ p.block) (u : Value) : Keep S a (b.setCell p u) :=
  ⟨h.os, h.tape, h.output, by simpa [World.setCell] using h.size, fun i hi hq => (Below.heap_setCell _ _ _ _ (by rcases hp with q | q; (· exact fun e => hq (e ▸ q)); (· omega))).trans (h.block i hi hq)⟩
theorem Keep.cell {S : List Nat} {w w' : World} (h : Keep S w w') {b o : Nat} (hb : b < w.heap.size) (hn : b ∉ S) : w'.cell? ⟨b, o, none⟩ = w.cell? ⟨b, o, none⟩ := World.cell?_of_block (w := w) (h.block b hb hn)
theorem Keep.frozen {S : List Nat} {w w' : World} (h : Keep S w w') {b o : Nat} (hb : b < w.heap.size) (hn : b ∉ S) : w'.frozen? ⟨b, o, none⟩ = w.frozen? ⟨b, o, none⟩ := World.frozen?_of_block (w := w) (h.block b hb hn)
theorem Keep.only {w w' : World} {S : List Nat} {n : Nat} (h : Keep S w w') (hs : ∀ s ∈ S, n ≤ s) (hn : n ≤ w.heap.size) : Below n w w' := h.below hn hs
end Go.Proofs.YtcokmiidgdmdlaaGreatDoor

namespace Go.Proofs.YtcokmiidgdmdlaaGreatDoor
open Go.RowKit

/-- a world behind w: all that was in w is as it was -/
structure Behind (w : World) where
  w' : World
  h : Below w.heap.size w w'

instance behindNonempty (w : World) : Nonempty (Behind w) := ⟨⟨w, Below.refl _ _⟩⟩

theorem behind_out {w w' : World} (h : ∃ p : Behind w, w' = p.w') : Below w.heap.size w w' := by
  obtain ⟨p, hp⟩ := h
  rw [hp]; exact p.h

theorem wp_region_behind {P : Program} {id : Nat} {Q : Exit → Act → World → Prop} {a : Act} {w : World} {l : List Oper} (hm : P.follows .mixedOrders = true) (hB : Region.lexB .any l.toArray = true)
    (h : wpQuiet P l.toArray (fun w' => ∃ p : Behind w, w' = p.w') (fun a' => ∀ w', (∃ p : Behind w, w' = p.w') → Q .normal a' w') l a) : (Code.region id l.toArray true).wp P Q a w :=
  wp_region_quiet (C := fun w' => ∃ p : Behind w, w' = p.w') hm hB ⟨⟨w.drew, (Below.refl _ _).drew⟩, rfl⟩ (by simpa using h)

@[go_sem] theorem Behind.cell {w : World} (p : Behind w) (b o : Nat) (h : b < w.heap.size) : p.w'.cell? ⟨b, o, none⟩ = w.cell? ⟨b, o, none⟩ := p.h.cell (p := ⟨b, o, none⟩) h
@[go_sem] theorem Behind.frozen {w : World} (p : Behind w) (b o : Nat) (h : b < w.heap.size) : p.w'.frozen? ⟨b, o, none⟩ = w.frozen? ⟨b, o, none⟩ := p.h.frozen (p := ⟨b, o, none⟩) h

/-- a callee's contract, met behind w -/
theorem _root_.Go.Calls.behind {P : Program} {f : FuncId} {args : Array Value} {w : World} {p : Behind w} {v : Value}
    (h : Calls P f args p.w' fun e w' => e = .returned v ∧ Below p.w'.heap.size p.w' w') : Calls P f args p.w' fun e w'' => e = .returned v ∧ ∃ q : Behind w, w'' = q.w' :=
  h.mono fun _ w'' ⟨he, hb⟩ => ⟨he, ⟨w'', p.h.trans (hb.mono p.h.size)⟩, rfl⟩
theorem _root_.Go.Calls.behind_same {P : Program} {f : FuncId} {args : Array Value} {w : World} {p : Behind w} {v : Value}
    (h : Calls P f args p.w' fun e w' => e = .returned v ∧ p.w' = w') : Calls P f args p.w' fun e w'' => e = .returned v ∧ ∃ q : Behind w, w'' = q.w' :=
  h.mono fun _ _ ⟨he, hb⟩ => ⟨he, p, hb.symm⟩
end Go.Proofs.YtcokmiidgdmdlaaGreatDoor

namespace Go.Proofs.YtcokmiidgdmdlaaGreatDoor
open Go.RowKit
theorem wp_tail {P : Program} {id : Nat} {Q : Exit → Act → World → Prop} {a : Act} {w : World} {l : List Oper} (n : Nat) (hm : P.follows .mixedOrders = true) (hB : Region.lexTailB .any l.toArray n = true)
    (h : wpStill P l.toArray w.drew (fun a' => wpList P l.toArray Q (l.drop n) a' w.drew) (l.take n) a) : (Code.region id l.toArray true).wp P Q a w :=
  wp_region_still_tail n hm hB h
end Go.Proofs.YtcokmiidgdmdlaaGreatDoor

namespace Go.Proofs.YtcokmiidgdmdlaaGreatDoor
open Go.RowKit
set_option linter.unusedSimpArgs false

/-- blocks as cells -/
def encB (l : List (Int × Int)) : List Value := l.flatMap fun b => [.int .i64 b.1, .int .i64 b.2]
theorem encB_snoc (l : List (Int × Int)) (b : Int × Int) : encB (l ++ [b]) = encB l ++ [.int .i64 b.1, .int .i64 b.2] := by simp [encB]
theorem encB_length (l : List (Int × Int)) : (encB l).length = 2 * l.length := by
  induction l with
  | nil => rfl
  | cons b r ih => simp [encB] at ih ⊢; omega
theorem infoB : (Tryz.prog.info? 39).map (fun i => (i.zero, i.size, i.bytes)) = some (some (.agg #[.int .i64 0, .int .i64 0]), 2, 16) := by kernel_rfl

theorem new_two (w : World) (u0 u1 : Value) (t : TypeId) : ∀ j u, [u0, u1][j]? = some u → (w.alloc (.cells #[u0, u1] t)).cell? ((⟨w.heap.size, 0, none⟩ : Addr).add j) = some u := by
  intro j u hu
  match j, hu with
  | 0, hu => simp at hu; subst hu; simp [Addr.add]
  | 1, hu => simp at hu; subst hu; simp [Addr.add]
theorem one_two (a k : Int) : ∀ u ∈ [Value.int .i64 a, Value.int .i64 k], u.oneCell' = true := by
  intro u hu
  simp at hu
  rcases hu with rfl | rfl <;> rfl

/-- a slice of blocks of the call's own -/
def OwnB (w w' : World) (v : Value) (l : List (Int × Int)) : Prop := w'.ownsRow w.heap.size 39 2 v l.length (encB l) ∧ Below w.heap.size w w'
/-- what Cover answers -/
def CovPost (w : World) (l : List (Int × Int)) (x : Value) (e : Ending) (w' : World) : Prop := ∃ v, e = .returned (.tuple #[v, x]) ∧ OwnB w w' v l

set_option maxHeartbeats 2000000 in
set_option maxRecDepth 100000 in
theorem cover_ok (a n : Int) (w : World) (a0 : 0 ≤ a) (n0 : 0 ≤ n) (h : a + n ≤ 256) :
    Calls Tryz.prog 106 #[.int .i64 a, .int .i64 n] w (CovPost w (covL a n) .nilIface) := by
  obtain ⟨i0, hi, hz0, hz1, hz2⟩ := info_parts infoB
  have hlen := covL_length n.toNat a n (Nat.le_refl _)
  have d1 : decide (a < 0) = false := decide_eq_false (by omega)
  have d2 : decide (n < 0) = false := decide_eq_false (by omega)
  have d3 : decide (256 < a) = false := decide_eq_false (by omega)
  have d4 : decide (256 - a < n) = false := decide_eq_false (by omega)
  go_enter Tryz.func106, Tryz.ntmps106
  go_wp2_with fail
  clear d1 d2 d3 d4
  go_loopw [0, 1, 6] (fun xa xn v wr => ∃ (x m : Int) (done : List (Int × Int)), xa = .int .i64 x ∧ xn = .int .i64 m ∧ 0 ≤ x ∧ 0 ≤ m ∧ x + m ≤ 256 ∧ covL a n = done ++ covL x m ∧ wr.ownsRow w.heap.size 39 2 v done.length (encB done) ∧ Below w.heap.size w wr) (fun _ xn _ _ => (intOf xn).toNat)
  case atStart => exact ⟨a, n, [], rfl, rfl, a0, n0, h, rfl, World.ownsRow_nil _ _ _ _, Below.refl _ _⟩
  case round =>
    obtain ⟨x, m, done, rfl, rfl, x0, m0, hxm, hcov, hown, hbel⟩ := hrel
    have hdl : (done.length : Int) ≤ n.toNat := by rw [hcov] at hlen; simp at hlen; omega
    by_cases hm : m < 1
    · have e : m = 0 := by omega
      subst e
      rw [covL_zero (Int.le_refl _), List.append_nil] at hcov
      have HC := Lib.hid hcov
      clear hcov
      go_wp2
      go_ret2
      exact ⟨_, rfl, by rw [HC.out]; exact ⟨hown, hbel⟩⟩
    · have hst := covL_step (a := x) (n := m) (by omega)
      obtain ⟨k0, k6⟩ := covO_bd x m
      obtain ⟨s1, s2⟩ := sz_bd k0 k6
      obtain ⟨f1, f2⟩ := covO_fits (a := x) (n := m) (by omega)
      have hmax := fun j : Int => covO_max (a := x) (n := m) (k := j)
      have hm1 : 1 ≤ m := by omega
      clear hm
      generalize covO x m = k at *
      have HST := Lib.hid hst; have HMAX := Lib.hid hmax; have F1 := Lib.hid f1; have HC := Lib.hid hcov
      clear hst hmax f1 hcov
      go_wp2
      go_loop [7] (fun kv => ∃ j : Int, k ≤ j ∧ j ≤ 6 ∧ kv = .int .i64 j) (fun kv => (intOf kv).toNat)
      case atStart => exact ⟨6, k6, by omega, rfl⟩
      case round =>
        obtain ⟨j, hkj, hj6, rfl⟩ := hrel
        have hs := shl_sz' (k := j) (by omega) hj6
        have hn := and_sz (a := x) (k := j) x0 (by omega) (by omega) hj6
        obtain ⟨t1, t2⟩ := sz_bd (k := j) (by omega) hj6
        by_cases hlt : k < j
        · have hno := HMAX.out j hj6 hlt
          by_cases hx : x % sz j = 0
          · have hbig : m < sz j := by
              rcases Int.lt_or_le m (sz j) with h' | h'
              · exact h'
              · exact absurd ⟨hx, h'⟩ hno
            have hb : (x % sz j != 0) = false := by simp [hx]
            clear hno hx
            go_wp2
            go_round
            case rel => exact ⟨j - 1, by omega, by omega, rfl⟩
            case measure => simp [intOf]; omega
          · have hb : (x % sz j != 0) = true := by simp [hx]
            clear hno hx
            go_wp2
            go_round
            case rel => exact ⟨j - 1, by omega, by omega, rfl⟩
            case measure => simp [intOf]; omega
        · obtain rfl : j = k := by omega
          have hb : (x % sz j != 0) = false := by simp [F1.out]
          have hle : sz j ≤ m := f2
          go_wp2_with (first | (at_builtin; refine wpList_append_own _ rfl _ _ 126 rfl w.heap.size 39 i0 (.agg #[.int .i64 0, .int .i64 0]) 2 16 Tryz.underlying126 hi hz0 hz1 hz2 rfl (by decide) _ _ _ rfl (hown.alloc _) ⟨wr.heap.size, 0, none⟩ 1 1 [.int .i64 x, .int .i64 j] rfl rfl (new_two _ _ _ _) (one_two _ _) ?c3 ?c4 ?c5 ?_))
          case c3 => unfold maxLen; omega
          case c4 => omega
          case c5 => have := hbel.size; simp; omega
          intro v' w1 hown' hgrow _
          have hbel' : Below w.heap.size w w1 := (hbel.alloc hbel.size _).grown hgrow (by have := hbel.size; simp; omega) (fun r hr => (hown.lt r hr).1)
          have OW := Lib.hid hown'
          clear hown' hgrow hown hbel
          go_wp2
          go_quiet (fail)
          go_wp2
          go_roundw
          case rel =>
            refine ⟨x + sz j, m - sz j, done ++ [(x, j)], rfl, rfl, by omega, by omega, by omega, ?_, ?_, ?_⟩
            · rw [HC.out, HST.out]; simp
            · rw [encB_snoc]; exact (show w1.ownsRow _ _ _ _ _ _ by simpa using OW.out)
            · exact below_drewN hbel' _
          case measure => simp [intOf]; omega
end Go.Proofs.YtcokmiidgdmdlaaGreatDoor

namespace Go.Proofs.YtcokmiidgdmdlaaGreatDoor
open Go.RowKit
set_option linter.unusedSimpArgs false

/-- a slice value that reads as these blocks, below block number N -/
def RowB (N : Nat) (w : World) (v : Value) (l : List (Int × Int)) : Prop :=
  (v = .slice none 0 0 ∧ l = []) ∨ ∃ g cap, v = .slice (some ⟨g, 0, none⟩) l.length cap ∧ l.length ≤ maxLen ∧ g < N ∧ N ≤ w.heap.size ∧
    ∀ j a k, l[j]? = some (a, k) → w.cell? ⟨g, j * 2, none⟩ = some (.int .i64 a) ∧ w.cell? ⟨g, j * 2 + 1, none⟩ = some (.int .i64 k)

theorem encB_get : ∀ (l : List (Int × Int)) (j : Nat) (a k : Int), l[j]? = some (a, k) → (encB l)[j * 2]? = some (.int .i64 a) ∧ (encB l)[j * 2 + 1]? = some (.int .i64 k)
  | [], j, a, k, h => by simp at h
  | b :: r, 0, a, k, h => by
    simp at h
    subst h
    simp [encB]
  | b :: r, j + 1, a, k, h => by
    have ih := encB_get r j a k (by simpa using h)
    have e : encB (b :: r) = .int .i64 b.1 :: .int .i64 b.2 :: encB r := by simp [encB]
    rw [e, show (j + 1) * 2 = j * 2 + 1 + 1 from by omega, show j * 2 + 1 + 1 + 1 = (j * 2 + 1) + 1 + 1 from rfl]
    simpa using ih

theorem OwnB.row {w w' : World} {v : Value} {l : List (Int × Int)} (h : OwnB w w' v l) (hl : l.length ≤ maxLen) : RowB w'.heap.size w' v l := by
  obtain ⟨ho, _⟩ := h
  have ho' := ho
  obtain ⟨_, h2⟩ := ho
  rcases h2 with ⟨rfl, h3⟩ | ⟨g, cap, cur, rfl, hg, hh, _⟩
  · refine .inl ⟨rfl, ?_⟩
    cases l with
    | nil => rfl
    | cons b r => simp [encB] at h3
  · refine .inr ⟨g, cap, rfl, hl, (ho'.lt g rfl).2, Nat.le_refl _, fun j a k hj => ?_⟩
    have hlt : j < l.length := (List.getElem?_eq_some_iff.1 hj).1
    obtain ⟨e1, e2⟩ := encB_get l j a k hj
    rw [ho'.cellAt (j * 2) (by omega), ho'.cellAt (j * 2 + 1) (by omega)]
    exact ⟨e1, e2⟩
theorem RowB.below {N : Nat} {w w' : World} {v : Value} {l : List (Int × Int)} (h : RowB N w v l) (hb : Below N w w') : RowB N w' v l := by
  rcases h with h | ⟨g, cap, h1, h2, h3, h4, h5⟩
  · exact .inl h
  · exact .inr ⟨g, cap, h1, h2, h3, Nat.le_trans h4 hb.size, fun j a k hj => by
      obtain ⟨e1, e2⟩ := h5 j a k hj
      exact ⟨by rw [hb.cell (p := ⟨g, j * 2, none⟩) h3]; exact e1, by rw [hb.cell (p := ⟨g, j * 2 + 1, none⟩) h3]; exact e2⟩⟩

set_option maxHeartbeats 1000000 in
/-- SameBlocks of two slices that hold the same -/
theorem same_yes {N M : Nat} (va vb : Value) (l : List (Int × Int)) (w : World) (ha : RowB N w va l) (hb : RowB M w vb l) :
    Calls Tryz.prog 134 #[va, vb] w fun e w' => e = .returned (.bool true) ∧ Below w.heap.size w w' := by
  have eb := neqB
  have gb := guardB
  rcases ha with ⟨rfl, rfl⟩ | ⟨g, cap, rfl, hm, hg, hN, hc⟩
  · rcases hb with ⟨rfl, _⟩ | ⟨g', cap', rfl, _, _, _, _⟩
    all_goals
      go_enter Tryz.func134, Tryz.ntmps134
      go_wp2_with fail
      refine wp_loop_rounds 1 ?_
      rw [rounds_succ]
      go_wp2
      go_ret
      exact ⟨rfl, (by repeat (first | exact Below.refl _ _ | refine Below.drew ?_ | refine below_drewN ?_ _ | refine Below.trans ?_ (Below.mono (by assumption) (by first | omega | (simp; omega) | (simp; done))) | refine Below.alloc ?_ (by first | omega | (simp; omega) | (simp; done)) _ | refine Below.setCell ?_ (by first | omega | (simp; omega) | (simp; done)) _))⟩
  · rcases hb with ⟨rfl, rfl⟩ | ⟨g', cap', rfl, _, hg', hM, hc'⟩
    · go_enter Tryz.func134, Tryz.ntmps134
      go_wp2_with fail
      refine wp_loop_rounds 1 ?_
      rw [rounds_succ]
      go_wp2
      go_ret
      exact ⟨rfl, (by repeat (first | exact Below.refl _ _ | refine Below.drew ?_ | refine below_drewN ?_ _ | refine Below.trans ?_ (Below.mono (by assumption) (by first | omega | (simp; omega) | (simp; done))) | refine Below.alloc ?_ (by first | omega | (simp; omega) | (simp; done)) _ | refine Below.setCell ?_ (by first | omega | (simp; omega) | (simp; done)) _))⟩
    · unfold maxLen at hm
      have C1 := Lib.hid hc; have C2 := Lib.hid hc'
      clear hc hc'
      obtain ⟨n, hn⟩ : ∃ n, n = l.length := ⟨_, rfl⟩
      rw [← hn] at hm ⊢
      have HN := Lib.hid hn
      clear hn
      go_enter Tryz.func134, Tryz.ntmps134
      go_wp2_with fail
      go_loopw [5] (fun i wr => ∃ j : Nat, j ≤ n ∧ i = .int .i64 j ∧ Below w.heap.size w wr) (fun i _ => n - (intOf i).toNat)
      case atStart => exact ⟨0, Nat.zero_le _, rfl, Below.refl _ _⟩
      case round =>
        obtain ⟨j, hj, rfl, hbel⟩ := hrel
        by_cases hlt : j < n
        · obtain ⟨b, hb⟩ : ∃ b, l[j]? = some b := ⟨l[j]'(by rw [← HN.out]; exact hlt), List.getElem?_eq_getElem _⟩
          obtain ⟨x, k⟩ := b
          obtain ⟨p1, p2⟩ := C1.out j x k hb
          obtain ⟨q1, q2⟩ := C2.out j x k hb
          clear hb
          have r1 : wr.cell? ⟨g, j * 2, none⟩ = some (.int .i64 x) := by rw [hbel.cell (p := ⟨g, j * 2, none⟩) (Nat.lt_of_lt_of_le hg hN)]; exact p1
          have r2 : wr.cell? ⟨g, j * 2 + 1, none⟩ = some (.int .i64 k) := by rw [hbel.cell (p := ⟨g, j * 2 + 1, none⟩) (Nat.lt_of_lt_of_le hg hN)]; exact p2
          have r3 : wr.cell? ⟨g', j * 2, none⟩ = some (.int .i64 x) := by rw [hbel.cell (p := ⟨g', j * 2, none⟩) (Nat.lt_of_lt_of_le hg' hM)]; exact q1
          have r4 : wr.cell? ⟨g', j * 2 + 1, none⟩ = some (.int .i64 k) := by rw [hbel.cell (p := ⟨g', j * 2 + 1, none⟩) (Nat.lt_of_lt_of_le hg' hM)]; exact q2
          clear p1 p2 q1 q2
          go_wp2
          go_quiet (fail)
          go_wp2
          go_roundw
          case rel => exact ⟨j + 1, by omega, by go_num, below_drewN hbel _⟩
          case measure => simp [intOf]; omega
        · go_wp2
          go_ret
          exact ⟨rfl, hbel⟩
end Go.Proofs.YtcokmiidgdmdlaaGreatDoor
