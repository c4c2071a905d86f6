/- Lemmas and contracts for the claim's last text: Base, Mem. -/
import Derived.Test.YtcokmiidgdmdlaaGreatDoorChecked
import Derived.WalkKit
import Derived.Lib.Hide
import Derived.Laws.StructEq
import Derived.WalkLawsBesides
import Derived.WalkSpells
import Derived.Outline
import Derived.RegionTactic
import Derived.BigRegion
import Derived.Deep.QuietTactic
import Derived.BigQuiet
import Derived.ChangeAlike
import Derived.Deep.RegionWith
import Derived.LoopTactic
import Derived.Below
import Derived.WalkSmall
import Derived.StillTailTactics
import Derived.OwnWalk
import Derived.Maps.AppendAt
import Derived.Deep.AppendLies
import Derived.Deep.Slices
import Derived.ChangeSame
import Derived.ChangeSlices
import Derived.Test.YtcokmiidgdmdlaaGreatDoorMo01
namespace Go.Proofs.YtcokmiidgdmdlaaGreatDoor
open Go.RowKit

/-- an error by its number (0: nil) -/
def errV (ev : Nat → Addr) : Nat → Value
  | 0 => .nilIface
  | i + 1 => .iface 291 (.pointer (some (ev (i + 1))))

/-- the number of an error's variable -/
def errG : Nat → Nat
  | 1 => 5
  | 2 => 2
  | 3 => 3
  | 4 => 6
  | 5 => 1
  | 6 => 7
  | 7 => 0
  | 8 => 8
  | 9 => 4
  | _ => 9

/-- the three errors that package frames tells -/
structure ErrC (B : Nat) (ev : Nat → Addr) (w : World) : Prop where
  size : B ≤ w.heap.size
  l2 : 2 < B
  l3 : 3 < B
  l4 : 6 < B
  c2 : w.cell? ⟨2, 0, Option.none⟩ = some (errV ev 2)
  c3 : w.cell? ⟨3, 0, Option.none⟩ = some (errV ev 3)
  c4 : w.cell? ⟨6, 0, Option.none⟩ = some (errV ev 4)

theorem ErrC.below {B : Nat} {ev : Nat → Addr} {w w' : World} (h : ErrC B ev w) (hb : Below B w w') : ErrC B ev w' :=
  ⟨Nat.le_trans h.size hb.size, h.l2, h.l3, h.l4,
   by rw [hb.cell (p := ⟨2, 0, Option.none⟩) h.l2]; exact h.c2,
   by rw [hb.cell (p := ⟨3, 0, Option.none⟩) h.l3]; exact h.c3,
   by rw [hb.cell (p := ⟨6, 0, Option.none⟩) h.l4]; exact h.c4⟩
theorem ErrC.z2 {B : Nat} {ev : Nat → Addr} {w : World} (h : ErrC B ev w) : 2 < w.heap.size := Nat.lt_of_lt_of_le h.l2 h.size
theorem ErrC.z3 {B : Nat} {ev : Nat → Addr} {w : World} (h : ErrC B ev w) : 3 < w.heap.size := Nat.lt_of_lt_of_le h.l3 h.size
/-- .. and the fourth, which package buddy tells besides -/
structure ErrD (B : Nat) (ev : Nat → Addr) (w : World) : Prop where
  c : ErrC B ev w
  l5 : 1 < B
  c5 : w.cell? ⟨1, 0, Option.none⟩ = some (errV ev 5)
theorem ErrD.below {B : Nat} {ev : Nat → Addr} {w w' : World} (h : ErrD B ev w) (hb : Below B w w') : ErrD B ev w' :=
  ⟨h.c.below hb, h.l5, by rw [hb.cell (p := ⟨1, 0, Option.none⟩) h.l5]; exact h.c5⟩
theorem ErrD.z5 {B : Nat} {ev : Nat → Addr} {w : World} (h : ErrD B ev w) : 1 < w.heap.size := Nat.lt_of_lt_of_le h.l5 h.c.size
theorem ErrD.size {B : Nat} {ev : Nat → Addr} {w : World} (h : ErrD B ev w) : B ≤ w.heap.size := h.c.size

/-- all ten errors, and package errors' own variable -/
structure Errs (B : Nat) (ev : Nat → Addr) (w : World) : Prop where
  size : B ≤ w.heap.size
  glob : ∀ i, 1 ≤ i → i ≤ 10 → errG i < B
  cell : ∀ i, 1 ≤ i → i ≤ 10 → w.cell? ⟨errG i, 0, Option.none⟩ = some (errV ev i)
  inj : ∀ i j, 1 ≤ i → i ≤ 10 → 1 ≤ j → j ≤ 10 → ev i = ev j → i = j
  row : ∀ i, 1 ≤ i → i ≤ 10 → ∃ c t, w.heap[(ev i).block]? = some (.cells c t (0, 0))
  lt : ∀ i, 1 ≤ i → i ≤ 10 → (ev i).block < B
  globT : 10 < B
  typ : w.cell? ⟨10, 0, Option.none⟩ = some (.iface 251 (.agg #[.pointer (some ⟨11, 33, Option.none⟩)]))

theorem Errs.below {B : Nat} {ev : Nat → Addr} {w w' : World} (h : Errs B ev w) (hb : Below B w w') : Errs B ev w' :=
  ⟨Nat.le_trans h.size hb.size, h.glob, fun i a b => by rw [hb.cell (p := ⟨errG i, 0, Option.none⟩) (h.glob i a b)]; exact h.cell i a b, h.inj,
   fun i a b => by rw [hb.block _ (h.lt i a b)]; exact h.row i a b, h.lt, h.globT,
   by rw [hb.cell (p := ⟨10, 0, Option.none⟩) h.globT]; exact h.typ⟩
theorem Errs.c {B : Nat} {ev : Nat → Addr} {w : World} (h : Errs B ev w) : ErrC B ev w :=
  ⟨h.size, h.glob 2 (by decide) (by decide), h.glob 3 (by decide) (by decide), h.glob 4 (by decide) (by decide), h.cell 2 (by decide) (by decide), h.cell 3 (by decide) (by decide), h.cell 4 (by decide) (by decide)⟩
theorem Errs.d {B : Nat} {ev : Nat → Addr} {w : World} (h : Errs B ev w) : ErrD B ev w := ⟨h.c, h.glob 5 (by decide) (by decide), h.cell 5 (by decide) (by decide)⟩
theorem bcell {W w1 : World} {n : Nat} (hb : Below n W w1) : (∀ b o, b < n → w1.cell? ⟨b, o, Option.none⟩ = W.cell? ⟨b, o, Option.none⟩) ∧ (∀ b o, b < n → w1.frozen? ⟨b, o, Option.none⟩ = W.frozen? ⟨b, o, Option.none⟩) :=
  ⟨fun b o h => hb.cell (p := ⟨b, o, Option.none⟩) h, fun b o h => hb.frozen (p := ⟨b, o, Option.none⟩) h⟩
end Go.Proofs.YtcokmiidgdmdlaaGreatDoor

namespace Go.Proofs.YtcokmiidgdmdlaaGreatDoor
open Go.RowKit

end Go.Proofs.YtcokmiidgdmdlaaGreatDoor

namespace Go.Proofs.YtcokmiidgdmdlaaGreatDoor
open Go.RowKit

end Go.Proofs.YtcokmiidgdmdlaaGreatDoor

namespace Go.Proofs.YtcokmiidgdmdlaaGreatDoor
open Go.RowKit
set_option linter.unusedSimpArgs false

theorem order_any (k : Int) (w : World) : Calls Tryz.prog 107 #[.int .i64 k] w fun e w' => e = .returned (.bool (decide (0 ≤ k ∧ k ≤ 6))) ∧ w = w' := by
  by_cases h0 : 0 ≤ k
  · by_cases h6 : k ≤ 6
    · have hd : decide (0 ≤ k ∧ k ≤ 6) = true := decide_eq_true ⟨h0, h6⟩
      rw [hd]
      go_enter Tryz.func107, Tryz.ntmps107
      go_wp2
      go_ret
      exact ⟨rfl, rfl⟩
    · have hd : decide (0 ≤ k ∧ k ≤ 6) = false := decide_eq_false (by omega)
      rw [hd]
      go_enter Tryz.func107, Tryz.ntmps107
      go_wp2
      go_ret
      exact ⟨by simp, rfl⟩
  · have hd : decide (0 ≤ k ∧ k ≤ 6) = false := decide_eq_false (by omega)
    rw [hd]
    go_enter Tryz.func107, Tryz.ntmps107
    go_wp2
    go_ret
    exact ⟨rfl, rfl⟩
theorem order_yes (k : Int) (w : World) (h : 0 ≤ k ∧ k ≤ 6) : Calls Tryz.prog 107 #[.int .i64 k] w fun e w' => e = .returned (.bool true) ∧ w = w' := by
  have := order_any k w; rwa [decide_eq_true h] at this
theorem order_no (k : Int) (w : World) (h : k < 0 ∨ 6 < k) : Calls Tryz.prog 107 #[.int .i64 k] w fun e w' => e = .returned (.bool false) ∧ w = w' := by
  have := order_any k w; rwa [decide_eq_false (show ¬ (0 ≤ k ∧ k ≤ 6) by omega)] at this

theorem size_yes (k : Int) (w : World) (h : 0 ≤ k ∧ k ≤ 6) : Calls Tryz.prog 58 #[.int .i64 k] w fun e w' => e = .returned (.tuple #[.int .i64 (sz k), .nilIface]) ∧ w = w' := by
  have hs := shl_sz' h.1 h.2
  obtain ⟨h0, h6⟩ := h
  go_enter Tryz.func58, Tryz.ntmps58
  go_wp2_with (go_at_call 107; refine (order_yes _ _ ⟨h0, h6⟩).mono ?_; rintro e w' ⟨rfl, rfl⟩)
  go_ret2
  exact ⟨by rw [← hs]; rfl, rfl⟩
theorem size_no {B : Nat} {ev : Nat → Addr} (k : Int) (w : World) (hE : ErrC B ev w) (h : k < 0 ∨ 6 < k) :
    Calls Tryz.prog 58 #[.int .i64 k] w fun e w' => e = .returned (.tuple #[.int .i64 0, errV ev 2]) ∧ Below w.heap.size w w' := by
  have hc := hE.c2
  go_enter Tryz.func58, Tryz.ntmps58
  go_wp2_with (go_at_call 107; refine (order_no _ _ h).mono ?_; rintro e w' ⟨rfl, rfl⟩)
  go_region
  all_goals go_wp2
  all_goals go_ret2
  all_goals exact ⟨rfl, (by repeat (first | exact Below.refl _ _ | refine Below.drew ?_ | refine below_drewN ?_ _ | refine Below.trans ?_ (Below.mono (by assumption) (by first | omega | (simp; omega) | (simp; done))) | refine Below.alloc ?_ (by first | omega | (simp; omega) | (simp; done)) _ | refine Below.setCell ?_ (by first | omega | (simp; omega) | (simp; done)) _))⟩

set_option maxHeartbeats 400000 in
theorem look_any {B : Nat} {ev : Nat → Addr} (a k : Int) (w : World) (hE : ErrC B ev w) :
    Calls Tryz.prog 147 #[.agg #[.int .i64 a, .int .i64 k]] w fun e w' => e = .returned (errV ev (aloneE a k)) ∧ Below w.heap.size w w' := by
  have hc := hE.c2
  have hc' := hE.c3
  have hz := hE.z2
  have hz' := hE.z3
  rcases aloneE_cases a k with ⟨hr, h⟩ | ⟨⟨h0, h1, k0, k6⟩, h⟩
  · rw [hr]
    clear hr
    by_cases ha : a < 0
    · go_enter Tryz.func147, Tryz.ntmps147
      go_wp2_with fail
      go_ret
      exact ⟨rfl, (by repeat (first | exact Below.refl _ _ | refine Below.drew ?_ | refine below_drewN ?_ _ | refine Below.trans ?_ (Below.mono (by assumption) (by first | omega | (simp; omega) | (simp; done))) | refine Below.alloc ?_ (by first | omega | (simp; omega) | (simp; done)) _ | refine Below.setCell ?_ (by first | omega | (simp; omega) | (simp; done)) _))⟩
    · by_cases ha2 : 256 ≤ a
      · go_enter Tryz.func147, Tryz.ntmps147
        go_wp2_with fail
        go_ret
        exact ⟨rfl, (by repeat (first | exact Below.refl _ _ | refine Below.drew ?_ | refine below_drewN ?_ _ | refine Below.trans ?_ (Below.mono (by assumption) (by first | omega | (simp; omega) | (simp; done))) | refine Below.alloc ?_ (by first | omega | (simp; omega) | (simp; done)) _ | refine Below.setCell ?_ (by first | omega | (simp; omega) | (simp; done)) _))⟩
      · have hk : k < 0 ∨ 6 < k := by omega
        clear h
        go_enter Tryz.func147, Tryz.ntmps147
        go_wp2_with (go_at_call 107; refine (order_no _ _ hk).mono ?_; rintro e w' ⟨rfl, rfl⟩)
        go_ret
        exact ⟨rfl, (by repeat (first | exact Below.refl _ _ | refine Below.drew ?_ | refine below_drewN ?_ _ | refine Below.trans ?_ (Below.mono (by assumption) (by first | omega | (simp; omega) | (simp; done))) | refine Below.alloc ?_ (by first | omega | (simp; omega) | (simp; done)) _ | refine Below.setCell ?_ (by first | omega | (simp; omega) | (simp; done)) _))⟩
  · have hs := shl_sz' k0 k6
    have hn := and_sz h0 (by omega) k0 k6
    obtain ⟨s1, s2⟩ := sz_bd k0 k6
    have H : Hid _ := Lib.hid h
    clear h
    go_enter Tryz.func147, Tryz.ntmps147
    go_wp2_with (go_at_call 107; refine (order_yes _ _ ⟨k0, k6⟩).mono ?_; rintro e w' ⟨rfl, rfl⟩)
    go_quiet (fail)
    go_wp2
    · have hne : (a % sz k != 0) = true := by assumption
      rcases H.out with ⟨e1, e2⟩ | ⟨e1, e2⟩
      · go_ret
        exact ⟨by rw [e1]; rfl, (by repeat (first | exact Below.refl _ _ | refine Below.drew ?_ | refine below_drewN ?_ _ | refine Below.trans ?_ (Below.mono (by assumption) (by first | omega | (simp; omega) | (simp; done))) | refine Below.alloc ?_ (by first | omega | (simp; omega) | (simp; done)) _ | refine Below.setCell ?_ (by first | omega | (simp; omega) | (simp; done)) _))⟩
      · simp [e2] at hne
    · have hne : (a % sz k != 0) = false := by assumption
      rcases H.out with ⟨e1, e2⟩ | ⟨e1, e2⟩
      · simp [e2] at hne
      · go_ret
        exact ⟨by rw [e1]; rfl, (by repeat (first | exact Below.refl _ _ | refine Below.drew ?_ | refine below_drewN ?_ _ | refine Below.trans ?_ (Below.mono (by assumption) (by first | omega | (simp; omega) | (simp; done))) | refine Below.alloc ?_ (by first | omega | (simp; omega) | (simp; done)) _ | refine Below.setCell ?_ (by first | omega | (simp; omega) | (simp; done)) _))⟩
theorem look_ok {B : Nat} {ev : Nat → Addr} (a k : Int) (w : World) (hE : ErrC B ev w) (h : aloneE a k = 0) :
    Calls Tryz.prog 147 #[.agg #[.int .i64 a, .int .i64 k]] w fun e w' => e = .returned .nilIface ∧ Below w.heap.size w w' :=
  (look_any a k w hE).mono fun _ _ ⟨h1, h2⟩ => ⟨by rw [h1, h]; rfl, h2⟩
end Go.Proofs.YtcokmiidgdmdlaaGreatDoor

namespace Go.Proofs.YtcokmiidgdmdlaaGreatDoor
open Go.RowKit
set_option linter.unusedSimpArgs false

set_option maxHeartbeats 400000 in
theorem halves_ok {B : Nat} {ev : Nat → Addr} (a k : Int) (w : World) (hE : ErrC B ev w) (h : downE a k = 0) :
    Calls Tryz.prog 113 #[.agg #[.int .i64 a, .int .i64 k]] w fun e w' => e = .returned (.tuple #[.agg #[.int .i64 a, .int .i64 (k - 1)], .agg #[.int .i64 (a + sz (k - 1)), .int .i64 (k - 1)], .nilIface]) ∧ Below w.heap.size w w' := by
  obtain ⟨ha, hk⟩ := downE_zero h
  obtain ⟨a0, a1, k0, k6, _⟩ := aloneE_zero ha
  have hB := hE.size
  have k1 : 1 ≤ k := by omega
  have hs : wrap64 (2 ^ (k.toNat - 1)) = sz (k - 1) := by
    have e : (k - 1).toNat = k.toNat - 1 := by omega
    rw [← e]; exact shl_sz' (k := k - 1) (by omega) (by omega)
  obtain ⟨s1, s2⟩ := sz_bd (k := k - 1) (by omega) (by omega)
  go_enter Tryz.func113, Tryz.ntmps113
  go_wp2_with fail
  refine (look_ok a k _ (hE.below (by repeat (first | exact Below.refl _ _ | refine Below.drew ?_ | refine below_drewN ?_ _ | refine Below.trans ?_ (Below.mono (by assumption) (by first | omega | (simp; omega) | (simp; done))) | refine Below.alloc ?_ (by first | omega | (simp; omega) | (simp; done)) _ | refine Below.setCell ?_ (by first | omega | (simp; omega) | (simp; done)) _))) ha).mono ?_
  rintro e w1 ⟨rfl, hb⟩
  obtain ⟨hc, hf⟩ := bcell hb
  have hz := hb.size
  simp at hz hc hf
  have z0 : w.heap.size < w1.heap.size := by omega
  have z1 : w.heap.size + 1 < w1.heap.size := by omega
  go_wp2
  go_region
  go_wp2
  exact bodyPost_ret (v := .tuple #[.agg #[.int .i64 a, .int .i64 (k - 1)], .agg #[.int .i64 (a + sz (k - 1)), .int .i64 (k - 1)], .nilIface]) (by simp [results, Tryz.results113, go_sem, hc, z0, z1]) rfl ⟨rfl, (by repeat (first | exact Below.refl _ _ | refine Below.drew ?_ | refine below_drewN ?_ _ | refine Below.trans ?_ (Below.mono (by assumption) (by first | omega | (simp; omega) | (simp; done))) | refine Below.alloc ?_ (by first | omega | (simp; omega) | (simp; done)) _ | refine Below.setCell ?_ (by first | omega | (simp; omega) | (simp; done)) _))⟩

end Go.Proofs.YtcokmiidgdmdlaaGreatDoor

namespace Go.Proofs.YtcokmiidgdmdlaaGreatDoor
open Go.RowKit
set_option linter.unusedSimpArgs false

end Go.Proofs.YtcokmiidgdmdlaaGreatDoor

namespace Go.Proofs.YtcokmiidgdmdlaaGreatDoor
open Go.RowKit
set_option linter.unusedSimpArgs false

end Go.Proofs.YtcokmiidgdmdlaaGreatDoor

namespace Go.Proofs.YtcokmiidgdmdlaaGreatDoor
open Go.RowKit

/-- w' is w but for the blocks of S and for new ones -/
structure Keep (S : List Nat) (w w' : World) : Prop where
  os : w'.os = w.os
  tape : w'.tape = w.tape
  output : w'.output = w.output
  size : w.heap.size ≤ w'.heap.size
  block : ∀ k, k < w.heap.size → k ∉ S → w'.heap[k]? = w.heap[k]?

theorem Keep.refl (S : List Nat) (w : World) : Keep S w w := ⟨rfl, rfl, rfl, Nat.le_refl _, fun _ _ _ => rfl⟩
theorem Keep.of {S : List Nat} {w w' : World} (h : Below w.heap.size w w') : Keep S w w' := ⟨h.os, h.tape, h.output, h.size, fun k hk _ => h.block k hk⟩
theorem Keep.trans {S S' : List Nat} {a b c : World} (h : Keep S a b) (k : Keep S' b c) (hs : ∀ s ∈ S', s ∈ S ∨ a.heap.size ≤ s) : Keep S a c :=
  ⟨k.os.trans h.os, k.tape.trans h.tape, k.output.trans h.output, Nat.le_trans h.size k.size, fun i hi hn =>
    (k.block i (Nat.lt_of_lt_of_le hi h.size) (fun hm => by rcases hs i hm with q | q; (· exact hn q); (· omega))).trans (h.block i hi hn)⟩
theorem Keep.then {S : List Nat} {a b c : World} (h : Keep S a b) (k : Keep S b c) : Keep S a c := h.trans k fun _ q => .inl q
theorem Keep.mono {S S' : List Nat} {w w' : World} (h : Keep S w w') (hs : ∀ s ∈ S, s ∈ S') : Keep S' w w' := ⟨h.os, h.tape, h.output, h.size, fun k hk hn => h.block k hk fun q => hn (hs k q)⟩
theorem Keep.below {S : List Nat} {B : Nat} {w w' : World} (h : Keep S w w') (hB : B ≤ w.heap.size) (hs : ∀ s ∈ S, B ≤ s) : Below B w w' :=
  ⟨h.os, h.tape, h.output, h.size, fun k hk => h.block k (by omega) fun q => by have := hs k q; omega⟩
theorem Keep.belowN {w w' : World} (h : Keep [] w w') : Below w.heap.size w w' := h.below (Nat.le_refl _) (fun _ q => by cases q)
theorem Keep.after {S : List Nat} {B : Nat} {w0 w w' : World} (h : Below B w0 w) (k : Keep S w w') (hB : B ≤ w.heap.size) (hs : ∀ s ∈ S, B ≤ s) : Below B w0 w' := h.trans (k.below hB hs)
theorem Keep.step {S : List Nat} {a b c : World} (h : Keep S a b) (k : Below b.heap.size b c) : Keep S a c := h.trans (S' := []) (Keep.of k) (fun _ q => by cases q)
theorem Keep.grown {S : List Nat} {a b c : World} {r : Nat} (h : Keep S a b) (k : b.grownBy c (some r)) (hr : r ∈ S ∨ a.heap.size ≤ r) : Keep S a c :=
  h.trans (S' := [r]) ⟨k.os, k.tape, k.output, k.size, fun i hi hn => k.block i hi (by simp at hn ⊢; exact hn)⟩ fun s q => by simp at q; subst q; exact hr
theorem Keep.alloc {S : List Nat} {a b : World} (h : Keep S a b) (o : Obj) : Keep S a (b.alloc o) :=
  h.step ((Below.refl _ _).alloc (Nat.le_refl _) o)
theorem Keep.drew {S : List Nat} {a b : World} (h : Keep S a b) : Keep S a b.drew := h.step (Below.refl _ _).drew
theorem Keep.drewN {S : List Nat} {a b : World} (h : Keep S a b) (n : Nat) : Keep S a (b.drewN n) := h.step (below_drewN (Below.refl _ _) _)
theorem Keep.setCell {S : List Nat} {a b : World} (h : Keep S a b) {p : Addr} (hp : p.block ∈ S ∨ a.heap.size ≤ p.block) (u : Value) : Keep S a (b.setCell p u) :=
  ⟨h.os, h.tape, h.output, by simpa [World.setCell] using h.size, fun i hi hq => (Below.heap_setCell _ _ _ _ (by rcases hp with q | q; (· exact fun e => hq (e ▸ q)); (· omega))).trans (h.block i hi hq)⟩
theorem Keep.cell {S : List Nat} {w w' : World} (h : Keep S w w') {b o : Nat} (hb : b < w.heap.size) (hn : b ∉ S) : w'.cell? ⟨b, o, none⟩ = w.cell? ⟨b, o, none⟩ := World.cell?_of_block (w := w) (h.block b hb hn)
theorem Keep.frozen {S : List Nat} {w w' : World} (h : Keep S w w') {b o : Nat} (hb : b < w.heap.size) (hn : b ∉ S) : w'.frozen? ⟨b, o, none⟩ = w.frozen? ⟨b, o, none⟩ := World.frozen?_of_block (w := w) (h.block b hb hn)
end Go.Proofs.YtcokmiidgdmdlaaGreatDoor

namespace Go.Proofs.YtcokmiidgdmdlaaGreatDoor
open Go.RowKit

/-- a world behind w: all that was in w is as it was -/
structure Behind (w : World) where
  w' : World
  h : Below w.heap.size w w'

instance behindNonempty (w : World) : Nonempty (Behind w) := ⟨⟨w, Below.refl _ _⟩⟩

theorem behind_out {w w' : World} (h : ∃ p : Behind w, w' = p.w') : Below w.heap.size w w' := by
  obtain ⟨p, hp⟩ := h
  rw [hp]; exact p.h

theorem wp_region_behind {P : Program} {id : Nat} {Q : Exit → Act → World → Prop} {a : Act} {w : World} {l : List Oper} (hm : P.follows .mixedOrders = true) (hB : Region.lexB .any l.toArray = true)
    (h : wpQuiet P l.toArray (fun w' => ∃ p : Behind w, w' = p.w') (fun a' => ∀ w', (∃ p : Behind w, w' = p.w') → Q .normal a' w') l a) : (Code.region id l.toArray true).wp P Q a w :=
  wp_region_quiet (C := fun w' => ∃ p : Behind w, w' = p.w') hm hB ⟨⟨w.drew, (Below.refl _ _).drew⟩, rfl⟩ (by simpa using h)

@[go_sem] theorem Behind.cell {w : World} (p : Behind w) (b o : Nat) (h : b < w.heap.size) : p.w'.cell? ⟨b, o, none⟩ = w.cell? ⟨b, o, none⟩ := p.h.cell (p := ⟨b, o, none⟩) h
@[go_sem] theorem Behind.frozen {w : World} (p : Behind w) (b o : Nat) (h : b < w.heap.size) : p.w'.frozen? ⟨b, o, none⟩ = w.frozen? ⟨b, o, none⟩ := p.h.frozen (p := ⟨b, o, none⟩) h

theorem _root_.Go.Calls.behind {P : Program} {f : FuncId} {args : Array Value} {w : World} {p : Behind w} {v : Value}
    (h : Calls P f args p.w' fun e w' => e = .returned v ∧ Below p.w'.heap.size p.w' w') : Calls P f args p.w' fun e w'' => e = .returned v ∧ ∃ q : Behind w, w'' = q.w' :=
  h.mono fun _ w'' ⟨he, hb⟩ => ⟨he, ⟨w'', p.h.trans (hb.mono p.h.size)⟩, rfl⟩
end Go.Proofs.YtcokmiidgdmdlaaGreatDoor

namespace Go.Proofs.YtcokmiidgdmdlaaGreatDoor
open Go.RowKit
theorem wp_tail {P : Program} {id : Nat} {Q : Exit → Act → World → Prop} {a : Act} {w : World} {l : List Oper} (n : Nat) (hm : P.follows .mixedOrders = true) (hB : Region.lexTailB .any l.toArray n = true)
    (h : wpStill P l.toArray w.drew (fun a' => wpList P l.toArray Q (l.drop n) a' w.drew) (l.take n) a) : (Code.region id l.toArray true).wp P Q a w :=
  wp_region_still_tail n hm hB h
end Go.Proofs.YtcokmiidgdmdlaaGreatDoor

namespace Go.Proofs.YtcokmiidgdmdlaaGreatDoor
open Go.RowKit
set_option linter.unusedSimpArgs false

/-- blocks as cells -/
def encB (l : List (Int × Int)) : List Value := l.flatMap fun b => [.int .i64 b.1, .int .i64 b.2]
theorem encB_snoc (l : List (Int × Int)) (b : Int × Int) : encB (l ++ [b]) = encB l ++ [.int .i64 b.1, .int .i64 b.2] := by simp [encB]
theorem encB_length (l : List (Int × Int)) : (encB l).length = 2 * l.length := by
  induction l with
  | nil => rfl
  | cons b r ih => simp [encB] at ih ⊢; omega
theorem infoB : (Tryz.prog.info? 39).map (fun i => (i.zero, i.size, i.bytes)) = some (some (.agg #[.int .i64 0, .int .i64 0]), 2, 16) := by kernel_rfl

theorem new_two (w : World) (u0 u1 : Value) (t : TypeId) : ∀ j u, [u0, u1][j]? = some u → (w.alloc (.cells #[u0, u1] t)).cell? ((⟨w.heap.size, 0, none⟩ : Addr).add j) = some u := by
  intro j u hu
  match j, hu with
  | 0, hu => simp at hu; subst hu; simp [Addr.add]
  | 1, hu => simp at hu; subst hu; simp [Addr.add]
theorem one_two (a k : Int) : ∀ u ∈ [Value.int .i64 a, Value.int .i64 k], u.oneCell' = true := by
  intro u hu
  simp at hu
  rcases hu with rfl | rfl <;> rfl

/-- a slice of blocks of the call's own -/
def OwnB (w w' : World) (v : Value) (l : List (Int × Int)) : Prop := w'.ownsRow w.heap.size 39 2 v l.length (encB l) ∧ Below w.heap.size w w'
/-- what Cover answers -/
def CovPost (w : World) (l : List (Int × Int)) (x : Value) (e : Ending) (w' : World) : Prop := ∃ v, e = .returned (.tuple #[v, x]) ∧ OwnB w w' v l

set_option maxHeartbeats 2000000 in
set_option maxRecDepth 100000 in
theorem cover_ok (a n : Int) (w : World) (a0 : 0 ≤ a) (n0 : 0 ≤ n) (h : a + n ≤ 256) :
    Calls Tryz.prog 106 #[.int .i64 a, .int .i64 n] w (CovPost w (covL a n) .nilIface) := by
  obtain ⟨i0, hi, hz0, hz1, hz2⟩ := info_parts infoB
  have hlen := covL_length n.toNat a n (Nat.le_refl _)
  have d1 : decide (a < 0) = false := decide_eq_false (by omega)
  have d2 : decide (n < 0) = false := decide_eq_false (by omega)
  have d3 : decide (256 < a) = false := decide_eq_false (by omega)
  have d4 : decide (256 - a < n) = false := decide_eq_false (by omega)
  go_enter Tryz.func106, Tryz.ntmps106
  go_wp2_with fail
  clear d1 d2 d3 d4
  go_loopw [0, 1, 6] (fun xa xn v wr => ∃ (x m : Int) (done : List (Int × Int)), xa = .int .i64 x ∧ xn = .int .i64 m ∧ 0 ≤ x ∧ 0 ≤ m ∧ x + m ≤ 256 ∧ covL a n = done ++ covL x m ∧ wr.ownsRow w.heap.size 39 2 v done.length (encB done) ∧ Below w.heap.size w wr) (fun _ xn _ _ => (intOf xn).toNat)
  case atStart => exact ⟨a, n, [], rfl, rfl, a0, n0, h, rfl, World.ownsRow_nil _ _ _ _, Below.refl _ _⟩
  case round =>
    obtain ⟨x, m, done, rfl, rfl, x0, m0, hxm, hcov, hown, hbel⟩ := hrel
    have hdl : (done.length : Int) ≤ n.toNat := by rw [hcov] at hlen; simp at hlen; omega
    by_cases hm : m < 1
    · have e : m = 0 := by omega
      subst e
      rw [covL_zero (Int.le_refl _), List.append_nil] at hcov
      have HC := Lib.hid hcov
      clear hcov
      go_wp2
      go_ret2
      exact ⟨_, rfl, by rw [HC.out]; exact ⟨hown, hbel⟩⟩
    · have hst := covL_step (a := x) (n := m) (by omega)
      obtain ⟨k0, k6⟩ := covO_bd x m
      obtain ⟨s1, s2⟩ := sz_bd k0 k6
      obtain ⟨f1, f2⟩ := covO_fits (a := x) (n := m) (by omega)
      have hmax := fun j : Int => covO_max (a := x) (n := m) (k := j)
      have hm1 : 1 ≤ m := by omega
      clear hm
      generalize covO x m = k at *
      have HST := Lib.hid hst; have HMAX := Lib.hid hmax; have F1 := Lib.hid f1; have HC := Lib.hid hcov
      clear hst hmax f1 hcov
      go_wp2
      go_loop [7] (fun kv => ∃ j : Int, k ≤ j ∧ j ≤ 6 ∧ kv = .int .i64 j) (fun kv => (intOf kv).toNat)
      case atStart => exact ⟨6, k6, by omega, rfl⟩
      case round =>
        obtain ⟨j, hkj, hj6, rfl⟩ := hrel
        have hs := shl_sz' (k := j) (by omega) hj6
        have hn := and_sz (a := x) (k := j) x0 (by omega) (by omega) hj6
        obtain ⟨t1, t2⟩ := sz_bd (k := j) (by omega) hj6
        by_cases hlt : k < j
        · have hno := HMAX.out j hj6 hlt
          by_cases hx : x % sz j = 0
          · have hbig : m < sz j := by
              rcases Int.lt_or_le m (sz j) with h' | h'
              · exact h'
              · exact absurd ⟨hx, h'⟩ hno
            have hb : (x % sz j != 0) = false := by simp [hx]
            clear hno hx
            go_wp2
            go_round
            case rel => exact ⟨j - 1, by omega, by omega, rfl⟩
            case measure => simp [intOf]; omega
          · have hb : (x % sz j != 0) = true := by simp [hx]
            clear hno hx
            go_wp2
            go_round
            case rel => exact ⟨j - 1, by omega, by omega, rfl⟩
            case measure => simp [intOf]; omega
        · obtain rfl : j = k := by omega
          have hb : (x % sz j != 0) = false := by simp [F1.out]
          have hle : sz j ≤ m := f2
          go_wp2_with (first | (at_builtin; refine wpList_append_own _ rfl _ _ 126 rfl w.heap.size 39 i0 (.agg #[.int .i64 0, .int .i64 0]) 2 16 Tryz.underlying126 hi hz0 hz1 hz2 rfl (by decide) _ _ _ rfl (hown.alloc _) ⟨wr.heap.size, 0, none⟩ 1 1 [.int .i64 x, .int .i64 j] rfl rfl (new_two _ _ _ _) (one_two _ _) ?c3 ?c4 ?c5 ?_))
          case c3 => unfold maxLen; omega
          case c4 => omega
          case c5 => have := hbel.size; simp; omega
          intro v' w1 hown' hgrow _
          have hbel' : Below w.heap.size w w1 := (hbel.alloc hbel.size _).grown hgrow (by have := hbel.size; simp; omega) (fun r hr => (hown.lt r hr).1)
          have OW := Lib.hid hown'
          clear hown' hgrow hown hbel
          go_wp2
          go_quiet (fail)
          go_wp2
          go_roundw
          case rel =>
            refine ⟨x + sz j, m - sz j, done ++ [(x, j)], rfl, rfl, by omega, by omega, by omega, ?_, ?_, ?_⟩
            · rw [HC.out, HST.out]; simp
            · rw [encB_snoc]; exact (show w1.ownsRow _ _ _ _ _ _ by simpa using OW.out)
            · exact below_drewN hbel' _
          case measure => simp [intOf]; omega
end Go.Proofs.YtcokmiidgdmdlaaGreatDoor

namespace Go.Proofs.YtcokmiidgdmdlaaGreatDoor
open Go.RowKit
set_option linter.unusedSimpArgs false

/-- a slice value that reads as these blocks, below block number N -/
def RowB (N : Nat) (w : World) (v : Value) (l : List (Int × Int)) : Prop :=
  (v = .slice none 0 0 ∧ l = []) ∨ ∃ g cap, v = .slice (some ⟨g, 0, none⟩) l.length cap ∧ l.length ≤ maxLen ∧ g < N ∧ N ≤ w.heap.size ∧
    ∀ j a k, l[j]? = some (a, k) → w.cell? ⟨g, j * 2, none⟩ = some (.int .i64 a) ∧ w.cell? ⟨g, j * 2 + 1, none⟩ = some (.int .i64 k)

theorem encB_get : ∀ (l : List (Int × Int)) (j : Nat) (a k : Int), l[j]? = some (a, k) → (encB l)[j * 2]? = some (.int .i64 a) ∧ (encB l)[j * 2 + 1]? = some (.int .i64 k)
  | [], j, a, k, h => by simp at h
  | b :: r, 0, a, k, h => by
    simp at h
    subst h
    simp [encB]
  | b :: r, j + 1, a, k, h => by
    have ih := encB_get r j a k (by simpa using h)
    have e : encB (b :: r) = .int .i64 b.1 :: .int .i64 b.2 :: encB r := by simp [encB]
    rw [e, show (j + 1) * 2 = j * 2 + 1 + 1 from by omega, show j * 2 + 1 + 1 + 1 = (j * 2 + 1) + 1 + 1 from rfl]
    simpa using ih

end Go.Proofs.YtcokmiidgdmdlaaGreatDoor

namespace Go.Proofs.YtcokmiidgdmdlaaGreatDoor
open Go.RowKit

/-- the cells of block g read as these blocks of pages, and may be written -/
def Row2 (w : World) (g : Nat) (l : List (Int × Int)) : Prop :=
  ∀ j a k, l[j]? = some (a, k) → (w.cell? ⟨g, j * 2, none⟩ = some (.int .i64 a) ∧ w.cell? ⟨g, j * 2 + 1, none⟩ = some (.int .i64 k)) ∧ w.frozen? ⟨g, j * 2, none⟩ = false ∧ w.frozen? ⟨g, j * 2 + 1, none⟩ = false

theorem frozen_of_block {w : World} {g : Nat} {cur : Array Value} {e : TypeId} (h : w.heap[g]? = some (.cells cur e (0, 0))) (o : Nat) : w.frozen? ⟨g, o, none⟩ = false := by
  simp [World.frozen?, h]
theorem OwnB.mrow {w w' : World} {v : Value} {l : List (Int × Int)} (h : OwnB w w' v l) :
    (v = .slice none 0 0 ∧ l = []) ∨ ∃ g cap, v = .slice (some ⟨g, 0, none⟩) l.length cap ∧ w.heap.size ≤ g ∧ g < w'.heap.size ∧ l.length ≤ cap ∧ Row2 w' g l := by
  obtain ⟨ho, _⟩ := h
  have ho' := ho
  obtain ⟨_, h2⟩ := ho
  rcases h2 with ⟨rfl, h3⟩ | ⟨g, cap, cur, rfl, hg, hh, hcap, _⟩
  · refine .inl ⟨rfl, ?_⟩
    cases l with
    | nil => rfl
    | cons b r => simp at h3
  · refine .inr ⟨g, cap, rfl, hg, (ho'.lt g rfl).2, hcap, fun j a k hj => ?_⟩
    have hlt : j < l.length := (List.getElem?_eq_some_iff.1 hj).1
    obtain ⟨e1, e2⟩ := encB_get l j a k hj
    refine ⟨?_, frozen_of_block hh _, frozen_of_block hh _⟩
    rw [ho'.cellAt (j * 2) (by omega), ho'.cellAt (j * 2 + 1) (by omega)]
    exact ⟨e1, e2⟩
theorem Row2.keep {S : List Nat} {w w' : World} {g : Nat} {l : List (Int × Int)} (h : Row2 w g l) (k : Keep S w w') (hg : g < w.heap.size) (hn : g ∉ S) : Row2 w' g l := fun j a b hj => by
  rw [k.cell hg hn, k.cell hg hn, k.frozen hg hn, k.frozen hg hn]
  exact h j a b hj
theorem set_cell_other {w : World} {g o o' : Nat} (u : Value) (h : o ≠ o') : (w.setCell ⟨g, o, none⟩ u).cell? ⟨g, o', none⟩ = w.cell? ⟨g, o', none⟩ := by
  simp only [World.cell?, World.setCell, Array.getElem?_modify]
  simp
  cases w.heap[g]? with
  | none => rfl
  | some ob => cases ob <;> simp [h]
theorem set_cell_far {w : World} {g o b o' : Nat} (u : Value) (h : g ≠ b) : (w.setCell ⟨g, o, none⟩ u).cell? ⟨b, o', none⟩ = w.cell? ⟨b, o', none⟩ := by
  simp only [World.cell?, World.setCell, Array.getElem?_modify, if_neg h]
theorem set_cell_same {w : World} {g o : Nat} {x : Value} (u : Value) (h : w.cell? ⟨g, o, none⟩ = some x) : (w.setCell ⟨g, o, none⟩ u).cell? ⟨g, o, none⟩ = some u := by
  simp only [World.cell?, World.setCell, Array.getElem?_modify] at *
  cases e : w.heap[g]? with
  | none => rw [e] at h; simp at h
  | some ob =>
    rw [e] at h
    cases ob with
    | cells cs t r =>
      simp at h ⊢
      have : o < cs.size := by
        rcases Nat.lt_or_ge o cs.size with q | q
        · exact q
        · rw [Array.getElem?_eq_none q] at h; cases h
      simp [this]
    | _ => simp at h
theorem set_frozen {w : World} {g o : Nat} (u : Value) (b o' : Nat) : (w.setCell ⟨g, o, none⟩ u).frozen? ⟨b, o', none⟩ = w.frozen? ⟨b, o', none⟩ := by
  simp only [World.frozen?, World.setCell, Array.getElem?_modify]
  by_cases h : g = b
  · subst h
    simp
    cases w.heap[g]? with
    | none => rfl
    | some ob => cases ob <;> simp
  · simp [h]
theorem Row2.set {w : World} {g : Nat} {l : List (Int × Int)} (h : Row2 w g l) {i : Nat} (hi : i < l.length) (a k : Int) :
    Row2 ((w.setCell ⟨g, i * 2, none⟩ (.int .i64 a)).setCell ⟨g, i * 2 + 1, none⟩ (.int .i64 k)) g (l.set i (a, k)) := by
  intro j x y hj
  obtain ⟨x0, hx0⟩ : ∃ p, l[i]? = some p := ⟨l[i], List.getElem?_eq_getElem _⟩
  obtain ⟨p0, p1⟩ := x0
  obtain ⟨⟨q1, q2⟩, q3, q4⟩ := h i p0 p1 hx0
  by_cases e : i = j
  · subst e
    rw [List.getElem?_set_self hi] at hj
    simp at hj
    obtain ⟨rfl, rfl⟩ := hj
    refine ⟨⟨?_, ?_⟩, ?_, ?_⟩
    · rw [set_cell_other _ (by omega), set_cell_same _ q1]
    · rw [set_cell_same (x := .int .i64 p1) _ (by rw [set_cell_other _ (by omega)]; exact q2)]
    · rw [set_frozen, set_frozen]; exact q3
    · rw [set_frozen, set_frozen]; exact q4
  · rw [List.getElem?_set_ne e] at hj
    obtain ⟨⟨r1, r2⟩, r3, r4⟩ := h j x y hj
    refine ⟨⟨?_, ?_⟩, ?_, ?_⟩
    · rw [set_cell_other _ (by omega), set_cell_other _ (by omega)]; exact r1
    · rw [set_cell_other _ (by omega), set_cell_other _ (by omega)]; exact r2
    · rw [set_frozen, set_frozen]; exact r3
    · rw [set_frozen, set_frozen]; exact r4

/-- the state of slices.DeleteFunc over F behind j of its elements: i are kept -/
structure DelInv (p : Int × Int → Bool) (F : List (Int × Int)) (i j : Nat) (L : List (Int × Int)) : Prop where
  len : L.length = F.length
  lt : i < j
  le : j ≤ F.length
  low : L.take i = (F.take j).filter fun x => !p x
  high : L.drop j = F.drop j

theorem DelInv.start {p : Int × Int → Bool} {F : List (Int × Int)} {i : Nat} {z : Int × Int} (hz : F[i]? = some z) (hp : p z = true) (hall : ∀ x ∈ F.take i, p x = false) : DelInv p F i (i + 1) F := by
  refine ⟨rfl, by omega, (List.getElem?_eq_some_iff.1 hz).1, ?_, rfl⟩
  rw [List.take_add_one, hz, List.filter_append]
  simp [hp]
  exact (List.filter_eq_self.2 fun x hx => by simp [hall x hx]).symm
theorem DelInv.at {p : Int × Int → Bool} {F L : List (Int × Int)} {i j : Nat} (h : DelInv p F i j L) (m : Nat) (hm : j ≤ m) : L[m]? = F[m]? := by
  have := congrArg (fun l => l[m - j]?) h.high
  simp only [List.getElem?_drop] at this
  rwa [show j + (m - j) = m by omega] at this
theorem DelInv.skip {p : Int × Int → Bool} {F L : List (Int × Int)} {i j : Nat} {z : Int × Int} (h : DelInv p F i j L) (hz : F[j]? = some z) (hp : p z = true) : DelInv p F i (j + 1) L := by
  have hl := h.len; have hj := (List.getElem?_eq_some_iff.1 hz).1; have hlt := h.lt
  refine ⟨hl, by omega, by omega, ?_, ?_⟩
  · rw [List.take_add_one, hz, List.filter_append, ← h.low]; simp [hp]
  · have := congrArg (List.drop 1) h.high
    simpa [List.drop_drop] using this
theorem DelInv.keep {p : Int × Int → Bool} {F L : List (Int × Int)} {i j : Nat} {z : Int × Int} (h : DelInv p F i j L) (hz : F[j]? = some z) (hp : p z = false) : DelInv p F (i + 1) (j + 1) (L.set i z) := by
  have hl := h.len; have hj := (List.getElem?_eq_some_iff.1 hz).1; have hlt := h.lt
  refine ⟨by simp [hl], by omega, by omega, ?_, ?_⟩
  · have e1 : F.take (j + 1) = F.take j ++ [z] := by rw [List.take_add_one, hz]; rfl
    have e2 : (L.set i z).take (i + 1) = L.take i ++ [z] := by rw [List.take_add_one, List.getElem?_set_self (by omega), List.take_set_of_le (Nat.le_refl _)]; rfl
    rw [e1, e2, List.filter_append, ← h.low]; simp [hp]
  · rw [List.drop_set_of_lt (by omega)]
    have := congrArg (List.drop 1) h.high
    simpa [List.drop_drop] using this
theorem DelInv.done {p : Int × Int → Bool} {F L : List (Int × Int)} {i : Nat} (h : DelInv p F i F.length L) : L.take i = (F.filter fun x => !p x) ∧ i = (F.filter fun x => !p x).length ∧ i < L.length := by
  have h1 := h.low
  have h2 := h.lt
  have h3 := h.len
  rw [List.take_length] at h1
  exact ⟨h1, by rw [← h1, List.length_take]; omega, by omega⟩
end Go.Proofs.YtcokmiidgdmdlaaGreatDoor

namespace Go.Proofs.YtcokmiidgdmdlaaGreatDoor
open Go.RowKit

/-- v reads as these blocks of pages; what it lies in is from block number 'base' on -/
def RowS (base : Nat) (w : World) (v : Value) (l : List (Int × Int)) : Prop :=
  ∃ p cap, v = .slice p l.length cap ∧ (l = [] → p = none ∧ cap = 0 ∨ ∃ g, p = some ⟨g, 0, none⟩ ∧ base ≤ g ∧ g < w.heap.size) ∧
    ∀ j a k, l[j]? = some (a, k) → ∃ g, p = some ⟨g, 0, none⟩ ∧ base ≤ g ∧ g < w.heap.size ∧ w.cell? ⟨g, j * 2, none⟩ = some (.int .i64 a) ∧ w.cell? ⟨g, j * 2 + 1, none⟩ = some (.int .i64 k)
end Go.Proofs.YtcokmiidgdmdlaaGreatDoor

namespace Go.Proofs.YtcokmiidgdmdlaaGreatDoor
open Go.RowKit
set_option linter.unusedSimpArgs false

def RowC (w : World) (g : Nat) (l : List (Int × Int)) : Prop := ∀ j a k, l[j]? = some (a, k) → w.cell? ⟨g, j * 2, none⟩ = some (.int .i64 a) ∧ w.cell? ⟨g, j * 2 + 1, none⟩ = some (.int .i64 k)
/-- v reads as these blocks of pages; it lies from block number 'base' on -/
def RowT (base : Nat) (w : World) (v : Value) (l : List (Int × Int)) : Prop :=
  (v = .slice none 0 0 ∧ l = []) ∨ ∃ g cap, v = .slice (some ⟨g, 0, none⟩) l.length cap ∧ l.length ≤ cap ∧ cap ≤ maxLen ∧ base ≤ g ∧ g < w.heap.size ∧ RowC w g l
theorem OwnB.rowT {w w' : World} {v : Value} {l : List (Int × Int)} (h : OwnB w w' v l) : RowT w.heap.size w' v l := by
  obtain ⟨ho, _⟩ := h
  have ho' := ho
  obtain ⟨_, h2⟩ := ho
  rcases h2 with ⟨rfl, h3⟩ | ⟨g, cap, cur, rfl, hg, hh, hcap, hmax, _⟩
  · refine .inl ⟨rfl, ?_⟩
    cases l with
    | nil => rfl
    | cons b r => simp at h3
  · refine .inr ⟨g, cap, rfl, hcap, hmax, hg, (ho'.lt g rfl).2, fun j a k hj => ?_⟩
    have hlt : j < l.length := (List.getElem?_eq_some_iff.1 hj).1
    obtain ⟨e1, e2⟩ := encB_get l j a k hj
    rw [ho'.cellAt (j * 2) (by omega), ho'.cellAt (j * 2 + 1) (by omega)]
    exact ⟨e1, e2⟩
theorem RowT.mono {base base' : Nat} {w : World} {v : Value} {l : List (Int × Int)} (h : RowT base w v l) (hb : base' ≤ base) : RowT base' w v l := by
  rcases h with h | ⟨g, cap, h1, h2, h3, h4, h5⟩
  · exact .inl h
  · exact .inr ⟨g, cap, h1, h2, h3, by omega, h5⟩
theorem encB_append (l m : List (Int × Int)) : encB (l ++ m) = encB l ++ encB m := by simp [encB]
theorem encB_one (l : List (Int × Int)) : ∀ u ∈ encB l, u.oneCell' = true := by
  intro u hu
  simp only [encB, List.mem_flatMap] at hu
  obtain ⟨x, _, hx⟩ := hu
  simp at hx
  rcases hx with rfl | rfl <;> rfl
theorem encB_cells {w : World} {g o : Nat} : ∀ {l : List (Int × Int)}, (∀ j a k, l[j]? = some (a, k) → w.cell? ⟨g, o + j * 2, none⟩ = some (.int .i64 a) ∧ w.cell? ⟨g, o + j * 2 + 1, none⟩ = some (.int .i64 k)) → ∀ j u, (encB l)[j]? = some u → w.cell? ((⟨g, o, none⟩ : Addr).add j) = some u := by
  intro l h j u hu
  have hl : j < (encB l).length := (List.getElem?_eq_some_iff.1 hu).1
  rw [encB_length] at hl
  obtain ⟨p, hp⟩ : ∃ p, l[j / 2]? = some p := ⟨l[j / 2]'(by omega), List.getElem?_eq_getElem _⟩
  obtain ⟨a, k⟩ := p
  obtain ⟨e1, e2⟩ := encB_get l _ a k hp
  obtain ⟨h1, h2⟩ := h _ a k hp
  have had : (⟨g, o, none⟩ : Addr).add j = ⟨g, o + j, none⟩ := by
    unfold Addr.add
    split
    · rename_i e; rw [e]; rfl
    · rfl
  rw [had]
  have : j = j / 2 * 2 ∨ j = j / 2 * 2 + 1 := by omega
  rcases this with e | e
  · rw [e] at hu ⊢
    rw [e1] at hu
    rw [← Option.some.inj hu]; exact h1
  · rw [e] at hu ⊢
    rw [e2] at hu
    rw [← Option.some.inj hu, ← Nat.add_assoc]; exact h2
/-- what is appended: nothing (of a nil slice, or of one of length 0), or blocks that lie from a place on -/
def Src (w : World) (p : Option Addr) (m : List (Int × Int)) : Prop :=
  (p = none ∧ m = []) ∨ ∃ g o, p = some ⟨g, o, none⟩ ∧ ∀ j a k, m[j]? = some (a, k) → w.cell? ⟨g, o + j * 2, none⟩ = some (.int .i64 a) ∧ w.cell? ⟨g, o + j * 2 + 1, none⟩ = some (.int .i64 k)

end Go.Proofs.YtcokmiidgdmdlaaGreatDoor

namespace Go.Proofs.YtcokmiidgdmdlaaGreatDoor
open Go.RowKit
set_option linter.unusedSimpArgs false
set_option linter.unusedVariables false

/-- v reads as the values us; it lies in none of the blocks X -/
def RowV (X : List Nat) (w : World) (v : Value) (us : List Value) : Prop :=
  ∃ p cap, v = .slice p us.length cap ∧ us.length ≤ cap ∧ cap ≤ maxLen ∧ ∀ j u, us[j]? = some u → ∃ g off, p = some ⟨g, off, none⟩ ∧ g ∉ X ∧ g < w.heap.size ∧ w.cell? ⟨g, off + j, none⟩ = some u
theorem RowV.keep {X S : List Nat} {w w' : World} {v : Value} {us : List Value} (h : RowV X w v us) (k : Keep S w w') (hs : ∀ s ∈ S, s ∈ X ∨ w.heap.size ≤ s) : RowV X w' v us := by
  obtain ⟨p, cap, h1, h2, h3, h4⟩ := h
  refine ⟨p, cap, h1, h2, h3, fun j u hj => ?_⟩
  obtain ⟨g, off, e1, e2, e3, e4⟩ := h4 j u hj
  exact ⟨g, off, e1, e2, Nat.lt_of_lt_of_le e3 k.size, (k.cell e3 fun q => by rcases hs g q with r | r; (· exact e2 r); (· omega)).trans e4⟩
theorem RowV.below {X : List Nat} {w w' : World} {v : Value} {us : List Value} (h : RowV X w v us) (k : Below w.heap.size w w') : RowV X w' v us := h.keep (Keep.of (S := []) k) (fun _ q => by cases q)
theorem RowV.more {X Y : List Nat} {w : World} {v : Value} {us : List Value} (h : RowV X w v us) (hY : ∀ y ∈ Y, y ∈ X ∨ w.heap.size ≤ y) : RowV Y w v us := by
  obtain ⟨p, cap, h1, h2, h3, h4⟩ := h
  refine ⟨p, cap, h1, h2, h3, fun j u hj => ?_⟩
  obtain ⟨g, off, e1, e2, e3, e4⟩ := h4 j u hj
  exact ⟨g, off, e1, fun q => by rcases hY g q with r | r; (· exact e2 r); (· omega), e3, e4⟩
theorem RowV.sub {X Y : List Nat} {w : World} {v : Value} {us : List Value} (h : RowV Y w v us) (hX : ∀ x ∈ X, x ∈ Y) : RowV X w v us := by
  obtain ⟨p, cap, h1, h2, h3, h4⟩ := h
  refine ⟨p, cap, h1, h2, h3, fun j u hj => ?_⟩
  obtain ⟨g, off, e1, e2, e3, e4⟩ := h4 j u hj
  exact ⟨g, off, e1, fun q => e2 (hX g q), e3, e4⟩
theorem RowV.nil (X : List Nat) (w : World) : RowV X w (.slice none 0 0) [] := ⟨none, 0, rfl, Nat.le_refl _, Nat.zero_le _, fun j u hj => by simp at hj⟩
theorem own_rowV {X : List Nat} {w : World} {base : Nat} {E : TypeId} {v : Value} {us : List Value} (h : w.ownsRow base E 1 v us.length us) (hX : ∀ x ∈ X, ∀ g, v.ownBlock = some g → x ≠ g) : RowV X w v us := by
  have ho := h
  rcases h.2 with ⟨rfl, h3⟩ | ⟨g, cap, cur, rfl, hg, hh, hcap, hmax, _⟩
  · cases us with
    | nil => exact RowV.nil X w
    | cons b r => simp at h3
  · refine ⟨some ⟨g, 0, none⟩, cap, rfl, hcap, hmax, fun j u hj => ⟨g, 0, rfl, fun q => hX g q g rfl rfl, (ho.lt g rfl).2, ?_⟩⟩
    have hlt : j < us.length := (List.getElem?_eq_some_iff.1 hj).1
    rw [Nat.zero_add, ho.cellAt j (by omega)]
    exact hj

/-- an element type of one cell: of which slice type, its zero value, its bytes -/
structure El (T E : TypeId) (z : Value) (b : Nat) : Prop where
  und : Tryz.prog.underlying T = some (.slice E)
  info : (Tryz.prog.info? E).map (fun i => (i.zero, i.size, i.bytes)) = some (some z, 1, b)
  one : z.cells.size = 1
  few : b ≤ 64

/-- what is appended: nothing (of a nil slice, or of an empty one), or cells that lie from a place on -/
def SrcV (w : World) (p : Option Addr) (ms : List Value) : Prop :=
  (p = none ∧ ms = []) ∨ ∃ a : Addr, p = some a ∧ ∀ (j : Nat) (u : Value), ms[j]? = some u → w.cell? (a.add j) = some u
theorem addr_add (g o j : Nat) : (⟨g, o, none⟩ : Addr).add j = ⟨g, o + j, none⟩ := by
  unfold Addr.add
  split
  · rename_i e; rw [e]; rfl
  · rfl
theorem run_app1 {T E : TypeId} {z : Value} {b : Nat} (hE : El T E z b) {w : World} (ty : TypeId) {base : Nat} {v : Value} {us : List Value} (hown : w.ownsRow base E 1 v us.length us) {p : Option Addr} {c : Nat} {ms : List Value} (hs : SrcV w p ms) (h1 : ∀ u ∈ ms, u.oneCell' = true)
    (hl : us.length + ms.length ≤ 65536) (hb : base ≤ w.heap.size) :
    ∃ q k w', (Builtin.append_ #[T, T] ty #[v, .slice p ms.length c]).run Tryz.prog w = .ok (.slice q (us ++ ms).length k) w' ∧ w'.ownsRow base E 1 (.slice q (us ++ ms).length k) (us ++ ms).length (us ++ ms) ∧ w.grownBy w' v.ownBlock ∧
      ((Value.slice q (us ++ ms).length k).ownBlock = v.ownBlock ∨ (Value.slice q (us ++ ms).length k).ownBlock = some w.heap.size) := by
  obtain ⟨i0, hi, hz0, hz1, hz2⟩ := info_parts hE.info
  have ht := hE.und
  have hfew := hE.few
  rcases hs with ⟨rfl, rfl⟩ | ⟨a, rfl, hc⟩
  · rcases hown.2 with ⟨rfl, hu⟩ | ⟨g, cap, cur, rfl, _, _, hnc, _⟩
    · refine ⟨none, 0, w, ?_, ?_, ⟨rfl, rfl, rfl, Nat.le_refl _, fun _ _ _ => rfl⟩, .inl rfl⟩
      · simp [Builtin.append_, run_underlying ht, sizeOf, typeInfo, hi, Builtin.lenOf, Builtin.firstCells, hu]
      · have hu' : us = [] := List.length_eq_zero_iff.1 hu
        subst hu'
        exact hown
    · refine ⟨some ⟨g, 0, none⟩, cap, w, ?_, by simpa using hown, ⟨rfl, rfl, rfl, Nat.le_refl _, fun _ _ _ => rfl⟩, .inl rfl⟩
      simp [Builtin.append_, run_underlying ht, sizeOf, typeInfo, hi, Builtin.lenOf, Builtin.firstCells, hnc, storeCells]
  · obtain ⟨v', w', hrun, h2, h3, _, h5⟩ := run_append_own_at (P := Tryz.prog) w base T ty E i0 z 1 b ht hi hz0 hz1 hz2 hE.one (by omega) v us.length us hown a ms.length c ms
      (by omega) hc h1 (by unfold maxLen; omega) (by
        have : (us.length + ms.length) * b ≤ 65536 * 64 := Nat.mul_le_mul hl hfew
        omega) hb
    have hf : ∃ q k, v' = .slice q (us.length + ms.length) k := by
      rcases h2.2 with ⟨e, e2⟩ | ⟨g', cap', cur, e, _⟩
      · exact ⟨none, 0, by rw [e, e2]⟩
      · exact ⟨_, _, e⟩
    obtain ⟨q, k, rfl⟩ := hf
    rw [← List.length_append] at hrun h2 h5
    exact ⟨q, k, w', hrun, h2, h3, h5⟩
theorem wpList_app1 {T E : TypeId} {z : Value} {b : Nat} (hE : El T E z b) {base : Nat} {v : Value} {us ms : List Value} {w : World} {p : Option Addr} {c : Nat} {ops : Array Oper} {rest : List Oper} {o : Oper} {a : Act} {Q : Exit → Act → World → Prop} (hgd : o.guard = none) (s x : Operand)
    (ho : o.op = .call { callee := .builtin .append, args := #[s, x], argTypes := #[T, T] }) (hv : a.eval s = v) (mn : Nat) (hx : a.eval x = .slice p mn c) (hmn : ms.length = mn)
    (hown : w.ownsRow base E 1 v us.length us) (hs : SrcV w p ms) (h1 : ∀ u ∈ ms, u.oneCell' = true) (hl : us.length + ms.length ≤ 65536) (hb : base ≤ w.heap.size)
    (h : ∀ q k w', w'.ownsRow base E 1 (.slice q (us ++ ms).length k) (us ++ ms).length (us ++ ms) → w.grownBy w' v.ownBlock → ((Value.slice q (us ++ ms).length k).ownBlock = v.ownBlock ∨ (Value.slice q (us ++ ms).length k).ownBlock = some w.heap.size) → wpList Tryz.prog ops Q rest (a.put o.dst (.slice q (us ++ ms).length k)) w') : wpList Tryz.prog ops Q (o :: rest) a w := by
  subst hmn
  refine wpList_plain hgd fun K hK => ?_
  obtain ⟨q, k, w', hrun, h2, h3, h4⟩ := run_app1 hE (w := w) o.type hown hs h1 hl hb (c := c)
  unfold Oper.wp execOp
  simp only [ho, resolve, invoke, builtin, Sem.run_bind, Sem.run_pure, Result.andThen_ok, List.map_toArray, List.map_cons, List.map_nil, hv, hx, hrun]
  exact hK _ _ (h q k w' h2 h3 h4)
theorem step_app1 {T E : TypeId} {z : Value} {b : Nat} (hE : El T E z b) {base : Nat} {v : Value} {us ms : List Value} {w : World} {p : Option Addr} {c : Nat} {ops : Array Oper} {o : Oper} {a : Act} {K : Act → World → Prop} {Q : Exit → Act → World → Prop} {F : Prop} (hgd : o.guard = none) (s x : Operand)
    (ho : o.op = .call { callee := .builtin .append, args := #[s, x], argTypes := #[T, T] }) (hv : a.eval s = v) (mn : Nat) (hx : a.eval x = .slice p mn c) (hmn : ms.length = mn)
    (hown : w.ownsRow base E 1 v us.length us) (hs : SrcV w p ms) (h1 : ∀ u ∈ ms, u.oneCell' = true) (hl : us.length + ms.length ≤ 65536) (hb : base ≤ w.heap.size)
    (h : ∀ q k w', w'.ownsRow base E 1 (.slice q (us ++ ms).length k) (us ++ ms).length (us ++ ms) → w.grownBy w' v.ownBlock → ((Value.slice q (us ++ ms).length k).ownBlock = v.ownBlock ∨ (Value.slice q (us ++ ms).length k).ownBlock = some w.heap.size) → K (a.put o.dst (.slice q (us ++ ms).length k)) w') :
    if Region.wanted o (yielded ops a.tmps) = true then Oper.wp Tryz.prog o a w K Q else F := by
  subst hmn
  have hw : Region.wanted o (yielded ops a.tmps) = true := by simp [Region.wanted, hgd]
  rw [if_pos hw]
  obtain ⟨q, k, w', hrun, h2, h3, h4⟩ := run_app1 hE (w := w) o.type hown hs h1 hl hb (c := c)
  unfold Oper.wp execOp
  simp only [ho, resolve, invoke, builtin, Sem.run_bind, Sem.run_pure, Result.andThen_ok, List.map_toArray, List.map_cons, List.map_nil, hv, hx, hrun]
  exact h q k w' h2 h3 h4
theorem srcV_one (w : World) (u : Value) (t : TypeId) : SrcV (w.alloc (.cells #[u] t)) (some ⟨w.heap.size, 0, none⟩) [u] :=
  .inr ⟨_, rfl, fun j x hj => by
    rw [addr_add]
    cases j with
    | zero => simp at hj; subst hj; rw [World.cell?_alloc_at _ _ _ _ (by simp)]; rfl
    | succ j => simp at hj⟩
theorem Below.grownK {S : List Nat} {w w' : World} {r : Option Nat} (h : w.grownBy w' r) (hr : ∀ g, r = some g → g ∈ S ∨ w.heap.size ≤ g) : Keep S w w' :=
  ⟨h.os, h.tape, h.output, h.size, fun k hk hn => h.block k hk fun e => by rcases hr k e.symm with q | q; (· exact hn q); (· omega)⟩

/-- the block of a slice of the call's own -/
def ownX (v : Value) : List Nat := v.ownBlock.toList
theorem ownX_mem {v : Value} {g : Nat} : g ∈ ownX v ↔ v.ownBlock = some g := by unfold ownX; cases v.ownBlock <;> simp [eq_comm]
theorem ownX_ge {w : World} {B : Nat} {E : TypeId} {s : Nat} {v : Value} {n : Nat} {xs : List Value} (h : w.ownsRow B E s v n xs) {g : Nat} (hg : g ∈ ownX v) : B ≤ g ∧ g < w.heap.size := h.lt g (ownX_mem.1 hg)
theorem app_keep {w w' : World} {v : Value} (hg : w.grownBy w' v.ownBlock) : Keep (ownX v) w w' := Below.grownK hg fun g e => .inl (ownX_mem.2 e)
theorem app_own {w : World} {v v' : Value} (ho : v'.ownBlock = v.ownBlock ∨ v'.ownBlock = some w.heap.size) : ∀ y ∈ ownX v', y ∈ ownX v ∨ w.heap.size ≤ y := by
  intro y hy
  rw [ownX_mem] at hy ⊢
  rcases ho with e | e
  · exact .inl (e ▸ hy)
  · rw [e] at hy; injection hy with hy; exact .inr (by omega)
theorem own_keep {S : List Nat} {w w' : World} {B : Nat} {E : TypeId} {s : Nat} {v : Value} {n : Nat} {xs : List Value} (h : w.ownsRow B E s v n xs) (k : Keep S w w') (hs : ∀ x ∈ S, x ∉ ownX v) : w'.ownsRow B E s v n xs := by
  refine ⟨h.1, ?_⟩
  have hlt := h.lt
  rcases h.2 with hn | ⟨g, cap, cur, rfl, hb, hgg, rest⟩
  · exact .inl hn
  · exact .inr ⟨g, cap, cur, rfl, hb, (k.block g (hlt g rfl).2 fun q => hs g q (ownX_mem.2 rfl)).trans hgg, rest⟩

/-- a block in a local variable, or behind a pointer: what its cells hold; they may be written -/
structure LocN (w : World) (b : Nat) (us : List Value) : Prop where
  lt : b < w.heap.size
  c : ∀ j u, us[j]? = some u → w.cell? ⟨b, j, none⟩ = some u
  f : ∀ j, j < us.length → w.frozen? ⟨b, j, none⟩ = false
theorem LocN.keep {S : List Nat} {w w' : World} {b : Nat} {us : List Value} (h : LocN w b us) (k : Keep S w w') (hb : b ∉ S) : LocN w' b us :=
  ⟨Nat.lt_of_lt_of_le h.lt k.size, fun j u hj => (k.cell h.lt hb).trans (h.c j u hj), fun j hj => (k.frozen h.lt hb).trans (h.f j hj)⟩
theorem LocN.below {w w' : World} {b : Nat} {us : List Value} (h : LocN w b us) {n : Nat} (k : Below n w w') (hb : b < n) : LocN w' b us :=
  ⟨Nat.lt_of_lt_of_le h.lt k.size, fun j u hj => (k.cell (p := ⟨b, j, none⟩) hb).trans (h.c j u hj), fun j hj => (k.frozen (p := ⟨b, j, none⟩) hb).trans (h.f j hj)⟩
theorem LocN.go {w w' : World} {b : Nat} {us : List Value} (h : LocN w b us) (k : Below w.heap.size w w') : LocN w' b us := h.below k h.lt
theorem LocN.new (w : World) (us : List Value) (t : TypeId) : LocN (w.alloc (.cells us.toArray t)) w.heap.size us :=
  ⟨by simp, fun j u hj => by rw [World.cell?_alloc_at _ _ _ _ (by simp)]; simpa using hj, fun j hj => World.frozen?_alloc_at _ _ _ _ rfl⟩
theorem LocN.store {w : World} {b : Nat} {us : List Value} (h : LocN w b us) (i : Nat) (v : Value) (hi : i < us.length) : LocN (w.setCell ⟨b, i, none⟩ v) b (us.set i v) := by
  refine ⟨by simpa [World.setCell] using h.lt, fun j u hj => ?_, fun j hj => by rw [set_frozen]; exact h.f j (by simpa using hj)⟩
  by_cases e : i = j
  · subst e
    rw [List.getElem?_set_self hi] at hj
    injection hj with hj
    subst hj
    obtain ⟨x, hx⟩ : ∃ x, us[i]? = some x := ⟨us[i], List.getElem?_eq_getElem _⟩
    exact set_cell_same _ (h.c i x hx)
  · rw [List.getElem?_set_ne e] at hj
    rw [set_cell_other _ e]
    exact h.c j u hj
end Go.Proofs.YtcokmiidgdmdlaaGreatDoor

namespace Go.Proofs.YtcokmiidgdmdlaaGreatDoor
open Go.RowKit
set_option linter.unusedSimpArgs false
set_option linter.unusedVariables false
theorem LocN.mk_ (w : World) (us : List Value) (t : TypeId) {b : Nat} (h : w.heap.size = b) : LocN (w.alloc (.cells us.toArray t)) b us := by subst h; exact LocN.new w us t
theorem LocN.past {w : World} {b : Nat} {us : List Value} (h : LocN w b us) (o : Obj) : LocN (w.alloc o) b us := h.go ((Below.refl _ _).alloc (Nat.le_refl _) o)
theorem LocN.drewL {w : World} {b : Nat} {us : List Value} (h : LocN w b us) : LocN w.drew b us := h.keep ((Keep.refl [] _).drew) (by simp)
theorem LocN.far {w : World} {b c : Nat} {us : List Value} (h : LocN w b us) (hb : c ≠ b) (o : Nat) (v : Value) : LocN (w.setCell ⟨c, o, none⟩ v) b us :=
  h.keep (S := [c]) ((Keep.refl [c] _).setCell (p := ⟨c, o, none⟩) (.inl (by simp)) v) (by simpa using fun e => hb e.symm)
theorem LocN.store2 {w : World} {b : Nat} {u0 u1 : Value} (h : LocN w b [u0, u1]) (v0 v1 : Value) : LocN ((w.setCell ⟨b, 0, none⟩ v0).setCell ⟨b, 1, none⟩ v1) b [v0, v1] := (h.store 0 v0 (by simp)).store 1 v1 (by simp)
theorem LocN.store3 {w : World} {b : Nat} {u0 u1 u2 : Value} (h : LocN w b [u0, u1, u2]) (v0 v1 v2 : Value) : LocN (((w.setCell ⟨b, 0, none⟩ v0).setCell ⟨b, 1, none⟩ v1).setCell ⟨b, 2, none⟩ v2) b [v0, v1, v2] := ((h.store 0 v0 (by simp)).store 1 v1 (by simp)).store 2 v2 (by simp)
theorem Keep.wide {S : List Nat} {a b : World} (h : Keep [] a b) : Keep S a b := h.mono (fun _ q => by cases q)
theorem Keep.stepW {S : List Nat} {a b c : World} (h : Keep [] a b) (k : Below b.heap.size b c) : Keep S a c := (h.step k).wide
theorem Keep.thenW {S : List Nat} {a b c : World} (h : Keep [] a b) (k : Keep S b c) : Keep S a c := h.wide.then k
end Go.Proofs.YtcokmiidgdmdlaaGreatDoor

namespace Go.Proofs.YtcokmiidgdmdlaaGreatDoor
open Go.RowKit Go.ChangeShapes
set_option linter.unusedSimpArgs false

/-- a number fits -/
def Fit64 (x : Int) : Prop := -9223372036854775808 ≤ x ∧ x ≤ 9223372036854775807
theorem fit64_wf {x : Int} (h : (Lit.int .i64 x).wf = true) : Fit64 x := by
  simp [Lit.wf, IntKind.min, IntKind.max, IntKind.signed, IntKind.bits] at h
  exact ⟨by omega, by omega⟩
/-- a slice of structs of s cells that came in -/
def RowG {α : Type} (s : Nat) (cells : α → List Value) (fits : α → Prop) (w : World) (v : Value) (xs : List α) : Prop :=
  ∃ p cap, v = .slice p xs.length cap ∧ (xs.length ≤ cap ∧ cap ≤ maxLen) ∧ ∀ j x, xs[j]? = some x → fits x ∧ ∃ g off, p = some ⟨g, off, none⟩ ∧ g < w.heap.size ∧ ∀ i u, (cells x)[i]? = some u → w.cell? ⟨g, off + j * s + i, none⟩ = some u

theorem add_off (b off i : Nat) : (⟨b, off, none⟩ : Addr).add i = ⟨b, off + i, none⟩ := by
  unfold Addr.add
  split
  · rename_i h; rw [h]; rfl
  · rfl
theorem len2 {α : Type} {l : List α} (h : l.length = 2) : ∃ a b, l = [a, b] := by
  match l, h with
  | [a, b], _ => exact ⟨a, b, rfl⟩
theorem len6 {α : Type} {l : List α} (h : l.length = 6) : ∃ a b c d e f, l = [a, b, c, d, e, f] := by
  match l, h with
  | [a, b, c, d, e, f], _ => exact ⟨a, b, c, d, e, f, rfl⟩
theorem len7 {α : Type} {l : List α} (h : l.length = 7) : ∃ a b c d e f g, l = [a, b, c, d, e, f, g] := by
  match l, h with
  | [a, b, c, d, e, f, g], _ => exact ⟨a, b, c, d, e, f, g, rfl⟩
theorem rowG_of {α : Type} {H : Type} {enc : TypeId × Value → H} {W : World} {base : Nat} {spare : Nat → Bool} {held : Bool} {fuel : Nat} {v : Value} {x : DataW H × List MemPlace} {T E : TypeId} {s : Nat} {cells : α → List Value} {fits : α → Prop}
    (ht : Tryz.prog.underlying T = some (.slice E)) (hs : Tryz.prog.cellsOf E = s) (hs0 : 0 < s)
    (each : ∀ (n : Nat) (cs : List Value) (y : DataW H × List MemPlace), cs.length = s → DataW.trod enc Tryz.prog W base spare held n E cs = some y → ∃ q : α, cs = cells q ∧ fits q)
    (h : DataW.trod enc Tryz.prog W base spare held fuel T [v] = some x) : ∃ xs, RowG s cells fits W v xs := by
  rcases Go.Deep.open_slice ht h with ⟨hcs, _⟩ | ⟨a, len, cap, m, n, D, Pl, hcs, _, hl, hm, hmm, _, hel⟩
  · have e : v = .slice none 0 0 := by simpa using hcs
    exact ⟨[], none, 0, e, ⟨Nat.le_refl _, Nat.zero_le _⟩, fun j x hj => by simp at hj⟩
  · have e : v = .slice (some a) len cap := by simpa using hcs
    have hlm : len ≤ m := by rw [hmm]; split <;> omega
    have key : ∀ i, i < len → ∃ q : α, fits q ∧ (cells q).length = s ∧ ∀ j u, (cells q)[j]? = some u → W.cell? (a.add (i * s + j)) = some u := by
      intro i hi
      obtain ⟨cs', h1, h2⟩ := hel i (by omega)
      rw [hs] at h1
      obtain ⟨_, hlen, hcell⟩ := World.cells?_some h1
      obtain ⟨q, rfl, hq⟩ := each _ _ _ hlen h2
      refine ⟨q, hq, hlen, fun j u hj => ?_⟩
      have hjl := (List.getElem?_eq_some_iff.1 hj).1
      have := hcell j (by omega)
      rw [Go.Deep.add_add] at this
      rw [this, hj]
    cases len with
    | zero => exact ⟨[], some a, cap, e, ⟨Nat.zero_le _, hm⟩, fun j x hj => by simp at hj⟩
    | succ len =>
      have : Nonempty α := ⟨(key 0 (by omega)).choose⟩
      have ch : ∃ q : Nat → α, ∀ i, i < len + 1 → fits (q i) ∧ (cells (q i)).length = s ∧ ∀ j u, (cells (q i))[j]? = some u → W.cell? (a.add (i * s + j)) = some u := by
        refine ⟨fun i => if hi : i < len + 1 then (key i hi).choose else Classical.choice this, fun i hi => ?_⟩
        simp only [dif_pos hi]
        exact (key i hi).choose_spec
      obtain ⟨q, hq⟩ := ch
      obtain ⟨b, off, spot⟩ := a
      obtain ⟨_, c0, c1⟩ := hq 0 (by omega)
      have h00 := c1 0 _ (List.getElem?_eq_getElem (by omega))
      have hspot : spot = none := by simpa [Addr.add] using World.cell?_spot h00
      subst hspot
      refine ⟨(List.range (len + 1)).map q, some ⟨b, off, none⟩, cap, by simp [e], ⟨by simpa using hl, hm⟩, fun j x hj => ?_⟩
      have hjl : j < len + 1 := by
        have := (List.getElem?_eq_some_iff.1 hj).1
        simpa using this
      rw [List.getElem?_map, List.getElem?_range hjl] at hj
      simp at hj
      subst hj
      obtain ⟨f1, f2, f3⟩ := hq j hjl
      refine ⟨f1, b, off, rfl, ?_, fun i u hi => ?_⟩
      · rw [add_off] at h00
        rcases Nat.lt_or_ge b W.heap.size with r | r
        · exact r
        · simp [World.cell?, Array.getElem?_eq_none r] at h00
      · have := f3 i u hi
        rwa [add_off, ← Nat.add_assoc] at this
theorem RowG.form {α : Type} {s : Nat} {cells : α → List Value} {fits : α → Prop} {w : World} {v : Value} {xs : List α} (h : RowG s cells fits w v xs) (h0 : 0 < xs.length) :
    ∃ g off cap, v = .slice (some ⟨g, off, none⟩) xs.length cap ∧ (xs.length ≤ cap ∧ cap ≤ maxLen) ∧ g < w.heap.size ∧ ∀ j x, xs[j]? = some x → fits x ∧ ∀ i u, (cells x)[i]? = some u → w.cell? ⟨g, off + j * s + i, none⟩ = some u := by
  obtain ⟨p, cap, rfl, hcap, h2⟩ := h
  obtain ⟨_, g, off, rfl, hg, _⟩ := h2 0 _ (List.getElem?_eq_getElem h0)
  refine ⟨g, off, cap, rfl, hcap, hg, fun j x hj => ?_⟩
  obtain ⟨f, g', off', e, _, q⟩ := h2 j x hj
  injection e with e; injection e with ea eb
  subst ea eb
  exact ⟨f, q⟩
end Go.Proofs.YtcokmiidgdmdlaaGreatDoor

namespace Go.Proofs.YtcokmiidgdmdlaaGreatDoor
open Go.RowKit Go.ChangeShapes

/-- a slice of ints that came in: what it reads as -/
def RowI (w : World) (v : Value) (xs : List Int) : Prop :=
  ∃ p cap, v = .slice p xs.length cap ∧ ∀ j x, xs[j]? = some x → ∃ g off, p = some ⟨g, off, none⟩ ∧ g < w.heap.size ∧ w.cell? ⟨g, off + j, none⟩ = some (.int .i64 x) ∧ -9223372036854775808 ≤ x ∧ x ≤ 9223372036854775807

end Go.Proofs.YtcokmiidgdmdlaaGreatDoor
