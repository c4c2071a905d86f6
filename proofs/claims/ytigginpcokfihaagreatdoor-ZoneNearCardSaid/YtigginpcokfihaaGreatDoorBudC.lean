/- The closures of (*Buddy).Take, and slices.IndexFunc over them, by their contracts. -/
import Derived.Test.YtigginpcokfihaaGreatDoorRowM
import Derived.Test.YtigginpcokfihaaGreatDoorPlain
import Derived.Test.YtigginpcokfihaaGreatDoorQuiet
namespace Go.Proofs.YtigginpcokfihaaGreatDoor
open Go.RowKit
set_option linter.unusedSimpArgs false

/-- cmp.Compare at int -/
def cmpI (a b : Int) : Int := if a < b then -1 else if b < a then 1 else 0
set_option maxHeartbeats 400000 in
theorem isNaN_int (a : Int) (w : World) : Calls Tryz.prog 65 #[.int .i64 a] w fun e w' => e = .returned (.bool false) ∧ w = w' := by
  go_enter Tryz.func65, Tryz.ntmps65
  go_wp2
  go_ret
  exact ⟨by simp, rfl⟩
set_option maxHeartbeats 400000 in
theorem compare_int (a b : Int) (w : World) : Calls Tryz.prog 36 #[.int .i64 a, .int .i64 b] w fun e w' => e = .returned (.int .i64 (cmpI a b)) ∧ w = w' := by
  unfold cmpI
  by_cases h1 : a < b
  · rw [if_pos h1]
    go_enter Tryz.func36, Tryz.ntmps36
    go_wp2_with (go_at_call 65; refine (isNaN_int _ _).mono ?_; rintro e w' ⟨rfl, rfl⟩)
    go_ret
    exact ⟨rfl, rfl⟩
  · rw [if_neg h1]
    by_cases h2 : b < a
    · rw [if_pos h2]
      go_enter Tryz.func36, Tryz.ntmps36
      go_wp2_with (go_at_call 65; refine (isNaN_int _ _).mono ?_; rintro e w' ⟨rfl, rfl⟩)
      go_ret
      exact ⟨rfl, rfl⟩
    · rw [if_neg h2]
      go_enter Tryz.func36, Tryz.ntmps36
      go_wp2_with (go_at_call 65; refine (isNaN_int _ _).mono ?_; rintro e w' ⟨rfl, rfl⟩)
      go_ret
      exact ⟨rfl, rfl⟩

/-- is a block too small? (o: the order that is asked for, a captured variable) -/
theorem small_any (a k o : Int) (c : Nat) (w : World) (hc : w.cell? ⟨c, 0, none⟩ = some (.int .i64 o)) (hl : c < w.heap.size) :
    Calls Tryz.prog 57 #[.agg #[.int .i64 a, .int .i64 k], .pointer (some ⟨c, 0, none⟩)] w fun e w' => e = .returned (.bool (decide (k < o))) ∧ Below w.heap.size w w' := by
  go_enter Tryz.func57, Tryz.ntmps57
  go_wp2
  go_ret
  exact ⟨rfl, (by repeat (first | exact Below.refl _ _ | refine Below.drew ?_ | refine below_drewN ?_ _ | refine Below.trans ?_ (Below.mono (by assumption) (by first | omega | (simp; omega) | (simp; done))) | refine Below.alloc ?_ (by first | omega | (simp; omega) | (simp; done)) _ | refine Below.setCell ?_ (by first | omega | (simp; omega) | (simp; done)) _))⟩

/-- which of two blocks has the lower order? -/
theorem lower_any (a k b m : Int) (w : World) :
    Calls Tryz.prog 59 #[.agg #[.int .i64 a, .int .i64 k], .agg #[.int .i64 b, .int .i64 m]] w fun e w' => e = .returned (.int .i64 (cmpI k m)) ∧ Below w.heap.size w w' := by
  go_enter Tryz.func59, Tryz.ntmps59
  go_wp2_with (go_at_call 36; refine (compare_int _ _ _).mono ?_; rintro e w' ⟨rfl, rfl⟩)
  go_ret
  exact ⟨rfl, (by repeat (first | exact Below.refl _ _ | refine Below.drew ?_ | refine below_drewN ?_ _ | refine Below.trans ?_ (Below.mono (by assumption) (by first | omega | (simp; omega) | (simp; done))) | refine Below.alloc ?_ (by first | omega | (simp; omega) | (simp; done)) _ | refine Below.setCell ?_ (by first | omega | (simp; omega) | (simp; done)) _))⟩

def clos (c : Nat) : Value := .func (.func 57) #[] #[.pointer (some ⟨c, 0, none⟩)]

set_option maxHeartbeats 1000000 in
theorem idx_some (g cap c i : Nat) (o : Int) (F : List (Int × Int)) (z : Int × Int) (w : World) (hF : Row2 w g F) (hg : g < w.heap.size) (hl : F.length ≤ 256) (hc : w.cell? ⟨c, 0, none⟩ = some (.int .i64 o)) (hcl : c < w.heap.size)
    (hz : F[i]? = some z) (hp : z.2 < o) (hall : ∀ x ∈ F.take i, ¬ x.2 < o) :
    Calls Tryz.prog 61 #[.slice (some ⟨g, 0, none⟩) F.length cap, clos c] w fun e w' => e = .returned (.int .i64 i) ∧ Below w.heap.size w w' := by
  have hil := (List.getElem?_eq_some_iff.1 hz).1
  have HF := Lib.hid hF; have HZ := Lib.hid hz; have HA := Lib.hid hall; have HP := Lib.hid hp
  clear hF hz hall hp
  obtain ⟨n, hn⟩ : ∃ n, n = F.length := ⟨_, rfl⟩
  rw [← hn] at hl hil ⊢
  have HN := Lib.hid hn
  clear hn
  unfold clos
  go_enter Tryz.func61, Tryz.ntmps61
  go_wp2_with fail
  go_loopw [5, 8] (fun _ iv wr => ∃ j : Nat, j ≤ i ∧ iv = .int .i64 j ∧ Below w.heap.size w wr) (fun _ iv _ => n - (intOf iv).toNat)
  case atStart => exact ⟨0, Nat.zero_le _, rfl, Below.refl _ _⟩
  case round =>
    obtain ⟨j, hj, rfl, hbel⟩ := hrel
    have hjn : j < n := by omega
    obtain ⟨y, hy⟩ : ∃ y, F[j]? = some y := ⟨F[j]'(by rw [← HN.out]; exact hjn), List.getElem?_eq_getElem _⟩
    obtain ⟨x, k⟩ := y
    obtain ⟨⟨p1, p2⟩, _, _⟩ := HF.out j x k hy
    have r1 : wr.cell? ⟨g, j * 2, none⟩ = some (.int .i64 x) := (hbel.cell (p := ⟨g, j * 2, none⟩) hg).trans p1
    have r2 : wr.cell? ⟨g, j * 2 + 1, none⟩ = some (.int .i64 k) := (hbel.cell (p := ⟨g, j * 2 + 1, none⟩) hg).trans p2
    have rc : wr.cell? ⟨c, 0, none⟩ = some (.int .i64 o) := (hbel.cell (p := ⟨c, 0, none⟩) hcl).trans hc
    have zr := hbel.size
    by_cases e : j = i
    · subst e
      have hk : decide (k < o) = true := decide_eq_true (by have := HP.out; have e2 := Option.some.inj (hy.symm.trans HZ.out); rw [← e2] at this; exact this)
      clear p1 p2 hy
      go_wp2_with fail
      refine (small_any _ _ _ _ _ rc (by omega)).mono ?_
      rw [hk]
      rintro e w1 ⟨rfl, hb1⟩
      go_wp2
      go_ret
      exact ⟨rfl, (by repeat (first | exact Below.refl _ _ | refine Below.drew ?_ | refine below_drewN ?_ _ | refine Below.trans ?_ (Below.mono (by assumption) (by first | omega | (simp; omega) | (simp; done))) | refine Below.alloc ?_ (by first | omega | (simp; omega) | (simp; done)) _ | refine Below.setCell ?_ (by first | omega | (simp; omega) | (simp; done)) _))⟩
    · have hk : decide (k < o) = false := decide_eq_false (by have := HA.out (x, k) (List.mem_of_getElem? (i := j) (by rw [List.getElem?_take_of_lt (by omega)]; exact hy)); simp only at this; omega)
      clear p1 p2 hy
      go_wp2_with fail
      refine (small_any _ _ _ _ _ rc (by omega)).mono ?_
      rw [hk]
      rintro e w1 ⟨rfl, hb1⟩
      go_wp2
      go_roundw
      case rel => exact ⟨j + 1, by omega, by go_num, hbel.trans (hb1.mono zr)⟩
      case measure => simp [intOf]; omega

set_option maxHeartbeats 1000000 in
theorem idx_none (g cap c : Nat) (o : Int) (F : List (Int × Int)) (w : World) (hF : Row2 w g F) (hg : g < w.heap.size) (hl : F.length ≤ 256) (hc : w.cell? ⟨c, 0, none⟩ = some (.int .i64 o)) (hcl : c < w.heap.size)
    (hall : ∀ x ∈ F, ¬ x.2 < o) :
    Calls Tryz.prog 61 #[.slice (some ⟨g, 0, none⟩) F.length cap, clos c] w fun e w' => e = .returned (.int .i64 (-1)) ∧ Below w.heap.size w w' := by
  have HF := Lib.hid hF; have HA := Lib.hid hall
  clear hF hall
  obtain ⟨n, hn⟩ : ∃ n, n = F.length := ⟨_, rfl⟩
  rw [← hn] at hl ⊢
  have HN := Lib.hid hn
  clear hn
  unfold clos
  go_enter Tryz.func61, Tryz.ntmps61
  go_wp2_with fail
  go_loopw [5, 8] (fun _ iv wr => ∃ j : Nat, j ≤ n ∧ iv = .int .i64 j ∧ Below w.heap.size w wr) (fun _ iv _ => n - (intOf iv).toNat)
  case atStart => exact ⟨0, Nat.zero_le _, rfl, Below.refl _ _⟩
  case round =>
    obtain ⟨j, hj, rfl, hbel⟩ := hrel
    by_cases hjn : j < n
    · obtain ⟨y, hy⟩ : ∃ y, F[j]? = some y := ⟨F[j]'(by rw [← HN.out]; exact hjn), List.getElem?_eq_getElem _⟩
      obtain ⟨x, k⟩ := y
      obtain ⟨⟨p1, p2⟩, _, _⟩ := HF.out j x k hy
      have r1 : wr.cell? ⟨g, j * 2, none⟩ = some (.int .i64 x) := (hbel.cell (p := ⟨g, j * 2, none⟩) hg).trans p1
      have r2 : wr.cell? ⟨g, j * 2 + 1, none⟩ = some (.int .i64 k) := (hbel.cell (p := ⟨g, j * 2 + 1, none⟩) hg).trans p2
      have rc : wr.cell? ⟨c, 0, none⟩ = some (.int .i64 o) := (hbel.cell (p := ⟨c, 0, none⟩) hcl).trans hc
      have zr := hbel.size
      have hk : decide (k < o) = false := decide_eq_false (by have := HA.out (x, k) (List.mem_of_getElem? hy); simp only at this; omega)
      clear p1 p2 hy
      go_wp2_with fail
      refine (small_any _ _ _ _ _ rc (by omega)).mono ?_
      rw [hk]
      rintro e w1 ⟨rfl, hb1⟩
      go_wp2
      go_roundw
      case rel => exact ⟨j + 1, by omega, by go_num, hbel.trans (hb1.mono zr)⟩
      case measure => simp [intOf]; omega
    · go_wp2
      go_ret
      exact ⟨rfl, hbel⟩
end Go.Proofs.YtigginpcokfihaaGreatDoor
