/- Package frames by its contracts: each function of pages answers what the plain functions of Pure say, and leaves all older memory as it was. -/
import Derived.Test.YtigginpcokfihaaGreatDoorErrs
import Derived.WalkLawsBesides
import Derived.WalkSpells
import Derived.Outline
import Derived.RegionTactic
import Derived.BigRegion
import Derived.Deep.QuietTactic
import Derived.BigQuiet
import Derived.ChangeAlike
namespace Go.Proofs.YtigginpcokfihaaGreatDoor
open Go.RowKit
set_option linter.unusedSimpArgs false

theorem order_any (k : Int) (w : World) : Calls Tryz.prog 54 #[.int .i64 k] w fun e w' => e = .returned (.bool (decide (0 ≤ k ∧ k ≤ 6))) ∧ w = w' := by
  by_cases h0 : 0 ≤ k
  · by_cases h6 : k ≤ 6
    · have hd : decide (0 ≤ k ∧ k ≤ 6) = true := decide_eq_true ⟨h0, h6⟩
      rw [hd]
      go_enter Tryz.func54, Tryz.ntmps54
      go_wp2
      go_ret
      exact ⟨rfl, rfl⟩
    · have hd : decide (0 ≤ k ∧ k ≤ 6) = false := decide_eq_false (by omega)
      rw [hd]
      go_enter Tryz.func54, Tryz.ntmps54
      go_wp2
      go_ret
      exact ⟨by simp, rfl⟩
  · have hd : decide (0 ≤ k ∧ k ≤ 6) = false := decide_eq_false (by omega)
    rw [hd]
    go_enter Tryz.func54, Tryz.ntmps54
    go_wp2
    go_ret
    exact ⟨rfl, rfl⟩
theorem order_yes (k : Int) (w : World) (h : 0 ≤ k ∧ k ≤ 6) : Calls Tryz.prog 54 #[.int .i64 k] w fun e w' => e = .returned (.bool true) ∧ w = w' := by
  have := order_any k w; rwa [decide_eq_true h] at this
theorem order_no (k : Int) (w : World) (h : k < 0 ∨ 6 < k) : Calls Tryz.prog 54 #[.int .i64 k] w fun e w' => e = .returned (.bool false) ∧ w = w' := by
  have := order_any k w; rwa [decide_eq_false (show ¬ (0 ≤ k ∧ k ≤ 6) by omega)] at this

/-- frames.Size -/
theorem size_yes (k : Int) (w : World) (h : 0 ≤ k ∧ k ≤ 6) : Calls Tryz.prog 26 #[.int .i64 k] w fun e w' => e = .returned (.tuple #[.int .i64 (sz k), .nilIface]) ∧ w = w' := by
  have hs := shl_sz' h.1 h.2
  obtain ⟨h0, h6⟩ := h
  go_enter Tryz.func26, Tryz.ntmps26
  go_wp2_with (go_at_call 54; refine (order_yes _ _ ⟨h0, h6⟩).mono ?_; rintro e w' ⟨rfl, rfl⟩)
  go_ret2
  exact ⟨by rw [← hs]; rfl, rfl⟩
theorem size_no {B : Nat} {ev : Nat → Addr} (k : Int) (w : World) (hE : ErrC B ev w) (h : k < 0 ∨ 6 < k) :
    Calls Tryz.prog 26 #[.int .i64 k] w fun e w' => e = .returned (.tuple #[.int .i64 0, errV ev 2]) ∧ Below w.heap.size w w' := by
  have hc := hE.c2
  go_enter Tryz.func26, Tryz.ntmps26
  go_wp2_with (go_at_call 54; refine (order_no _ _ h).mono ?_; rintro e w' ⟨rfl, rfl⟩)
  go_region
  all_goals go_wp2
  all_goals go_ret2
  all_goals exact ⟨rfl, (by repeat (first | exact Below.refl _ _ | refine Below.drew ?_ | refine below_drewN ?_ _ | refine Below.trans ?_ (Below.mono (by assumption) (by first | omega | (simp; omega) | (simp; done))) | refine Below.alloc ?_ (by first | omega | (simp; omega) | (simp; done)) _ | refine Below.setCell ?_ (by first | omega | (simp; omega) | (simp; done)) _))⟩

set_option maxHeartbeats 400000 in
/-- look: a block by itself -/
theorem look_any {B : Nat} {ev : Nat → Addr} (a k : Int) (w : World) (hE : ErrC B ev w) :
    Calls Tryz.prog 85 #[.agg #[.int .i64 a, .int .i64 k]] w fun e w' => e = .returned (errV ev (aloneE a k)) ∧ Below w.heap.size w w' := by
  have hc := hE.c2
  have hc' := hE.c3
  have hz := hE.z2
  have hz' := hE.z3
  rcases aloneE_cases a k with ⟨hr, h⟩ | ⟨⟨h0, h1, k0, k6⟩, h⟩
  · rw [hr]
    clear hr
    by_cases ha : a < 0
    · go_enter Tryz.func85, Tryz.ntmps85
      go_wp2_with fail
      go_ret
      exact ⟨rfl, (by repeat (first | exact Below.refl _ _ | refine Below.drew ?_ | refine below_drewN ?_ _ | refine Below.trans ?_ (Below.mono (by assumption) (by first | omega | (simp; omega) | (simp; done))) | refine Below.alloc ?_ (by first | omega | (simp; omega) | (simp; done)) _ | refine Below.setCell ?_ (by first | omega | (simp; omega) | (simp; done)) _))⟩
    · by_cases ha2 : 256 ≤ a
      · go_enter Tryz.func85, Tryz.ntmps85
        go_wp2_with fail
        go_ret
        exact ⟨rfl, (by repeat (first | exact Below.refl _ _ | refine Below.drew ?_ | refine below_drewN ?_ _ | refine Below.trans ?_ (Below.mono (by assumption) (by first | omega | (simp; omega) | (simp; done))) | refine Below.alloc ?_ (by first | omega | (simp; omega) | (simp; done)) _ | refine Below.setCell ?_ (by first | omega | (simp; omega) | (simp; done)) _))⟩
      · have hk : k < 0 ∨ 6 < k := by omega
        clear h
        go_enter Tryz.func85, Tryz.ntmps85
        go_wp2_with (go_at_call 54; refine (order_no _ _ hk).mono ?_; rintro e w' ⟨rfl, rfl⟩)
        go_ret
        exact ⟨rfl, (by repeat (first | exact Below.refl _ _ | refine Below.drew ?_ | refine below_drewN ?_ _ | refine Below.trans ?_ (Below.mono (by assumption) (by first | omega | (simp; omega) | (simp; done))) | refine Below.alloc ?_ (by first | omega | (simp; omega) | (simp; done)) _ | refine Below.setCell ?_ (by first | omega | (simp; omega) | (simp; done)) _))⟩
  · have hs := shl_sz' k0 k6
    have hn := and_sz h0 (by omega) k0 k6
    obtain ⟨s1, s2⟩ := sz_bd k0 k6
    have H : Hid _ := Lib.hid h
    clear h
    go_enter Tryz.func85, Tryz.ntmps85
    go_wp2_with (go_at_call 54; refine (order_yes _ _ ⟨k0, k6⟩).mono ?_; rintro e w' ⟨rfl, rfl⟩)
    go_quiet (fail)
    go_wp2
    · have hne : (a % sz k != 0) = true := by assumption
      rcases H.out with ⟨e1, e2⟩ | ⟨e1, e2⟩
      · go_ret
        exact ⟨by rw [e1]; rfl, (by repeat (first | exact Below.refl _ _ | refine Below.drew ?_ | refine below_drewN ?_ _ | refine Below.trans ?_ (Below.mono (by assumption) (by first | omega | (simp; omega) | (simp; done))) | refine Below.alloc ?_ (by first | omega | (simp; omega) | (simp; done)) _ | refine Below.setCell ?_ (by first | omega | (simp; omega) | (simp; done)) _))⟩
      · simp [e2] at hne
    · have hne : (a % sz k != 0) = false := by assumption
      rcases H.out with ⟨e1, e2⟩ | ⟨e1, e2⟩
      · simp [e2] at hne
      · go_ret
        exact ⟨by rw [e1]; rfl, (by repeat (first | exact Below.refl _ _ | refine Below.drew ?_ | refine below_drewN ?_ _ | refine Below.trans ?_ (Below.mono (by assumption) (by first | omega | (simp; omega) | (simp; done))) | refine Below.alloc ?_ (by first | omega | (simp; omega) | (simp; done)) _ | refine Below.setCell ?_ (by first | omega | (simp; omega) | (simp; done)) _))⟩
theorem look_ok {B : Nat} {ev : Nat → Addr} (a k : Int) (w : World) (hE : ErrC B ev w) (h : aloneE a k = 0) :
    Calls Tryz.prog 85 #[.agg #[.int .i64 a, .int .i64 k]] w fun e w' => e = .returned .nilIface ∧ Below w.heap.size w w' :=
  (look_any a k w hE).mono fun _ _ ⟨h1, h2⟩ => ⟨by rw [h1, h]; rfl, h2⟩
theorem look_err {B : Nat} {ev : Nat → Addr} (a k : Int) (c : Nat) (w : World) (hE : ErrC B ev w) (h : aloneE a k = c + 1) :
    Calls Tryz.prog 85 #[.agg #[.int .i64 a, .int .i64 k]] w fun e w' => e = .returned (.iface 199 (.pointer (some (ev (c + 1))))) ∧ Below w.heap.size w w' :=
  (look_any a k w hE).mono fun _ _ ⟨h1, h2⟩ => ⟨by rw [h1, h]; rfl, h2⟩

set_option maxHeartbeats 400000 in
/-- Parent of a right block below the greatest order -/
theorem parent_ok {B : Nat} {ev : Nat → Addr} (a k : Int) (w : World) (hE : ErrC B ev w) (h : upE a k = 0) :
    Calls Tryz.prog 73 #[.agg #[.int .i64 a, .int .i64 k]] w fun e w' => e = .returned (.tuple #[.agg #[.int .i64 (parA a k), .int .i64 (k + 1)], .nilIface]) ∧ Below w.heap.size w w' := by
  obtain ⟨ha, hk⟩ := upE_zero h
  obtain ⟨a0, a1, k0, k6, _⟩ := aloneE_zero ha
  have hB := hE.size
  have hs := shl_sz' k0 k6
  have hn := andNot_sz a0 (by omega) k0 k6
  go_enter Tryz.func73, Tryz.ntmps73
  go_wp2_with fail
  refine (look_ok a k _ (hE.below (by repeat (first | exact Below.refl _ _ | refine Below.drew ?_ | refine below_drewN ?_ _ | refine Below.trans ?_ (Below.mono (by assumption) (by first | omega | (simp; omega) | (simp; done))) | refine Below.alloc ?_ (by first | omega | (simp; omega) | (simp; done)) _ | refine Below.setCell ?_ (by first | omega | (simp; omega) | (simp; done)) _))) ha).mono ?_
  rintro e w1 ⟨rfl, hb⟩
  obtain ⟨hc, hf⟩ := bcell hb
  have hz := hb.size
  simp at hz hc hf
  go_wp2
  go_region
  go_wp2
  exact bodyPost_ret (v := .tuple #[.agg #[.int .i64 (parA a k), .int .i64 (k + 1)], .nilIface]) (by simp [results, Tryz.results73, go_sem, hc]) rfl ⟨rfl, (by repeat (first | exact Below.refl _ _ | refine Below.drew ?_ | refine below_drewN ?_ _ | refine Below.trans ?_ (Below.mono (by assumption) (by first | omega | (simp; omega) | (simp; done))) | refine Below.alloc ?_ (by first | omega | (simp; omega) | (simp; done)) _ | refine Below.setCell ?_ (by first | omega | (simp; omega) | (simp; done)) _))⟩

set_option maxHeartbeats 400000 in
theorem parent_err {B : Nat} {ev : Nat → Addr} (a k : Int) (c : Nat) (w : World) (hE : ErrC B ev w) (h : upE a k = c + 1) :
    Calls Tryz.prog 73 #[.agg #[.int .i64 a, .int .i64 k]] w fun e w' => e = .returned (.tuple #[.agg #[.int .i64 0, .int .i64 0], .iface 199 (.pointer (some (ev (c + 1))))]) ∧ Below w.heap.size w w' := by
  have hB := hE.size
  rcases upE_cases h with h | ⟨ha, rfl, rfl⟩
  · go_enter Tryz.func73, Tryz.ntmps73
    go_wp2_with fail
    refine (look_err a k c _ (hE.below (by repeat (first | exact Below.refl _ _ | refine Below.drew ?_ | refine below_drewN ?_ _ | refine Below.trans ?_ (Below.mono (by assumption) (by first | omega | (simp; omega) | (simp; done))) | refine Below.alloc ?_ (by first | omega | (simp; omega) | (simp; done)) _ | refine Below.setCell ?_ (by first | omega | (simp; omega) | (simp; done)) _))) h).mono ?_
    rintro e w1 ⟨rfl, hb⟩
    obtain ⟨hc, hf⟩ := bcell hb
    have hz := hb.size
    simp at hz hc hf
    go_wp2
    exact bodyPost_ret (v := .tuple #[.agg #[.int .i64 0, .int .i64 0], .iface 199 (.pointer (some (ev (c + 1))))]) (by simp [results, Tryz.results73, go_sem, hc]) rfl ⟨rfl, (by repeat (first | exact Below.refl _ _ | refine Below.drew ?_ | refine below_drewN ?_ _ | refine Below.trans ?_ (Below.mono (by assumption) (by first | omega | (simp; omega) | (simp; done))) | refine Below.alloc ?_ (by first | omega | (simp; omega) | (simp; done)) _ | refine Below.setCell ?_ (by first | omega | (simp; omega) | (simp; done)) _))⟩
  · have e4 : errV ev 4 = .iface 199 (.pointer (some (ev (3 + 1)))) := rfl
    go_enter Tryz.func73, Tryz.ntmps73
    go_wp2_with fail
    refine (look_ok a 6 _ (hE.below (by repeat (first | exact Below.refl _ _ | refine Below.drew ?_ | refine below_drewN ?_ _ | refine Below.trans ?_ (Below.mono (by assumption) (by first | omega | (simp; omega) | (simp; done))) | refine Below.alloc ?_ (by first | omega | (simp; omega) | (simp; done)) _ | refine Below.setCell ?_ (by first | omega | (simp; omega) | (simp; done)) _))) ha).mono ?_
    rintro e w1 ⟨rfl, hb⟩
    obtain ⟨hc, hf⟩ := bcell hb
    have hz := hb.size
    have h4 := (hE.below (by repeat (first | exact Below.refl _ _ | refine Below.drew ?_ | refine below_drewN ?_ _ | refine Below.trans ?_ (Below.mono (by assumption) (by first | omega | (simp; omega) | (simp; done))) | refine Below.alloc ?_ (by first | omega | (simp; omega) | (simp; done)) _ | refine Below.setCell ?_ (by first | omega | (simp; omega) | (simp; done)) _)) : ErrC B ev w1).c4
    rw [e4] at h4
    have z4 := hE.z4
    simp at hz hc hf
    go_wp2
    go_region
    go_wp2
    exact bodyPost_ret (v := .tuple #[.agg #[.int .i64 0, .int .i64 0], .iface 199 (.pointer (some (ev (3 + 1))))]) (by simp [results, Tryz.results73, go_sem, hc]) rfl ⟨rfl, (by repeat (first | exact Below.refl _ _ | refine Below.drew ?_ | refine below_drewN ?_ _ | refine Below.trans ?_ (Below.mono (by assumption) (by first | omega | (simp; omega) | (simp; done))) | refine Below.alloc ?_ (by first | omega | (simp; omega) | (simp; done)) _ | refine Below.setCell ?_ (by first | omega | (simp; omega) | (simp; done)) _))⟩
end Go.Proofs.YtigginpcokfihaaGreatDoor
