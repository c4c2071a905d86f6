/- Package frames by its contracts, third part: Order. -/
import Derived.Test.YtcooflachcimbaaDoorFramesB
import Derived.LoopTactic
namespace Go.Proofs.YtcooflachcimbaaDoor
open Go.RowKit
set_option linter.unusedSimpArgs false

set_option maxHeartbeats 400000 in
theorem orderOf_ok (n : Int) (w : World) (h1 : 1 ≤ n) (h2 : n ≤ 64) : Calls Tryd.prog 22 #[.int .i64 n] w fun e w' => e = .returned (.tuple #[.int .i64 (ordI n), .nilIface]) ∧ w = w' := by
  obtain ⟨o0, o6⟩ := ordI_bd n
  go_enter Tryd.func22, Tryd.ntmps22
  go_wp2_with fail
  go_loop [4] (fun i => ∃ j : Nat, (j : Int) ≤ ordI n ∧ i = .int .i64 j) (fun i => (ordI n).toNat - (intOf i).toNat)
  case atStart => exact ⟨0, by omega, rfl⟩
  case round =>
    obtain ⟨j, hj, rfl⟩ := hrel
    have hs := shl_sz' (k := (j : Int)) (by omega) (by omega)
    simp only [Int.toNat_natCast] at hs
    by_cases hlt : (j : Int) < ordI n
    · have hl := ordI_lt (by omega) hlt
      go_wp2_with (go_at_call 48; refine (order_yes _ _ ⟨by omega, by omega⟩).mono ?_; rintro e w' ⟨rfl, rfl⟩)
      go_round
      case rel => exact ⟨j + 1, by omega, by go_num⟩
      case measure => simp [intOf]; omega
    · have e : (j : Int) = ordI n := by omega
      have hl : n ≤ sz (j : Int) := by rw [e]; exact ordI_le h2
      have E := Lib.hid e
      clear e
      go_wp2_with (go_at_call 48; refine (order_yes _ _ ⟨by omega, by omega⟩).mono ?_; rintro e w' ⟨rfl, rfl⟩)
      go_ret2
      exact ⟨by rw [← E.out]; rfl, rfl⟩

set_option maxHeartbeats 400000 in
theorem orderOf_err {B : Nat} {ev : Nat → Addr} (n : Int) (w : World) (hE : ErrC B ev w) (h : n < 1 ∨ 64 < n) :
    Calls Tryd.prog 22 #[.int .i64 n] w fun e w' => e = .returned (.tuple #[.int .i64 0, errV ev 2]) ∧ Below w.heap.size w w' := by
  have hc := hE.c2
  by_cases h1 : n < 1
  · have hd : decide (0 < n) = false := decide_eq_false (by omega)
    go_enter Tryd.func22, Tryd.ntmps22
    go_wp2_with fail
    refine wp_loop_rounds 1 ?_
    rw [rounds_succ]
    go_wp2_with fail
    go_region
    all_goals go_wp2
    all_goals go_ret2
    all_goals exact ⟨rfl, (by repeat (first | exact Below.refl _ _ | refine Below.drew ?_ | refine below_drewN ?_ _ | refine Below.trans ?_ (Below.mono (by assumption) (by first | omega | (simp; omega) | (simp; done))) | refine Below.alloc ?_ (by first | omega | (simp; omega) | (simp; done)) _ | refine Below.setCell ?_ (by first | omega | (simp; omega) | (simp; done)) _))⟩
  · have h2 : 64 < n := by omega
    clear h
    go_enter Tryd.func22, Tryd.ntmps22
    go_wp2_with fail
    go_loop [4] (fun i => ∃ j : Nat, j ≤ 7 ∧ i = .int .i64 j) (fun i => 7 - (intOf i).toNat)
    case atStart => exact ⟨0, by omega, rfl⟩
    case round =>
      obtain ⟨j, hj, rfl⟩ := hrel
      by_cases hlt : j < 7
      · have hs := shl_sz' (k := (j : Int)) (by omega) (by omega)
        simp only [Int.toNat_natCast] at hs
        have hl := sz_le64 (k := (j : Int)) (by omega) (by omega)
        go_wp2_with (go_at_call 48; refine (order_yes _ _ ⟨by omega, by omega⟩).mono ?_; rintro e w' ⟨rfl, rfl⟩)
        go_round
        case rel => exact ⟨j + 1, by omega, by go_num⟩
        case measure => simp [intOf]; omega
      · go_wp2_with (go_at_call 48; refine (order_no _ _ (by omega)).mono ?_; rintro e w' ⟨rfl, rfl⟩)
        go_region
        all_goals go_wp2
        all_goals go_ret2
        all_goals exact ⟨rfl, (by repeat (first | exact Below.refl _ _ | refine Below.drew ?_ | refine below_drewN ?_ _ | refine Below.trans ?_ (Below.mono (by assumption) (by first | omega | (simp; omega) | (simp; done))) | refine Below.alloc ?_ (by first | omega | (simp; omega) | (simp; done)) _ | refine Below.setCell ?_ (by first | omega | (simp; omega) | (simp; done)) _))⟩
end Go.Proofs.YtcooflachcimbaaDoor
