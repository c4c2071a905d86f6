/- The document's answer of chapter 1 by its contracts: sizes of orders, errors of blocks, parents and buddies. -/
import Derived.Test.YtcooflachcimbaaDoorErrs
import Derived.Test.YtcooflachcimbaaDoorEq
import Derived.WalkLawsBesides
import Derived.WalkSpells
import Derived.Outline
import Derived.RegionTactic
import Derived.BigRegion
import Derived.Deep.QuietTactic
import Derived.Deep.RegionWith
import Derived.BigQuiet
import Derived.ChangeAlike
import Derived.LoopTactic
namespace Go.Proofs.YtcooflachcimbaaDoor
open Go.RowKit
set_option linter.unusedSimpArgs false

theorem isOrder_any (k : Int) (w : World) : Calls Tryd.prog 20 #[.int .i64 k] w fun e w' => e = .returned (.bool (decide (0 ≤ k ∧ k ≤ 6))) ∧ w = w' := by
  by_cases h0 : 0 ≤ k
  · by_cases h6 : k ≤ 6
    · rw [decide_eq_true (show 0 ≤ k ∧ k ≤ 6 from ⟨h0, h6⟩)]
      go_enter Tryd.func20, Tryd.ntmps20
      go_wp2
      go_ret
      exact ⟨rfl, rfl⟩
    · rw [decide_eq_false (show ¬ (0 ≤ k ∧ k ≤ 6) by omega)]
      go_enter Tryd.func20, Tryd.ntmps20
      go_wp2
      go_ret
      exact ⟨by simp, rfl⟩
  · rw [decide_eq_false (show ¬ (0 ≤ k ∧ k ≤ 6) by omega)]
    go_enter Tryd.func20, Tryd.ntmps20
    go_wp2
    go_ret
    exact ⟨rfl, rfl⟩
theorem isOrder_yes (k : Int) (w : World) (h : 0 ≤ k ∧ k ≤ 6) : Calls Tryd.prog 20 #[.int .i64 k] w fun e w' => e = .returned (.bool true) ∧ w = w' := by
  have := isOrder_any k w; rwa [decide_eq_true h] at this
theorem isOrder_no (k : Int) (w : World) (h : k < 0 ∨ 6 < k) : Calls Tryd.prog 20 #[.int .i64 k] w fun e w' => e = .returned (.bool false) ∧ w = w' := by
  have := isOrder_any k w; rwa [decide_eq_false (show ¬ (0 ≤ k ∧ k ≤ 6) by omega)] at this

theorem pages_any (k : Int) (w : World) (k0 : 0 ≤ k) (k7 : k ≤ 7) : Calls Tryd.prog 21 #[.int .i64 k] w fun e w' => e = .returned (.int .i64 (sz k)) ∧ w = w' := by
  go_enter Tryd.func21, Tryd.ntmps21
  go_wp2
  go_loop [3, 4] (fun n i => ∃ j : Nat, (j : Int) ≤ k ∧ i = .int .i64 j ∧ n = .int .i64 (sz j)) (fun _ i => k.toNat - (intOf i).toNat)
  case atStart => exact ⟨0, by omega, rfl, rfl⟩
  case round =>
    obtain ⟨j, hj, rfl, rfl⟩ := hrel
    obtain ⟨s1, s2⟩ := sz_bd7 (k := (j : Int)) (by omega) (by omega)
    by_cases hlt : (j : Int) < k
    · have hs := sz_succ (k := (j : Int)) (by omega) (by omega)
      have HS := Lib.hid hs
      clear hs
      go_wp2
      go_round
      case rel => exact ⟨j + 1, by omega, by go_num, by rw [show ((j + 1 : Nat) : Int) = (j : Int) + 1 from by omega, HS.out]⟩
      case measure => simp [intOf]; omega
    · have e : (j : Int) = k := by omega
      have E := Lib.hid e
      clear e
      go_wp2
      go_ret
      exact ⟨by rw [← E.out]; rfl, rfl⟩

theorem aloneE_le (a k : Int) : aloneE a k ≤ 10 := by unfold aloneE; split <;> (try split) <;> decide
theorem checkE_le (a k n : Int) : checkE a k n ≤ 10 := by unfold checkE; split <;> (try split) <;> decide
theorem upE_le (a k : Int) : upE a k ≤ 10 := by unfold upE; split <;> (try split) <;> first | decide | exact aloneE_le a k
theorem downE_le (a k : Int) : downE a k ≤ 10 := by unfold downE; split <;> (try split) <;> first | decide | exact aloneE_le a k

set_option maxHeartbeats 1000000 in
theorem aloneError_any (a k : Int) (w : World) : Calls Tryd.prog 25 #[.agg #[.int .i64 a, .int .i64 k]] w fun e w' => e = .returned (.int .i64 (aloneE a k)) ∧ Below w.heap.size w w' := by
  rcases aloneE_cases a k with ⟨hr, h⟩ | ⟨⟨h0, h1, k0, k6⟩, h⟩
  · rw [hr]
    clear hr
    by_cases hk : k < 0 ∨ 6 < k
    · have K := Lib.hid hk
      clear h hk
      go_enter Tryd.func25, Tryd.ntmps25
      go_wp2_with (go_at_call 20; refine (isOrder_no _ _ K.out).mono ?_; rintro e w' ⟨rfl, rfl⟩)
      all_goals go_ret
      all_goals exact ⟨rfl, (by repeat (first | exact Below.refl _ _ | refine Below.drew ?_ | refine below_drewN ?_ _ | refine Below.trans ?_ (Below.mono (by assumption) (by first | omega | (simp; omega) | (simp; done))) | refine Below.alloc ?_ (by first | omega | (simp; omega) | (simp; done)) _ | refine Below.setCell ?_ (by first | omega | (simp; omega) | (simp; done)) _))⟩
    · have hk' : 0 ≤ k ∧ k ≤ 6 := by omega
      have K := Lib.hid hk'
      have h2 : a < 0 ∨ 256 ≤ a := by omega
      clear h hk hk'
      rcases h2 with h2 | h2
      all_goals
        go_enter Tryd.func25, Tryd.ntmps25
        go_wp2_with (go_at_call 20; refine (isOrder_yes _ _ K.out).mono ?_; rintro e w' ⟨rfl, rfl⟩)
        all_goals go_ret
        all_goals exact ⟨rfl, (by repeat (first | exact Below.refl _ _ | refine Below.drew ?_ | refine below_drewN ?_ _ | refine Below.trans ?_ (Below.mono (by assumption) (by first | omega | (simp; omega) | (simp; done))) | refine Below.alloc ?_ (by first | omega | (simp; omega) | (simp; done)) _ | refine Below.setCell ?_ (by first | omega | (simp; omega) | (simp; done)) _))⟩
  · obtain ⟨s1, s2⟩ := sz_bd k0 k6
    have H : Hid _ := Lib.hid h
    clear h
    go_enter Tryd.func25, Tryd.ntmps25
    go_wp2_with (go_at_call 20; refine (isOrder_yes _ _ ⟨k0, k6⟩).mono ?_; rintro e w' ⟨rfl, rfl⟩)
    go_quiet ((go_at_call 21; exact Calls.quiet_of_same ((pages_any _ _ k0 (by omega)).mono fun _ _ h => ⟨h.1, h.2.symm⟩)))
    go_wp2
    · have hne : (a % sz k != 0) = true := by assumption
      rcases H.out with ⟨e1, e2⟩ | ⟨e1, e2⟩
      · go_ret
        exact ⟨by rw [e1]; rfl, (by repeat (first | exact Below.refl _ _ | refine Below.drew ?_ | refine below_drewN ?_ _ | refine Below.trans ?_ (Below.mono (by assumption) (by first | omega | (simp; omega) | (simp; done))) | refine Below.alloc ?_ (by first | omega | (simp; omega) | (simp; done)) _ | refine Below.setCell ?_ (by first | omega | (simp; omega) | (simp; done)) _))⟩
      · simp [e2] at hne
    · have hne : (a % sz k != 0) = false := by assumption
      rcases H.out with ⟨e1, e2⟩ | ⟨e1, e2⟩
      · simp [e2] at hne
      · go_ret
        exact ⟨by rw [e1]; rfl, (by repeat (first | exact Below.refl _ _ | refine Below.drew ?_ | refine below_drewN ?_ _ | refine Below.trans ?_ (Below.mono (by assumption) (by first | omega | (simp; omega) | (simp; done))) | refine Below.alloc ?_ (by first | omega | (simp; omega) | (simp; done)) _ | refine Below.setCell ?_ (by first | omega | (simp; omega) | (simp; done)) _))⟩

theorem blkE_bad {a k n : Int} (h : n < 1 ∨ 256 < n ∨ k < 0 ∨ 6 < k ∨ a < 0 ∨ n - sz k < a) : checkE a k n = 2 := by unfold checkE; rw [if_pos h]
set_option maxHeartbeats 2000000 in
theorem blockError_any (a k n : Int) (w : World) : Calls Tryd.prog 24 #[.agg #[.int .i64 a, .int .i64 k], .int .i64 n] w fun e w' => e = .returned (.int .i64 (checkE a k n)) ∧ Below w.heap.size w w' := by
  by_cases hk : k < 0 ∨ 6 < k
  · rw [blkE_bad (by omega)]
    have K := Lib.hid hk
    clear hk
    by_cases h1 : n < 1
    · go_enter Tryd.func24, Tryd.ntmps24
      go_wp2_with (go_at_call 20; refine (isOrder_no _ _ K.out).mono ?_; rintro e w' ⟨rfl, rfl⟩)
      go_ret
      exact ⟨rfl, (by repeat (first | exact Below.refl _ _ | refine Below.drew ?_ | refine below_drewN ?_ _ | refine Below.trans ?_ (Below.mono (by assumption) (by first | omega | (simp; omega) | (simp; done))) | refine Below.alloc ?_ (by first | omega | (simp; omega) | (simp; done)) _ | refine Below.setCell ?_ (by first | omega | (simp; omega) | (simp; done)) _))⟩
    by_cases h2 : 256 < n
    all_goals
      go_enter Tryd.func24, Tryd.ntmps24
      go_wp2_with (go_at_call 20; refine (isOrder_no _ _ K.out).mono ?_; rintro e w' ⟨rfl, rfl⟩)
      go_ret
      exact ⟨rfl, (by repeat (first | exact Below.refl _ _ | refine Below.drew ?_ | refine below_drewN ?_ _ | refine Below.trans ?_ (Below.mono (by assumption) (by first | omega | (simp; omega) | (simp; done))) | refine Below.alloc ?_ (by first | omega | (simp; omega) | (simp; done)) _ | refine Below.setCell ?_ (by first | omega | (simp; omega) | (simp; done)) _))⟩
  obtain ⟨k0, k6⟩ : 0 ≤ k ∧ k ≤ 6 := by omega
  clear hk
  obtain ⟨s1, s2⟩ := sz_bd k0 k6
  by_cases h1 : n < 1
  · rw [blkE_bad (by omega)]
    go_enter Tryd.func24, Tryd.ntmps24
    go_wp2_with (go_at_call 20; refine (isOrder_yes _ _ ⟨k0, k6⟩).mono ?_; rintro e w' ⟨rfl, rfl⟩)
    go_ret
    exact ⟨rfl, (by repeat (first | exact Below.refl _ _ | refine Below.drew ?_ | refine below_drewN ?_ _ | refine Below.trans ?_ (Below.mono (by assumption) (by first | omega | (simp; omega) | (simp; done))) | refine Below.alloc ?_ (by first | omega | (simp; omega) | (simp; done)) _ | refine Below.setCell ?_ (by first | omega | (simp; omega) | (simp; done)) _))⟩
  by_cases h2 : 256 < n
  · rw [blkE_bad (by omega)]
    go_enter Tryd.func24, Tryd.ntmps24
    go_wp2_with (go_at_call 20; refine (isOrder_yes _ _ ⟨k0, k6⟩).mono ?_; rintro e w' ⟨rfl, rfl⟩)
    go_ret
    exact ⟨rfl, (by repeat (first | exact Below.refl _ _ | refine Below.drew ?_ | refine below_drewN ?_ _ | refine Below.trans ?_ (Below.mono (by assumption) (by first | omega | (simp; omega) | (simp; done))) | refine Below.alloc ?_ (by first | omega | (simp; omega) | (simp; done)) _ | refine Below.setCell ?_ (by first | omega | (simp; omega) | (simp; done)) _))⟩
  by_cases h3 : a < 0
  · rw [blkE_bad (by omega)]
    go_enter Tryd.func24, Tryd.ntmps24
    go_wp2_with (go_at_call 20; refine (isOrder_yes _ _ ⟨k0, k6⟩).mono ?_; rintro e w' ⟨rfl, rfl⟩)
    go_ret
    exact ⟨rfl, (by repeat (first | exact Below.refl _ _ | refine Below.drew ?_ | refine below_drewN ?_ _ | refine Below.trans ?_ (Below.mono (by assumption) (by first | omega | (simp; omega) | (simp; done))) | refine Below.alloc ?_ (by first | omega | (simp; omega) | (simp; done)) _ | refine Below.setCell ?_ (by first | omega | (simp; omega) | (simp; done)) _))⟩
  by_cases h4 : 256 < a
  · rw [blkE_bad (by omega)]
    go_enter Tryd.func24, Tryd.ntmps24
    go_wp2_with (go_at_call 20; refine (isOrder_yes _ _ ⟨k0, k6⟩).mono ?_; rintro e w' ⟨rfl, rfl⟩)
    go_ret
    exact ⟨rfl, (by repeat (first | exact Below.refl _ _ | refine Below.drew ?_ | refine below_drewN ?_ _ | refine Below.trans ?_ (Below.mono (by assumption) (by first | omega | (simp; omega) | (simp; done))) | refine Below.alloc ?_ (by first | omega | (simp; omega) | (simp; done)) _ | refine Below.setCell ?_ (by first | omega | (simp; omega) | (simp; done)) _))⟩
  by_cases h5 : n < a + sz k
  · rw [blkE_bad (by omega)]
    go_enter Tryd.func24, Tryd.ntmps24
    go_wp2_with (first | (go_at_call 20; refine (isOrder_yes _ _ ⟨k0, k6⟩).mono ?_; rintro e w' ⟨rfl, rfl⟩) | (go_at_call 21; refine (pages_any _ _ k0 (by omega)).mono ?_; rintro e w' ⟨rfl, rfl⟩))
    go_ret
    exact ⟨rfl, (by repeat (first | exact Below.refl _ _ | refine Below.drew ?_ | refine below_drewN ?_ _ | refine Below.trans ?_ (Below.mono (by assumption) (by first | omega | (simp; omega) | (simp; done))) | refine Below.alloc ?_ (by first | omega | (simp; omega) | (simp; done)) _ | refine Below.setCell ?_ (by first | omega | (simp; omega) | (simp; done)) _))⟩
  have H : Hid ((checkE a k n = 3 ∧ a % sz k ≠ 0) ∨ (checkE a k n = 0 ∧ a % sz k = 0)) := by
    unfold checkE
    rw [if_neg (by omega)]
    by_cases e : a % sz k = 0
    · exact .inr ⟨if_pos e, e⟩
    · exact .inl ⟨if_neg e, e⟩
  go_enter Tryd.func24, Tryd.ntmps24
  go_wp2_with (first | (go_at_call 20; refine (isOrder_yes _ _ ⟨k0, k6⟩).mono ?_; rintro e w' ⟨rfl, rfl⟩) | (go_at_call 21; refine (pages_any _ _ k0 (by omega)).mono ?_; rintro e w' ⟨rfl, rfl⟩))
  · have hne : (a % sz k != 0) = true := by assumption
    rcases H.out with ⟨e1, e2⟩ | ⟨e1, e2⟩
    · go_ret
      exact ⟨by rw [e1]; rfl, (by repeat (first | exact Below.refl _ _ | refine Below.drew ?_ | refine below_drewN ?_ _ | refine Below.trans ?_ (Below.mono (by assumption) (by first | omega | (simp; omega) | (simp; done))) | refine Below.alloc ?_ (by first | omega | (simp; omega) | (simp; done)) _ | refine Below.setCell ?_ (by first | omega | (simp; omega) | (simp; done)) _))⟩
    · simp [e2] at hne
  · have hne : (a % sz k != 0) = false := by assumption
    rcases H.out with ⟨e1, e2⟩ | ⟨e1, e2⟩
    · simp [e2] at hne
    · go_ret
      exact ⟨by rw [e1]; rfl, (by repeat (first | exact Below.refl _ _ | refine Below.drew ?_ | refine below_drewN ?_ _ | refine Below.trans ?_ (Below.mono (by assumption) (by first | omega | (simp; omega) | (simp; done))) | refine Below.alloc ?_ (by first | omega | (simp; omega) | (simp; done)) _ | refine Below.setCell ?_ (by first | omega | (simp; omega) | (simp; done)) _))⟩
end Go.Proofs.YtcooflachcimbaaDoor
