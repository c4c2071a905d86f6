/- The document's answer of chapter 1 by its contracts: the errors of blocks. -/
import Derived.Test.YtcooflachcimbaaDoorRef
namespace Go.Proofs.YtcooflachcimbaaDoor
open Go.RowKit
set_option linter.unusedSimpArgs false

theorem aloneE_le (a k : Int) : aloneE a k ≤ 10 := by unfold aloneE; split <;> (try split) <;> decide
theorem checkE_le (a k n : Int) : checkE a k n ≤ 10 := by unfold checkE; split <;> (try split) <;> decide
theorem upE_le (a k : Int) : upE a k ≤ 10 := by unfold upE; split <;> (try split) <;> first | decide | exact aloneE_le a k
theorem downE_le (a k : Int) : downE a k ≤ 10 := by unfold downE; split <;> (try split) <;> first | decide | exact aloneE_le a k

set_option maxHeartbeats 1000000 in
theorem aloneError_any (a k : Int) (w : World) : Calls Tryd.prog 25 #[.agg #[.int .i64 a, .int .i64 k]] w fun e w' => e = .returned (.int .i64 (aloneE a k)) ∧ Below w.heap.size w w' := by
  rcases aloneE_cases a k with ⟨hr, h⟩ | ⟨⟨h0, h1, k0, k6⟩, h⟩
  · rw [hr]
    clear hr
    by_cases hk : k < 0 ∨ 6 < k
    · have K := Lib.hid hk
      clear h hk
      go_enter Tryd.func25, Tryd.ntmps25
      go_wp2_with (go_at_call 20; refine (isOrder_no _ _ K.out).mono ?_; rintro e w' ⟨rfl, rfl⟩)
      all_goals go_ret
      all_goals exact ⟨rfl, (by repeat (first | exact Below.refl _ _ | refine Below.drew ?_ | refine below_drewN ?_ _ | refine Below.trans ?_ (Below.mono (by assumption) (by first | omega | (simp; omega) | (simp; done))) | refine Below.alloc ?_ (by first | omega | (simp; omega) | (simp; done)) _ | refine Below.setCell ?_ (by first | omega | (simp; omega) | (simp; done)) _))⟩
    · have hk' : 0 ≤ k ∧ k ≤ 6 := by omega
      have K := Lib.hid hk'
      have h2 : a < 0 ∨ 256 ≤ a := by omega
      clear h hk hk'
      rcases h2 with h2 | h2
      all_goals
        go_enter Tryd.func25, Tryd.ntmps25
        go_wp2_with (go_at_call 20; refine (isOrder_yes _ _ K.out).mono ?_; rintro e w' ⟨rfl, rfl⟩)
        all_goals go_ret
        all_goals exact ⟨rfl, (by repeat (first | exact Below.refl _ _ | refine Below.drew ?_ | refine below_drewN ?_ _ | refine Below.trans ?_ (Below.mono (by assumption) (by first | omega | (simp; omega) | (simp; done))) | refine Below.alloc ?_ (by first | omega | (simp; omega) | (simp; done)) _ | refine Below.setCell ?_ (by first | omega | (simp; omega) | (simp; done)) _))⟩
  · obtain ⟨s1, s2⟩ := sz_bd k0 k6
    have H : Hid _ := Lib.hid h
    clear h
    go_enter Tryd.func25, Tryd.ntmps25
    go_wp2_with (go_at_call 20; refine (isOrder_yes _ _ ⟨k0, k6⟩).mono ?_; rintro e w' ⟨rfl, rfl⟩)
    go_quiet ((go_at_call 21; exact Calls.quiet_of_same ((pages_any _ _ k0 (by omega)).mono fun _ _ h => ⟨h.1, h.2.symm⟩)))
    go_wp2
    · have hne : (a % sz k != 0) = true := by assumption
      rcases H.out with ⟨e1, e2⟩ | ⟨e1, e2⟩
      · go_ret
        exact ⟨by rw [e1]; rfl, (by repeat (first | exact Below.refl _ _ | refine Below.drew ?_ | refine below_drewN ?_ _ | refine Below.trans ?_ (Below.mono (by assumption) (by first | omega | (simp; omega) | (simp; done))) | refine Below.alloc ?_ (by first | omega | (simp; omega) | (simp; done)) _ | refine Below.setCell ?_ (by first | omega | (simp; omega) | (simp; done)) _))⟩
      · simp [e2] at hne
    · have hne : (a % sz k != 0) = false := by assumption
      rcases H.out with ⟨e1, e2⟩ | ⟨e1, e2⟩
      · simp [e2] at hne
      · go_ret
        exact ⟨by rw [e1]; rfl, (by repeat (first | exact Below.refl _ _ | refine Below.drew ?_ | refine below_drewN ?_ _ | refine Below.trans ?_ (Below.mono (by assumption) (by first | omega | (simp; omega) | (simp; done))) | refine Below.alloc ?_ (by first | omega | (simp; omega) | (simp; done)) _ | refine Below.setCell ?_ (by first | omega | (simp; omega) | (simp; done)) _))⟩

theorem blkE_bad {a k n : Int} (h : n < 1 ∨ 256 < n ∨ k < 0 ∨ 6 < k ∨ a < 0 ∨ n - sz k < a) : checkE a k n = 2 := by unfold checkE; rw [if_pos h]
set_option maxHeartbeats 2000000 in
theorem blockError_any (a k n : Int) (w : World) : Calls Tryd.prog 24 #[.agg #[.int .i64 a, .int .i64 k], .int .i64 n] w fun e w' => e = .returned (.int .i64 (checkE a k n)) ∧ Below w.heap.size w w' := by
  by_cases hk : k < 0 ∨ 6 < k
  · rw [blkE_bad (by omega)]
    have K := Lib.hid hk
    clear hk
    by_cases h1 : n < 1
    · go_enter Tryd.func24, Tryd.ntmps24
      go_wp2_with (go_at_call 20; refine (isOrder_no _ _ K.out).mono ?_; rintro e w' ⟨rfl, rfl⟩)
      go_ret
      exact ⟨rfl, (by repeat (first | exact Below.refl _ _ | refine Below.drew ?_ | refine below_drewN ?_ _ | refine Below.trans ?_ (Below.mono (by assumption) (by first | omega | (simp; omega) | (simp; done))) | refine Below.alloc ?_ (by first | omega | (simp; omega) | (simp; done)) _ | refine Below.setCell ?_ (by first | omega | (simp; omega) | (simp; done)) _))⟩
    by_cases h2 : 256 < n
    all_goals
      go_enter Tryd.func24, Tryd.ntmps24
      go_wp2_with (go_at_call 20; refine (isOrder_no _ _ K.out).mono ?_; rintro e w' ⟨rfl, rfl⟩)
      go_ret
      exact ⟨rfl, (by repeat (first | exact Below.refl _ _ | refine Below.drew ?_ | refine below_drewN ?_ _ | refine Below.trans ?_ (Below.mono (by assumption) (by first | omega | (simp; omega) | (simp; done))) | refine Below.alloc ?_ (by first | omega | (simp; omega) | (simp; done)) _ | refine Below.setCell ?_ (by first | omega | (simp; omega) | (simp; done)) _))⟩
  obtain ⟨k0, k6⟩ : 0 ≤ k ∧ k ≤ 6 := by omega
  clear hk
  obtain ⟨s1, s2⟩ := sz_bd k0 k6
  by_cases h1 : n < 1
  · rw [blkE_bad (by omega)]
    go_enter Tryd.func24, Tryd.ntmps24
    go_wp2_with (go_at_call 20; refine (isOrder_yes _ _ ⟨k0, k6⟩).mono ?_; rintro e w' ⟨rfl, rfl⟩)
    go_ret
    exact ⟨rfl, (by repeat (first | exact Below.refl _ _ | refine Below.drew ?_ | refine below_drewN ?_ _ | refine Below.trans ?_ (Below.mono (by assumption) (by first | omega | (simp; omega) | (simp; done))) | refine Below.alloc ?_ (by first | omega | (simp; omega) | (simp; done)) _ | refine Below.setCell ?_ (by first | omega | (simp; omega) | (simp; done)) _))⟩
  by_cases h2 : 256 < n
  · rw [blkE_bad (by omega)]
    go_enter Tryd.func24, Tryd.ntmps24
    go_wp2_with (go_at_call 20; refine (isOrder_yes _ _ ⟨k0, k6⟩).mono ?_; rintro e w' ⟨rfl, rfl⟩)
    go_ret
    exact ⟨rfl, (by repeat (first | exact Below.refl _ _ | refine Below.drew ?_ | refine below_drewN ?_ _ | refine Below.trans ?_ (Below.mono (by assumption) (by first | omega | (simp; omega) | (simp; done))) | refine Below.alloc ?_ (by first | omega | (simp; omega) | (simp; done)) _ | refine Below.setCell ?_ (by first | omega | (simp; omega) | (simp; done)) _))⟩
  by_cases h3 : a < 0
  · rw [blkE_bad (by omega)]
    go_enter Tryd.func24, Tryd.ntmps24
    go_wp2_with (go_at_call 20; refine (isOrder_yes _ _ ⟨k0, k6⟩).mono ?_; rintro e w' ⟨rfl, rfl⟩)
    go_ret
    exact ⟨rfl, (by repeat (first | exact Below.refl _ _ | refine Below.drew ?_ | refine below_drewN ?_ _ | refine Below.trans ?_ (Below.mono (by assumption) (by first | omega | (simp; omega) | (simp; done))) | refine Below.alloc ?_ (by first | omega | (simp; omega) | (simp; done)) _ | refine Below.setCell ?_ (by first | omega | (simp; omega) | (simp; done)) _))⟩
  by_cases h4 : 256 < a
  · rw [blkE_bad (by omega)]
    go_enter Tryd.func24, Tryd.ntmps24
    go_wp2_with (go_at_call 20; refine (isOrder_yes _ _ ⟨k0, k6⟩).mono ?_; rintro e w' ⟨rfl, rfl⟩)
    go_ret
    exact ⟨rfl, (by repeat (first | exact Below.refl _ _ | refine Below.drew ?_ | refine below_drewN ?_ _ | refine Below.trans ?_ (Below.mono (by assumption) (by first | omega | (simp; omega) | (simp; done))) | refine Below.alloc ?_ (by first | omega | (simp; omega) | (simp; done)) _ | refine Below.setCell ?_ (by first | omega | (simp; omega) | (simp; done)) _))⟩
  by_cases h5 : n < a + sz k
  · rw [blkE_bad (by omega)]
    go_enter Tryd.func24, Tryd.ntmps24
    go_wp2_with (first | (go_at_call 20; refine (isOrder_yes _ _ ⟨k0, k6⟩).mono ?_; rintro e w' ⟨rfl, rfl⟩) | (go_at_call 21; refine (pages_any _ _ k0 (by omega)).mono ?_; rintro e w' ⟨rfl, rfl⟩))
    go_ret
    exact ⟨rfl, (by repeat (first | exact Below.refl _ _ | refine Below.drew ?_ | refine below_drewN ?_ _ | refine Below.trans ?_ (Below.mono (by assumption) (by first | omega | (simp; omega) | (simp; done))) | refine Below.alloc ?_ (by first | omega | (simp; omega) | (simp; done)) _ | refine Below.setCell ?_ (by first | omega | (simp; omega) | (simp; done)) _))⟩
  have H : Hid ((checkE a k n = 3 ∧ a % sz k ≠ 0) ∨ (checkE a k n = 0 ∧ a % sz k = 0)) := by
    unfold checkE
    rw [if_neg (by omega)]
    by_cases e : a % sz k = 0
    · exact .inr ⟨if_pos e, e⟩
    · exact .inl ⟨if_neg e, e⟩
  go_enter Tryd.func24, Tryd.ntmps24
  go_wp2_with (first | (go_at_call 20; refine (isOrder_yes _ _ ⟨k0, k6⟩).mono ?_; rintro e w' ⟨rfl, rfl⟩) | (go_at_call 21; refine (pages_any _ _ k0 (by omega)).mono ?_; rintro e w' ⟨rfl, rfl⟩))
  · have hne : (a % sz k != 0) = true := by assumption
    rcases H.out with ⟨e1, e2⟩ | ⟨e1, e2⟩
    · go_ret
      exact ⟨by rw [e1]; rfl, (by repeat (first | exact Below.refl _ _ | refine Below.drew ?_ | refine below_drewN ?_ _ | refine Below.trans ?_ (Below.mono (by assumption) (by first | omega | (simp; omega) | (simp; done))) | refine Below.alloc ?_ (by first | omega | (simp; omega) | (simp; done)) _ | refine Below.setCell ?_ (by first | omega | (simp; omega) | (simp; done)) _))⟩
    · simp [e2] at hne
  · have hne : (a % sz k != 0) = false := by assumption
    rcases H.out with ⟨e1, e2⟩ | ⟨e1, e2⟩
    · simp [e2] at hne
    · go_ret
      exact ⟨by rw [e1]; rfl, (by repeat (first | exact Below.refl _ _ | refine Below.drew ?_ | refine below_drewN ?_ _ | refine Below.trans ?_ (Below.mono (by assumption) (by first | omega | (simp; omega) | (simp; done))) | refine Below.alloc ?_ (by first | omega | (simp; omega) | (simp; done)) _ | refine Below.setCell ?_ (by first | omega | (simp; omega) | (simp; done)) _))⟩
end Go.Proofs.YtcooflachcimbaaDoor
