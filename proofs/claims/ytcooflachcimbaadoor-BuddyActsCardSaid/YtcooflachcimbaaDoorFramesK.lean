/- Package frames by its contracts: Check, of any numbers whatever. -/
import Derived.Test.YtcooflachcimbaaDoorFrames
namespace Go.Proofs.YtcooflachcimbaaDoor
open Go.RowKit
set_option linter.unusedSimpArgs false

theorem checkE_bad {a k n : Int} (h : n < 1 ∨ 256 < n ∨ k < 0 ∨ 6 < k ∨ a < 0 ∨ n - sz k < a) : checkE a k n = 2 := by unfold checkE; rw [if_pos h]
set_option maxHeartbeats 1000000 in
/-- Check, of any numbers whatever -/
theorem check_any {B : Nat} {ev : Nat → Addr} (a k n : Int) (w : World) (hE : ErrC B ev w) :
    Calls Tryd.prog 23 #[.agg #[.int .i64 a, .int .i64 k], .int .i64 n] w fun e w' => e = .returned (errV ev (checkE a k n)) ∧ Below w.heap.size w w' := by
  have hB := hE.size
  have hc2 := hE.c2
  have hc3 := hE.c3
  have z2 := hE.z2
  have z3 := hE.z3
  by_cases h1 : n < 1
  · rw [checkE_bad (.inl h1)]
    go_enter Tryd.func23, Tryd.ntmps23
    go_wp2
    go_quiet (fail)
    go_wp2
    go_ret
    exact ⟨rfl, (by repeat (first | exact Below.refl _ _ | refine Below.drew ?_ | refine below_drewN ?_ _ | refine Below.trans ?_ (Below.mono (by assumption) (by first | omega | (simp; omega) | (simp; done))) | refine Below.alloc ?_ (by first | omega | (simp; omega) | (simp; done)) _ | refine Below.setCell ?_ (by first | omega | (simp; omega) | (simp; done)) _))⟩
  by_cases h2 : 256 < n
  · rw [checkE_bad (.inr (.inl h2))]
    have d1 : decide (n < 1) = false := decide_eq_false h1
    go_enter Tryd.func23, Tryd.ntmps23
    go_wp2
    go_quiet (fail)
    go_wp2
    go_ret
    exact ⟨rfl, (by repeat (first | exact Below.refl _ _ | refine Below.drew ?_ | refine below_drewN ?_ _ | refine Below.trans ?_ (Below.mono (by assumption) (by first | omega | (simp; omega) | (simp; done))) | refine Below.alloc ?_ (by first | omega | (simp; omega) | (simp; done)) _ | refine Below.setCell ?_ (by first | omega | (simp; omega) | (simp; done)) _))⟩
  have d1 : decide (n < 1) = false := decide_eq_false h1
  have d2 : decide (256 < n) = false := decide_eq_false h2
  by_cases h3 : k < 0 ∨ 6 < k
  · rw [checkE_bad (by omega)]
    have H3 : Hid _ := Lib.hid h3
    clear h3
    go_enter Tryd.func23, Tryd.ntmps23
    go_wp2
    go_quiet ((go_at_call 48; exact Calls.quiet_of_same ((order_no _ _ H3.out).mono fun _ _ h => ⟨h.1, h.2.symm⟩)))
    go_wp2
    go_ret
    exact ⟨rfl, (by repeat (first | exact Below.refl _ _ | refine Below.drew ?_ | refine below_drewN ?_ _ | refine Below.trans ?_ (Below.mono (by assumption) (by first | omega | (simp; omega) | (simp; done))) | refine Below.alloc ?_ (by first | omega | (simp; omega) | (simp; done)) _ | refine Below.setCell ?_ (by first | omega | (simp; omega) | (simp; done)) _))⟩
  obtain ⟨k0, k6⟩ : 0 ≤ k ∧ k ≤ 6 := by omega
  clear h3
  have hs := shl_sz' k0 k6
  obtain ⟨s1, s2⟩ := sz_bd k0 k6
  by_cases h4 : a < 0
  · rw [checkE_bad (by omega)]
    go_enter Tryd.func23, Tryd.ntmps23
    go_wp2
    go_quiet ((go_at_call 48; exact Calls.quiet_of_same ((order_yes _ _ ⟨k0, k6⟩).mono fun _ _ h => ⟨h.1, h.2.symm⟩)))
    go_wp2
    go_ret
    exact ⟨rfl, (by repeat (first | exact Below.refl _ _ | refine Below.drew ?_ | refine below_drewN ?_ _ | refine Below.trans ?_ (Below.mono (by assumption) (by first | omega | (simp; omega) | (simp; done))) | refine Below.alloc ?_ (by first | omega | (simp; omega) | (simp; done)) _ | refine Below.setCell ?_ (by first | omega | (simp; omega) | (simp; done)) _))⟩
  have d4 : decide (a < 0) = false := decide_eq_false h4
  by_cases h5 : n - sz k < a
  · rw [checkE_bad (by omega)]
    go_enter Tryd.func23, Tryd.ntmps23
    go_wp2
    go_quiet ((go_at_call 48; exact Calls.quiet_of_same ((order_yes _ _ ⟨k0, k6⟩).mono fun _ _ h => ⟨h.1, h.2.symm⟩)))
    go_wp2
    go_ret
    exact ⟨rfl, (by repeat (first | exact Below.refl _ _ | refine Below.drew ?_ | refine below_drewN ?_ _ | refine Below.trans ?_ (Below.mono (by assumption) (by first | omega | (simp; omega) | (simp; done))) | refine Below.alloc ?_ (by first | omega | (simp; omega) | (simp; done)) _ | refine Below.setCell ?_ (by first | omega | (simp; omega) | (simp; done)) _))⟩
  have d5 : decide (n - sz k < a) = false := decide_eq_false h5
  have hn := and_sz (a := a) (k := k) (by omega) (by omega) k0 k6
  have H : Hid ((checkE a k n = 3 ∧ a % sz k ≠ 0) ∨ (checkE a k n = 0 ∧ a % sz k = 0)) := by
    unfold checkE
    rw [if_neg (by omega)]
    by_cases e : a % sz k = 0
    · exact .inr ⟨if_pos e, e⟩
    · exact .inl ⟨if_neg e, e⟩
  go_enter Tryd.func23, Tryd.ntmps23
  go_wp2
  go_quiet ((go_at_call 48; exact Calls.quiet_of_same ((order_yes _ _ ⟨k0, k6⟩).mono fun _ _ h => ⟨h.1, h.2.symm⟩)))
  go_wp2
  go_quiet (fail)
  go_wp2
  · have hne : (a % sz k != 0) = true := by assumption
    rcases H.out with ⟨e1, e2⟩ | ⟨e1, e2⟩
    · go_ret
      exact ⟨by rw [e1]; rfl, (by repeat (first | exact Below.refl _ _ | refine Below.drew ?_ | refine below_drewN ?_ _ | refine Below.trans ?_ (Below.mono (by assumption) (by first | omega | (simp; omega) | (simp; done))) | refine Below.alloc ?_ (by first | omega | (simp; omega) | (simp; done)) _ | refine Below.setCell ?_ (by first | omega | (simp; omega) | (simp; done)) _))⟩
    · simp [e2] at hne
  · have hne : (a % sz k != 0) = false := by assumption
    rcases H.out with ⟨e1, e2⟩ | ⟨e1, e2⟩
    · simp [e2] at hne
    · go_ret
      exact ⟨by rw [e1]; rfl, (by repeat (first | exact Below.refl _ _ | refine Below.drew ?_ | refine below_drewN ?_ _ | refine Below.trans ?_ (Below.mono (by assumption) (by first | omega | (simp; omega) | (simp; done))) | refine Below.alloc ?_ (by first | omega | (simp; omega) | (simp; done)) _ | refine Below.setCell ?_ (by first | omega | (simp; omega) | (simp; done)) _))⟩
end Go.Proofs.YtcooflachcimbaaDoor
