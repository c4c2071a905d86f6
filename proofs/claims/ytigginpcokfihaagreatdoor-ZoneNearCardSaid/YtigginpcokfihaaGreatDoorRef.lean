/- The document's answer of chapter 1 by its contracts: sizes of orders, errors of blocks, parents and buddies. -/
import Derived.Test.YtigginpcokfihaaGreatDoorErrs
import Derived.Test.YtigginpcokfihaaGreatDoorEq
import Derived.WalkLawsBesides
import Derived.WalkSpells
import Derived.Outline
import Derived.RegionTactic
import Derived.BigRegion
import Derived.Deep.QuietTactic
import Derived.Deep.RegionWith
import Derived.BigQuiet
import Derived.ChangeAlike
import Derived.LoopTactic
namespace Go.Proofs.YtigginpcokfihaaGreatDoor
open Go.RowKit
set_option linter.unusedSimpArgs false

theorem isOrder_any (k : Int) (w : World) : Calls Tryz.prog 44 #[.int .i64 k] w fun e w' => e = .returned (.bool (decide (0 ≤ k ∧ k ≤ 6))) ∧ w = w' := by
  by_cases h0 : 0 ≤ k
  · by_cases h6 : k ≤ 6
    · rw [decide_eq_true (show 0 ≤ k ∧ k ≤ 6 from ⟨h0, h6⟩)]
      go_enter Tryz.func44, Tryz.ntmps44
      go_wp2
      go_ret
      exact ⟨rfl, rfl⟩
    · rw [decide_eq_false (show ¬ (0 ≤ k ∧ k ≤ 6) by omega)]
      go_enter Tryz.func44, Tryz.ntmps44
      go_wp2
      go_ret
      exact ⟨by simp, rfl⟩
  · rw [decide_eq_false (show ¬ (0 ≤ k ∧ k ≤ 6) by omega)]
    go_enter Tryz.func44, Tryz.ntmps44
    go_wp2
    go_ret
    exact ⟨rfl, rfl⟩
theorem isOrder_yes (k : Int) (w : World) (h : 0 ≤ k ∧ k ≤ 6) : Calls Tryz.prog 44 #[.int .i64 k] w fun e w' => e = .returned (.bool true) ∧ w = w' := by
  have := isOrder_any k w; rwa [decide_eq_true h] at this
theorem isOrder_no (k : Int) (w : World) (h : k < 0 ∨ 6 < k) : Calls Tryz.prog 44 #[.int .i64 k] w fun e w' => e = .returned (.bool false) ∧ w = w' := by
  have := isOrder_any k w; rwa [decide_eq_false (show ¬ (0 ≤ k ∧ k ≤ 6) by omega)] at this

theorem pages_any (k : Int) (w : World) (k0 : 0 ≤ k) (k7 : k ≤ 7) : Calls Tryz.prog 79 #[.int .i64 k] w fun e w' => e = .returned (.int .i64 (sz k)) ∧ w = w' := by
  go_enter Tryz.func79, Tryz.ntmps79
  go_wp2
  go_loop [3, 4] (fun n i => ∃ j : Nat, (j : Int) ≤ k ∧ i = .int .i64 j ∧ n = .int .i64 (sz j)) (fun _ i => k.toNat - (intOf i).toNat)
  case atStart => exact ⟨0, by omega, rfl, rfl⟩
  case round =>
    obtain ⟨j, hj, rfl, rfl⟩ := hrel
    obtain ⟨s1, s2⟩ := sz_bd7 (k := (j : Int)) (by omega) (by omega)
    by_cases hlt : (j : Int) < k
    · have hs := sz_succ (k := (j : Int)) (by omega) (by omega)
      have HS := Lib.hid hs
      clear hs
      go_wp2
      go_round
      case rel => exact ⟨j + 1, by omega, by go_num, by rw [show ((j + 1 : Nat) : Int) = (j : Int) + 1 from by omega, HS.out]⟩
      case measure => simp [intOf]; omega
    · have e : (j : Int) = k := by omega
      have E := Lib.hid e
      clear e
      go_wp2
      go_ret
      exact ⟨by rw [← E.out]; rfl, rfl⟩

end Go.Proofs.YtigginpcokfihaaGreatDoor
