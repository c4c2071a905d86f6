/- frames.Cover where it tells an error, and the document's CoverOf, by their contracts. -/
import Derived.Test.YtigginpcokfihaaGreatDoorCov
namespace Go.Proofs.YtigginpcokfihaaGreatDoor
open Go.RowKit
set_option linter.unusedSimpArgs false

set_option maxHeartbeats 1000000 in
theorem cover_err {B : Nat} {ev : Nat → Addr} (a n : Int) (w : World) (hE : ErrC B ev w) (h : a < 0 ∨ n < 0 ∨ 256 < a ∨ 256 - a < n) :
    Calls Tryz.prog 53 #[.int .i64 a, .int .i64 n] w fun e w' => e = .returned (.tuple #[.slice none 0 0, errV ev 2]) ∧ Below w.heap.size w w' := by
  have hc := hE.c2
  have H := Lib.hid h
  clear h
  by_cases d1 : a < 0
  · go_enter Tryz.func53, Tryz.ntmps53
    go_wp2_with fail
    go_region
    all_goals go_wp2
    all_goals go_ret2
    all_goals exact ⟨rfl, (by repeat (first | exact Below.refl _ _ | refine Below.drew ?_ | refine below_drewN ?_ _ | refine Below.trans ?_ (Below.mono (by assumption) (by first | omega | (simp; omega) | (simp; done))) | refine Below.alloc ?_ (by first | omega | (simp; omega) | (simp; done)) _ | refine Below.setCell ?_ (by first | omega | (simp; omega) | (simp; done)) _))⟩
  by_cases d2 : n < 0
  · go_enter Tryz.func53, Tryz.ntmps53
    go_wp2_with fail
    go_region
    all_goals go_wp2
    all_goals go_ret2
    all_goals exact ⟨rfl, (by repeat (first | exact Below.refl _ _ | refine Below.drew ?_ | refine below_drewN ?_ _ | refine Below.trans ?_ (Below.mono (by assumption) (by first | omega | (simp; omega) | (simp; done))) | refine Below.alloc ?_ (by first | omega | (simp; omega) | (simp; done)) _ | refine Below.setCell ?_ (by first | omega | (simp; omega) | (simp; done)) _))⟩
  by_cases d3 : 256 < a
  · go_enter Tryz.func53, Tryz.ntmps53
    go_wp2_with fail
    go_region
    all_goals go_wp2
    all_goals go_ret2
    all_goals exact ⟨rfl, (by repeat (first | exact Below.refl _ _ | refine Below.drew ?_ | refine below_drewN ?_ _ | refine Below.trans ?_ (Below.mono (by assumption) (by first | omega | (simp; omega) | (simp; done))) | refine Below.alloc ?_ (by first | omega | (simp; omega) | (simp; done)) _ | refine Below.setCell ?_ (by first | omega | (simp; omega) | (simp; done)) _))⟩
  · have d4 : 256 - a < n := by have := H.out; omega
    go_enter Tryz.func53, Tryz.ntmps53
    go_wp2_with fail
    go_region
    all_goals go_wp2
    all_goals go_ret2
    all_goals exact ⟨rfl, (by repeat (first | exact Below.refl _ _ | refine Below.drew ?_ | refine below_drewN ?_ _ | refine Below.trans ?_ (Below.mono (by assumption) (by first | omega | (simp; omega) | (simp; done))) | refine Below.alloc ?_ (by first | omega | (simp; omega) | (simp; done)) _ | refine Below.setCell ?_ (by first | omega | (simp; omega) | (simp; done)) _))⟩

theorem coverOf_no (a n : Int) (w : World) (h : a < 0 ∨ n < 0 ∨ 256 < a ∨ 256 < n ∨ 256 < a + n) :
    Calls Tryz.prog 70 #[.int .i64 a, .int .i64 n] w fun e w' => e = .returned (.tuple #[.slice none 0 0, .bool false]) ∧ w = w' := by
  have H := Lib.hid h
  clear h
  by_cases d1 : a < 0
  · go_enter Tryz.func70, Tryz.ntmps70
    go_wp2_with fail
    go_ret2
    exact ⟨rfl, rfl⟩
  by_cases d2 : 256 < a
  · go_enter Tryz.func70, Tryz.ntmps70
    go_wp2_with fail
    go_ret2
    exact ⟨rfl, rfl⟩
  by_cases d3 : n < 0
  · go_enter Tryz.func70, Tryz.ntmps70
    go_wp2_with fail
    go_ret2
    exact ⟨rfl, rfl⟩
  by_cases d4 : 256 < n
  · go_enter Tryz.func70, Tryz.ntmps70
    go_wp2_with fail
    go_ret2
    exact ⟨rfl, rfl⟩
  · have d5 : 256 < a + n := by have := H.out; omega
    go_enter Tryz.func70, Tryz.ntmps70
    go_wp2_with fail
    go_ret2
    exact ⟨rfl, rfl⟩

set_option maxHeartbeats 2000000 in
set_option maxRecDepth 100000 in
theorem coverOf_ok (a n : Int) (w : World) (a0 : 0 ≤ a) (n0 : 0 ≤ n) (h : a + n ≤ 256) :
    Calls Tryz.prog 70 #[.int .i64 a, .int .i64 n] w (CovPost w (covL a n) (.bool true)) := by
  obtain ⟨i0, hi, hz0, hz1, hz2⟩ := info_parts infoB
  have hlen := covL_length n.toNat a n (Nat.le_refl _)
  have d1 : decide (a < 0) = false := decide_eq_false (by omega)
  have d2 : decide (256 < a) = false := decide_eq_false (by omega)
  have d3 : decide (n < 0) = false := decide_eq_false (by omega)
  have d4 : decide (256 < n) = false := decide_eq_false (by omega)
  have d5 : decide (256 < a + n) = false := decide_eq_false (by omega)
  go_enter Tryz.func70, Tryz.ntmps70
  go_wp2_with fail
  clear d1 d2 d3 d4 d5
  go_loopw [0, 1, 6] (fun xa xn v wr => ∃ (x m : Int) (done : List (Int × Int)), xa = .int .i64 x ∧ xn = .int .i64 m ∧ 0 ≤ x ∧ 0 ≤ m ∧ x + m ≤ 256 ∧ covL a n = done ++ covL x m ∧ wr.ownsRow w.heap.size 39 2 v done.length (encB done) ∧ Below w.heap.size w wr) (fun _ xn _ _ => (intOf xn).toNat)
  case atStart => exact ⟨a, n, [], rfl, rfl, a0, n0, h, rfl, World.ownsRow_nil _ _ _ _, Below.refl _ _⟩
  case round =>
    obtain ⟨x, m, done, rfl, rfl, x0, m0, hxm, hcov, hown, hbel⟩ := hrel
    have hdl : (done.length : Int) ≤ n.toNat := by rw [hcov] at hlen; simp at hlen; omega
    by_cases hm : m < 1
    · have e : m = 0 := by omega
      subst e
      rw [covL_zero (Int.le_refl _), List.append_nil] at hcov
      have HC := Lib.hid hcov
      clear hcov
      go_wp2
      go_ret2
      exact ⟨_, rfl, by rw [HC.out]; exact ⟨hown, hbel⟩⟩
    · have hst := covL_step (a := x) (n := m) (by omega)
      obtain ⟨k0, k6⟩ := covO_bd x m
      obtain ⟨s1, s2⟩ := sz_bd k0 k6
      obtain ⟨f1, f2⟩ := covO_fits (a := x) (n := m) (by omega)
      have hmax := fun j : Int => covO_max (a := x) (n := m) (k := j)
      have hmin := fun (j : Int) (h0 : 0 ≤ j) (h1 : j ≤ covO x m) => covO_min (a := x) (n := m) (k := j) h0 h1 (by omega)
      have hm1 : 1 ≤ m := by omega
      have hd0 : decide (0 < m) = true := decide_eq_true (by omega)
      clear hm
      generalize covO x m = k at *
      have HST := Lib.hid hst; have HMAX := Lib.hid hmax; have HMIN := Lib.hid hmin; have HC := Lib.hid hcov
      clear hst hmax f1 hcov hmin
      go_wp2
      go_loop [7] (fun kv => ∃ j : Int, 0 ≤ j ∧ j ≤ k ∧ kv = .int .i64 j) (fun kv => (6 - intOf kv).toNat)
      case atStart => exact ⟨0, by omega, k0, rfl⟩
      case round =>
        obtain ⟨j, hj0, hjk, rfl⟩ := hrel
        obtain ⟨t1, t2⟩ := sz_bd7 (k := j + 1) (by omega) (by omega)
        by_cases hlt : j < k
        · obtain ⟨y1, y2⟩ := HMIN.out (j + 1) (by omega) (by omega)
          have hd : decide (j < 6) = true := decide_eq_true (by omega)
          have hb : (x % sz (j + 1) == 0) = true := by simp [y1]
          clear y1
          go_wp2_with (first | (go_at_call 79; refine (pages_any _ _ (by omega) (by omega)).mono ?_; rintro e w' ⟨rfl, rfl⟩))
          go_round
          case rel => exact ⟨j + 1, by omega, by omega, rfl⟩
          case measure => simp [intOf]; omega
        · obtain rfl : j = k := by omega
          have hbel0 := hbel
          by_cases h6 : j = 6
          · subst h6
            go_wp2_with (first | (go_at_call 79; refine (pages_any _ _ (by omega) (by omega)).mono ?_; rintro e w' ⟨rfl, rfl⟩) | (at_builtin; refine wpList_append_own _ rfl _ _ 75 rfl w.heap.size 39 i0 (.agg #[.int .i64 0, .int .i64 0]) 2 16 Tryz.underlying75 hi hz0 hz1 hz2 rfl (by decide) _ _ _ rfl (hown.alloc _) ⟨wr.heap.size, 0, none⟩ 1 1 [.int .i64 x, .int .i64 6] rfl rfl (new_two _ _ _ _) (one_two _ _) ?c3 ?c4 ?c5 ?_))
            case c3 => unfold maxLen; omega
            case c4 => omega
            case c5 => have := hbel.size; simp; omega
            intro v' w1 hown' hgrow _
            have hbel' : Below w.heap.size w w1 := (hbel.alloc hbel.size _).grown hgrow (by have := hbel.size; simp; omega) (fun r hr => (hown.lt r hr).1)
            have OW := Lib.hid hown'
            clear hown' hgrow hown hbel hbel0
            go_wp2_with (first | (go_at_call 79; refine (pages_any _ _ (by omega) (by omega)).mono ?_; rintro e w' ⟨rfl, rfl⟩))
            go_roundw
            case rel =>
              refine ⟨x + sz 6, m - sz 6, done ++ [(x, 6)], rfl, rfl, by omega, by omega, by omega, ?_, ?_, ?_⟩
              · rw [HC.out, HST.out]; simp
              · rw [encB_snoc]; exact (show w1.ownsRow _ _ _ _ _ _ by simpa using OW.out)
              · exact hbel'
            case measure => simp [intOf]; omega
          · have hno := HMAX.out (j + 1) (by omega) (by omega)
            have hd : decide (j < 6) = true := decide_eq_true (by omega)
            have hb : ((x % sz (j + 1) == 0) = false) ∨ ((x % sz (j + 1) == 0) = true ∧ m < sz (j + 1)) := by
              by_cases e : x % sz (j + 1) = 0
              · refine .inr ⟨by simp [e], ?_⟩
                rcases Int.lt_or_le m (sz (j + 1)) with h' | h'
                · exact h'
                · exact absurd ⟨e, h'⟩ hno
              · exact .inl (by simp [e])
            clear hno
            rcases hb with hb | ⟨hb, hb2⟩
            all_goals
              go_wp2_with (first | (go_at_call 79; refine (pages_any _ _ (by omega) (by omega)).mono ?_; rintro e w' ⟨rfl, rfl⟩) | (at_builtin; refine wpList_append_own _ rfl _ _ 75 rfl w.heap.size 39 i0 (.agg #[.int .i64 0, .int .i64 0]) 2 16 Tryz.underlying75 hi hz0 hz1 hz2 rfl (by decide) _ _ _ rfl (hown.alloc _) ⟨wr.heap.size, 0, none⟩ 1 1 [.int .i64 x, .int .i64 j] rfl rfl (new_two _ _ _ _) (one_two _ _) (by unfold maxLen; omega) (by omega) (by have := hbel.size; simp; omega) ?_))
              intro v' w1 hown' hgrow _
              have hbel' : Below w.heap.size w w1 := (hbel.alloc hbel.size _).grown hgrow (by have := hbel.size; simp; omega) (fun r hr => (hown.lt r hr).1)
              have OW := Lib.hid hown'
              clear hown' hgrow hown hbel hbel0
              go_wp2_with (first | (go_at_call 79; refine (pages_any _ _ (by omega) (by omega)).mono ?_; rintro e w' ⟨rfl, rfl⟩))
              go_roundw
              case rel =>
                refine ⟨x + sz j, m - sz j, done ++ [(x, j)], rfl, rfl, by omega, by omega, by omega, ?_, ?_, ?_⟩
                · rw [HC.out, HST.out]; simp
                · rw [encB_snoc]; exact (show w1.ownsRow _ _ _ _ _ _ by simpa using OW.out)
                · exact hbel'
              case measure => simp [intOf]; omega
end Go.Proofs.YtigginpcokfihaaGreatDoor
