/- The document's answer of chapter 1 by its contracts, second part: parents and buddies of right blocks. -/
import Derived.Test.YtcooflachcimbaaDoorRef
namespace Go.Proofs.YtcooflachcimbaaDoor
open Go.RowKit
set_option linter.unusedSimpArgs false

set_option maxHeartbeats 1000000 in
theorem parentOf_ok (a k : Int) (w : World) (a0 : 0 ≤ a) (a1 : a ≤ 255) (k0 : 0 ≤ k) (k5 : k ≤ 5) (ha : a % sz k = 0) :
    Calls Tryd.prog 27 #[.agg #[.int .i64 a, .int .i64 k]] w fun e w' => e = .returned (.agg #[.int .i64 (parA a k), .int .i64 (k + 1)]) ∧ Below w.heap.size w w' := by
  obtain ⟨p0, p1⟩ := kin_p a0 a1 k0 k5 ha
  have hm : wrap64 (a / sz (k + 1) * sz (k + 1)) = parA a k := by
    rw [kin_q a0 a1 k0 k5 ha]
    exact IntWalk.wrap64_in _ ⟨by omega, by omega⟩
  obtain ⟨s1, s2⟩ := sz_bd7 (k := k + 1) (by omega) (by omega)
  clear ha
  generalize parA a k = p at *
  generalize hq : sz (k + 1) = s at *
  have HQ := Lib.hid hq
  clear hq
  go_enter Tryd.func27, Tryd.ntmps27
  go_wp2_with (go_at_call 21; refine (pages_any _ _ (by omega) (by omega)).mono ?_; rintro e w' ⟨rfl, rfl⟩; rw [HQ.out])
  go_region
  go_wp2
  exact bodyPost_ret (v := .agg #[.int .i64 p, .int .i64 (k + 1)]) (by simp [results, Tryd.results27, go_sem]) rfl ⟨rfl, (by repeat (first | exact Below.refl _ _ | refine Below.drew ?_ | refine below_drewN ?_ _ | refine Below.trans ?_ (Below.mono (by assumption) (by first | omega | (simp; omega) | (simp; done))) | refine Below.alloc ?_ (by first | omega | (simp; omega) | (simp; done)) _ | refine Below.setCell ?_ (by first | omega | (simp; omega) | (simp; done)) _))⟩

set_option maxHeartbeats 1000000 in
set_option maxRecDepth 100000 in
theorem buddyOf_ok (a k : Int) (w : World) (a0 : 0 ≤ a) (a1 : a ≤ 255) (k0 : 0 ≤ k) (k5 : k ≤ 5) (ha : a % sz k = 0) :
    Calls Tryd.prog 26 #[.agg #[.int .i64 a, .int .i64 k]] w fun e w' => e = .returned (.agg #[.int .i64 (budA a k), .int .i64 k]) ∧ Below w.heap.size w w' := by
  obtain ⟨p0, p1⟩ := kin_p a0 a1 k0 k5 ha
  have hb := kin_b a0 a1 k0 k5 ha
  obtain ⟨s1, s2⟩ := sz_bd k0 (by omega : k ≤ 6)
  have hP := parentOf_ok a k
  generalize parA a k = p at *
  generalize budA a k = x at *
  rcases hb with ⟨rfl, rfl⟩ | ⟨hpa, rfl⟩
  · go_enter Tryd.func26, Tryd.ntmps26
    go_wp2_with fail
    refine (hP _ a0 a1 k0 k5 ha).mono ?_
    rintro e w1 ⟨rfl, hb1⟩; obtain ⟨c1, f1⟩ := bcell hb1; have z1 := hb1.size; try simp at z1 c1 f1
    have l0 : w.heap.size < w1.heap.size := by omega
    have l1 : w.heap.size + 1 < w1.heap.size := by omega
    clear hP
    go_wp2
    have hw : IntKind.i64.wrap (p + sz k) = p + sz k := IntWalk.i64_in _ (by omega)
    go_region_with ((go_at_call 21; refine (pages_any _ _ k0 (by omega)).mono ?_; rintro e w' ⟨rfl, rfl⟩))
    all_goals go_wp2
    all_goals exact bodyPost_ret (v := .agg #[.int .i64 (p + sz k), .int .i64 k]) (by simp [results, Tryd.results26, go_sem, c1, l0, l1, hw]) rfl ⟨rfl, (by repeat (first | exact Below.refl _ _ | refine Below.drew ?_ | refine below_drewN ?_ _ | refine Below.trans ?_ (Below.mono (by assumption) (by first | omega | (simp; omega) | (simp; done))) | refine Below.alloc ?_ (by first | omega | (simp; omega) | (simp; done)) _ | refine Below.setCell ?_ (by first | omega | (simp; omega) | (simp; done)) _))⟩
  · have hne : (x == a) = false := by simpa using hpa
    clear hpa
    go_enter Tryd.func26, Tryd.ntmps26
    go_wp2_with fail
    refine (hP _ a0 a1 k0 k5 ha).mono ?_
    rintro e w1 ⟨rfl, hb1⟩; obtain ⟨c1, f1⟩ := bcell hb1; have z1 := hb1.size; try simp at z1 c1 f1
    have l0 : w.heap.size < w1.heap.size := by omega
    have l1 : w.heap.size + 1 < w1.heap.size := by omega
    clear hP
    go_wp2
    exact bodyPost_ret (v := .agg #[.int .i64 x, .int .i64 k]) (by simp [results, Tryd.results26, go_sem, c1, l0, l1]) rfl ⟨rfl, (by repeat (first | exact Below.refl _ _ | refine Below.drew ?_ | refine below_drewN ?_ _ | refine Below.trans ?_ (Below.mono (by assumption) (by first | omega | (simp; omega) | (simp; done))) | refine Below.alloc ?_ (by first | omega | (simp; omega) | (simp; done)) _ | refine Below.setCell ?_ (by first | omega | (simp; omega) | (simp; done)) _))⟩
end Go.Proofs.YtcooflachcimbaaDoor
