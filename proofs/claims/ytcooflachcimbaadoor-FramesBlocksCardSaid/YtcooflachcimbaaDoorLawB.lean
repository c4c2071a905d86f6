/- The statements FramesSizes and FramesBlocks: their walks. -/
import Derived.Test.YtcooflachcimbaaDoorFramesC
import Derived.Test.YtcooflachcimbaaDoorRefB
import Derived.Test.YtcooflachcimbaaDoorRefE
import Derived.Test.YtcooflachcimbaaDoorFramesK
import Derived.Test.YtcooflachcimbaaDoorCode
import Derived.Test.YtcooflachcimbaaDoorLawA
import Derived.Test.YtcooflachcimbaaDoorQuiet
namespace Go.Proofs.YtcooflachcimbaaDoor
open Go.RowKit
set_option linter.unusedSimpArgs false

theorem errV_ne {ev : Nat → Addr} {i : Nat} (h : 1 ≤ i) : ∃ a, errV ev i = .iface 80 (.pointer (some a)) := by
  cases i with
  | zero => omega
  | succ i => exact ⟨_, rfl⟩

/-- the first half: Size; what stands behind it by a continuation of Order's -/
theorem ordI_pred {n : Int} (h : ordI n ≠ 0) : sz (ordI n - 1) < n := ordI_lt (by have := (ordI_bd n).1; omega) (by omega)

theorem n_le6 {n : Int} (h : n ≤ 64) : n ≤ sz 6 := by simp only [sz6]; exact h
theorem n_gt6 {n : Int} (h : 64 < n) : sz 6 < n := by simp only [sz6]; exact h

set_option maxHeartbeats 2000000 in
set_option maxRecDepth 100000 in
/-- orders: 0 to 6 -/
theorem framesSizes_a {B : Nat} {ev : Nat → Addr} (n : Int) (w : World) (hE : Errs B ev w) (n0 : 0 ≤ n) (n6 : n ≤ 6) :
    Calls Tryd.prog 5 #[.int .i64 n] w fun e w' => e = .returned (.bool true) ∧ Below w.heap.size w w' := by
  have hB := hE.size
  obtain ⟨s1, s2⟩ := sz_bd n0 n6
  by_cases n1 : n < 1
  · go_enter Tryd.func5, Tryd.ntmps5
    go_wp2_with fail
    refine (halved_yes _ hE.c).mono ?_
    rintro e w1 ⟨rfl, hb1⟩; obtain ⟨c1, f1⟩ := bcell hb1; have z1 := hb1.size; try simp at z1 c1 f1
    have hE1 := hE.go hb1
    go_wp2_with (first | (go_at_call 19; refine (size_yes _ _ ⟨n0, n6⟩).mono ?_; rintro e w' ⟨rfl, rfl⟩) | (go_at_call 20; refine (isOrder_yes _ _ ⟨by omega, by omega⟩).mono ?_; rintro e w' ⟨rfl, rfl⟩) | (go_at_call 21; refine (pages_any _ _ (by omega) (by omega)).mono ?_; rintro e w' ⟨rfl, rfl⟩))
    refine (orderOf_err _ _ hE1.c (.inl n1)).mono ?_
    rintro e w2 ⟨rfl, hb2⟩; obtain ⟨c2, f2⟩ := bcell hb2; have z2 := hb2.size; try simp at z2 c2 f2
    have hE2 := hE1.go hb2
    go_wp2_with (first | (go_at_call 21; refine (pages_any _ _ (by omega) (by omega)).mono ?_; rintro e w' ⟨rfl, rfl⟩))
    refine (coded_at 2 2 _ hE2 (by decide) rfl).mono ?_
    rintro e w3 ⟨rfl, hb3⟩; obtain ⟨c3, f3⟩ := bcell hb3; have z3 := hb3.size; try simp at z3 c3 f3
    go_wp2
    go_ret
    exact ⟨rfl, (by repeat (first | exact Below.refl _ _ | refine Below.drew ?_ | refine below_drewN ?_ _ | refine Below.trans ?_ (Below.mono (by assumption) (by first | omega | (simp; omega) | (simp; done))) | refine Below.alloc ?_ (by first | omega | (simp; omega) | (simp; done)) _ | refine Below.setCell ?_ (by first | omega | (simp; omega) | (simp; done)) _))⟩
  · obtain ⟨o0, o6⟩ := ordI_bd n
    have hle := ordI_le (n := n) (by omega)
    have hlt := ordI_pred (n := n)
    have hok := fun w => orderOf_ok n w (by omega) (by omega)
    have h64 := n_le6 (n := n) (by omega)
    generalize ordI n = o at *
    have HO := Lib.hid hok
    clear hok
    obtain ⟨t1, t2⟩ := sz_bd o0 o6
    have hd : decide (n < 1) = false := decide_eq_false n1
    have hd6 : decide (sz 6 < n) = false := decide_eq_false (by omega)
    by_cases hz : o = 0
    · subst hz
      clear hlt
      go_enter Tryd.func5, Tryd.ntmps5
      go_wp2_with fail
      refine (halved_yes _ hE.c).mono ?_
      rintro e w1 ⟨rfl, hb1⟩; obtain ⟨c1, f1⟩ := bcell hb1; have z1 := hb1.size; try simp at z1 c1 f1
      go_wp2_with (first | (go_at_call 19; refine (size_yes _ _ ⟨n0, n6⟩).mono ?_; rintro e w' ⟨rfl, rfl⟩) | (go_at_call 20; refine (isOrder_yes _ _ ⟨by omega, by omega⟩).mono ?_; rintro e w' ⟨rfl, rfl⟩) | (go_at_call 21; refine (pages_any _ _ (by omega) (by omega)).mono ?_; rintro e w' ⟨rfl, rfl⟩) | (go_at_call 22; refine (HO.out _).mono ?_; rintro e w' ⟨rfl, rfl⟩))
      go_ret
      exact ⟨rfl, (by repeat (first | exact Below.refl _ _ | refine Below.drew ?_ | refine below_drewN ?_ _ | refine Below.trans ?_ (Below.mono (by assumption) (by first | omega | (simp; omega) | (simp; done))) | refine Below.alloc ?_ (by first | omega | (simp; omega) | (simp; done)) _ | refine Below.setCell ?_ (by first | omega | (simp; omega) | (simp; done)) _))⟩
    · have hp := hlt hz
      clear hlt
      have hzb : (o == 0) = false := by simpa using hz
      have o1 : 1 ≤ o := by omega
      clear hz
      go_enter Tryd.func5, Tryd.ntmps5
      go_wp2_with fail
      refine (halved_yes _ hE.c).mono ?_
      rintro e w1 ⟨rfl, hb1⟩; obtain ⟨c1, f1⟩ := bcell hb1; have z1 := hb1.size; try simp at z1 c1 f1
      go_wp2_with (first | (go_at_call 19; refine (size_yes _ _ ⟨n0, n6⟩).mono ?_; rintro e w' ⟨rfl, rfl⟩) | (go_at_call 20; refine (isOrder_yes _ _ ⟨by omega, by omega⟩).mono ?_; rintro e w' ⟨rfl, rfl⟩) | (go_at_call 21; refine (pages_any _ _ (by omega) (by omega)).mono ?_; rintro e w' ⟨rfl, rfl⟩) | (go_at_call 22; refine (HO.out _).mono ?_; rintro e w' ⟨rfl, rfl⟩))
      go_ret
      exact ⟨rfl, (by repeat (first | exact Below.refl _ _ | refine Below.drew ?_ | refine below_drewN ?_ _ | refine Below.trans ?_ (Below.mono (by assumption) (by first | omega | (simp; omega) | (simp; done))) | refine Below.alloc ?_ (by first | omega | (simp; omega) | (simp; done)) _ | refine Below.setCell ?_ (by first | omega | (simp; omega) | (simp; done)) _))⟩

set_option maxHeartbeats 2000000 in
set_option maxRecDepth 100000 in
/-- no orders -/
theorem framesSizes_b {B : Nat} {ev : Nat → Addr} (n : Int) (w : World) (hE : Errs B ev w) (h6 : n < 0 ∨ 6 < n) :
    Calls Tryd.prog 5 #[.int .i64 n] w fun e w' => e = .returned (.bool true) ∧ Below w.heap.size w w' := by
  have hB := hE.size
  have H6 := Lib.hid h6
  by_cases n1 : n < 1 ∨ 64 < n
  · have N1 := Lib.hid n1
    by_cases hneg : n < 1
    all_goals
      clear n1 h6
      first | (have hd : decide (n < 1) = false := decide_eq_false hneg; have h64 := n_gt6 (n := n) (by have := N1.out; omega)) | skip
      go_enter Tryd.func5, Tryd.ntmps5
      go_wp2_with fail
      refine (halved_yes _ hE.c).mono ?_
      rintro e w1 ⟨rfl, hb1⟩; obtain ⟨c1, f1⟩ := bcell hb1; have z1 := hb1.size; try simp at z1 c1 f1
      have hE1 := hE.go hb1
      go_wp2_with fail
      refine (size_no _ _ hE1.c H6.out).mono ?_
      rintro e w2 ⟨rfl, hb2⟩; obtain ⟨c2, f2⟩ := bcell hb2; have z2 := hb2.size; try simp at z2 c2 f2
      have hE2 := hE1.go hb2
      go_wp2_with fail
      refine (isOrder_no _ _ H6.out).mono ?_
      rintro e w' ⟨rfl, rfl⟩
      go_wp2_with fail
      refine (coded_at 2 2 _ hE2 (by decide) rfl).mono ?_
      rintro e w3 ⟨rfl, hb3⟩; obtain ⟨c3, f3⟩ := bcell hb3; have z3 := hb3.size; try simp at z3 c3 f3
      have hE3 := hE2.go hb3
      go_wp2_with fail
      refine (orderOf_err _ _ hE3.c N1.out).mono ?_
      rintro e w4 ⟨rfl, hb4⟩; obtain ⟨c4, f4⟩ := bcell hb4; have z4 := hb4.size; try simp at z4 c4 f4
      have hE4 := hE3.go hb4
      go_wp2_with (first | (go_at_call 21; refine (pages_any _ _ (by omega) (by omega)).mono ?_; rintro e w' ⟨rfl, rfl⟩))
      refine (coded_at 2 2 _ hE4 (by decide) rfl).mono ?_
      rintro e w5 ⟨rfl, hb5⟩; obtain ⟨c5, f5⟩ := bcell hb5; have z5 := hb5.size; try simp at z5 c5 f5
      go_wp2
      go_ret
      exact ⟨rfl, (by repeat (first | exact Below.refl _ _ | refine Below.drew ?_ | refine below_drewN ?_ _ | refine Below.trans ?_ (Below.mono (by assumption) (by first | omega | (simp; omega) | (simp; done))) | refine Below.alloc ?_ (by first | omega | (simp; omega) | (simp; done)) _ | refine Below.setCell ?_ (by first | omega | (simp; omega) | (simp; done)) _))⟩
  · obtain ⟨o0, o6⟩ := ordI_bd n
    have hle := ordI_le (n := n) (by omega)
    have hlt := ordI_pred (n := n)
    have hok := fun w => orderOf_ok n w (by omega) (by omega)
    have h64 := n_le6 (n := n) (by omega)
    have hn : 1 ≤ n := by omega
    clear n1 h6
    generalize ordI n = o at *
    have HO := Lib.hid hok
    clear hok
    obtain ⟨t1, t2⟩ := sz_bd o0 o6
    have hd : decide (n < 1) = false := decide_eq_false (by omega)
    have hd6 : decide (sz 6 < n) = false := decide_eq_false (by omega)
    by_cases hz : o = 0
    · exfalso
      subst hz
      rw [sz0] at hle
      have := H6.out
      omega
    · have hp := hlt hz
      clear hlt
      have hzb : (o == 0) = false := by simpa using hz
      have o1 : 1 ≤ o := by omega
      clear hz
      go_enter Tryd.func5, Tryd.ntmps5
      go_wp2_with fail
      refine (halved_yes _ hE.c).mono ?_
      rintro e w1 ⟨rfl, hb1⟩; obtain ⟨c1, f1⟩ := bcell hb1; have z1 := hb1.size; try simp at z1 c1 f1
      have hE1 := hE.go hb1
      go_wp2_with fail
      refine (size_no _ _ hE1.c H6.out).mono ?_
      rintro e w2 ⟨rfl, hb2⟩; obtain ⟨c2, f2⟩ := bcell hb2; have z2 := hb2.size; try simp at z2 c2 f2
      have hE2 := hE1.go hb2
      go_wp2_with fail
      refine (isOrder_no _ _ H6.out).mono ?_
      rintro e w' ⟨rfl, rfl⟩
      go_wp2_with fail
      refine (coded_at 2 2 _ hE2 (by decide) rfl).mono ?_
      rintro e w3 ⟨rfl, hb3⟩; obtain ⟨c3, f3⟩ := bcell hb3; have z3 := hb3.size; try simp at z3 c3 f3
      go_wp2_with (first | (go_at_call 20; refine (isOrder_yes _ _ ⟨by omega, by omega⟩).mono ?_; rintro e w' ⟨rfl, rfl⟩) | (go_at_call 21; refine (pages_any _ _ (by omega) (by omega)).mono ?_; rintro e w' ⟨rfl, rfl⟩) | (go_at_call 22; refine (HO.out _).mono ?_; rintro e w' ⟨rfl, rfl⟩))
      go_ret
      exact ⟨rfl, (by repeat (first | exact Below.refl _ _ | refine Below.drew ?_ | refine below_drewN ?_ _ | refine Below.trans ?_ (Below.mono (by assumption) (by first | omega | (simp; omega) | (simp; done))) | refine Below.alloc ?_ (by first | omega | (simp; omega) | (simp; done)) _ | refine Below.setCell ?_ (by first | omega | (simp; omega) | (simp; done)) _))⟩

theorem framesSizes_walk {B : Nat} {ev : Nat → Addr} (n : Int) (w : World) (hE : Errs B ev w) :
    Calls Tryd.prog 5 #[.int .i64 n] w fun e w' => e = .returned (.bool true) ∧ Below w.heap.size w w' := by
  by_cases h6 : 0 ≤ n ∧ n ≤ 6
  · exact framesSizes_a n w hE h6.1 h6.2
  · exact framesSizes_b n w hE (by omega)
end Go.Proofs.YtcooflachcimbaaDoor
