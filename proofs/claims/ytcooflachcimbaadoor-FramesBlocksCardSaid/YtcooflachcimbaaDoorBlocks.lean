/- The statement FramesBlocks: its walk. -/
import Derived.Test.YtcooflachcimbaaDoorLawB
namespace Go.Proofs.YtcooflachcimbaaDoor
open Go.RowKit
set_option linter.unusedSimpArgs false

theorem coded_err {B : Nat} {ev : Nat → Addr} (c : Nat) (n : Int) (w : World) (hE : Errs B ev w) (i2 : c + 1 ≤ 10) (h : ((c + 1 : Nat) : Int) = n) :
    Calls Tryd.prog 17 #[.iface 80 (.pointer (some (ev (c + 1)))), .int .i64 n] w fun e w' => e = .returned (.bool true) ∧ Below w.heap.size w w' := coded_at (c + 1) n w hE i2 h
theorem bnext {w a b : World} (h : Below w.heap.size w a) (k : Below a.heap.size a b) : Below w.heap.size w b := h.trans (k.mono h.size)

set_option maxHeartbeats 4000000 in
set_option maxRecDepth 100000 in
/-- a block that has both: what stands behind the check -/
theorem framesBlocks_bad {B : Nat} {ev : Nat → Addr} (a k n : Int) (c : Nat) (w : World) (hE : Errs B ev w) (hc : aloneE a k = c + 1) :
    Calls Tryd.prog 6 #[.agg #[.int .i64 a, .int .i64 k], .int .i64 n] w fun e w' => e = .returned (.bool true) ∧ Below w.heap.size w w' := by
  have eb := eqB
  have nb := neqB
  have gb := guardB
  have hB := hE.size
  have hu : upE a k = c + 1 := by unfold upE; rw [if_neg (by omega)]; exact hc
  have hd : downE a k = c + 1 := by unfold downE; rw [if_neg (by omega)]; exact hc
  have hle : c + 1 ≤ 10 := by rw [← hc]; exact aloneE_le a k
  have HC := Lib.hid hc; have HU := Lib.hid hu; have HD := Lib.hid hd
  clear hc hu hd
  go_enter Tryd.func6, Tryd.ntmps6
  go_wp2_with fail
  refine (halved_yes _ (hE.c.below (by repeat (first | exact Below.refl _ _ | refine Below.drew ?_ | refine below_drewN ?_ _ | refine Below.trans ?_ (Below.mono (by assumption) (by first | omega | (simp; omega) | (simp; done))) | refine Below.alloc ?_ (by first | omega | (simp; omega) | (simp; done)) _ | refine Below.setCell ?_ (by first | omega | (simp; omega) | (simp; done)) _)))).mono ?_
  rintro e w1 ⟨rfl, hb1⟩; have z1 := hb1.size; try simp at z1
  have hb_b_1 : Below (w.heap.size + 1) (w.alloc (.cells #[.int .i64 a, .int .i64 k] 23)) w1 := (by repeat (first | exact Below.refl _ _ | refine Below.drew ?_ | refine below_drewN ?_ _ | refine Below.trans ?_ (Below.mono (by assumption) (by first | omega | (simp; omega) | (simp; done))) | refine Below.alloc ?_ (by first | omega | (simp; omega) | (simp; done)) _ | refine Below.setCell ?_ (by first | omega | (simp; omega) | (simp; done)) _))
  have k_b_1_0 : w1.cell? ⟨w.heap.size, 0, none⟩ = some (.int .i64 a) := (hb_b_1.cell (p := ⟨w.heap.size, 0, none⟩) (by simp)).trans (by rw [World.cell?_alloc_at _ _ _ _ (by simp)]; rfl)
  have k_b_1_1 : w1.cell? ⟨w.heap.size, 1, none⟩ = some (.int .i64 k) := (hb_b_1.cell (p := ⟨w.heap.size, 1, none⟩) (by simp)).trans (by rw [World.cell?_alloc_at _ _ _ _ (by simp)]; rfl)
  have m_b_1_0 : w1.frozen? ⟨w.heap.size, 0, none⟩ = false := (hb_b_1.frozen (p := ⟨w.heap.size, 0, none⟩) (by simp)).trans (World.frozen?_alloc_at _ _ _ _ (by simp))
  have m_b_1_1 : w1.frozen? ⟨w.heap.size, 1, none⟩ = false := (hb_b_1.frozen (p := ⟨w.heap.size, 1, none⟩) (by simp)).trans (World.frozen?_alloc_at _ _ _ _ (by simp))
  have lt_b_1 : w.heap.size < w1.heap.size := by have := hb_b_1.size; simp at this; omega
  clear hb_b_1
  have hE1 : Errs B ev w1 := hE.below (by repeat (first | exact Below.refl _ _ | refine Below.drew ?_ | refine below_drewN ?_ _ | refine Below.trans ?_ (Below.mono (by assumption) (by first | omega | (simp; omega) | (simp; done))) | refine Below.alloc ?_ (by first | omega | (simp; omega) | (simp; done)) _ | refine Below.setCell ?_ (by first | omega | (simp; omega) | (simp; done)) _))
  go_wp2_with fail
  refine wp_region_behind (by kernel_rfl) (by kernel_rfl) ?_
  repeat (go_big_quiet_step (first | (go_at_call 23; exact Calls.behind (check_any _ _ _ _ (hE1.c.below (Below.mono (Behind.h _) hE1.size)))) | (go_at_call 24; exact Calls.behind (blockError_any _ _ _ _)) | (go_at_call 17; exact Calls.behind (coded_at _ _ _ (hE1.below (Below.mono (Behind.h _) hE1.size)) (checkE_le _ _ _) rfl))))
  refine wpQuiet_nil ?_
  intro w2 hw'
  have hb2 := behind_out hw'
  clear hw'
  have z2 := hb2.size; try simp at z2
  have hE2 : Errs B ev w2 := hE1.go hb2
  have hb_b_2 : Below (w.heap.size + 1) (w.alloc (.cells #[.int .i64 a, .int .i64 k] 23)) w2 := (by repeat (first | exact Below.refl _ _ | refine Below.drew ?_ | refine below_drewN ?_ _ | refine Below.trans ?_ (Below.mono (by assumption) (by first | omega | (simp; omega) | (simp; done))) | refine Below.alloc ?_ (by first | omega | (simp; omega) | (simp; done)) _ | refine Below.setCell ?_ (by first | omega | (simp; omega) | (simp; done)) _))
  have k_b_2_0 : w2.cell? ⟨w.heap.size, 0, none⟩ = some (.int .i64 a) := (hb_b_2.cell (p := ⟨w.heap.size, 0, none⟩) (by simp)).trans (by rw [World.cell?_alloc_at _ _ _ _ (by simp)]; rfl)
  have k_b_2_1 : w2.cell? ⟨w.heap.size, 1, none⟩ = some (.int .i64 k) := (hb_b_2.cell (p := ⟨w.heap.size, 1, none⟩) (by simp)).trans (by rw [World.cell?_alloc_at _ _ _ _ (by simp)]; rfl)
  have m_b_2_0 : w2.frozen? ⟨w.heap.size, 0, none⟩ = false := (hb_b_2.frozen (p := ⟨w.heap.size, 0, none⟩) (by simp)).trans (World.frozen?_alloc_at _ _ _ _ (by simp))
  have m_b_2_1 : w2.frozen? ⟨w.heap.size, 1, none⟩ = false := (hb_b_2.frozen (p := ⟨w.heap.size, 1, none⟩) (by simp)).trans (World.frozen?_alloc_at _ _ _ _ (by simp))
  have lt_b_2 : w.heap.size < w2.heap.size := by have := hb_b_2.size; simp at this; omega
  clear hb_b_2
  go_wp2_with fail
  refine (aloneError_any _ _ _).mono ?_
  rintro e w3 ⟨rfl, hb3⟩; have z3 := hb3.size; try simp at z3
  have hb_b_3 : Below (w.heap.size + 1) (w.alloc (.cells #[.int .i64 a, .int .i64 k] 23)) w3 := (by repeat (first | exact Below.refl _ _ | refine Below.drew ?_ | refine below_drewN ?_ _ | refine Below.trans ?_ (Below.mono (by assumption) (by first | omega | (simp; omega) | (simp; done))) | refine Below.alloc ?_ (by first | omega | (simp; omega) | (simp; done)) _ | refine Below.setCell ?_ (by first | omega | (simp; omega) | (simp; done)) _))
  have k_b_3_0 : w3.cell? ⟨w.heap.size, 0, none⟩ = some (.int .i64 a) := (hb_b_3.cell (p := ⟨w.heap.size, 0, none⟩) (by simp)).trans (by rw [World.cell?_alloc_at _ _ _ _ (by simp)]; rfl)
  have k_b_3_1 : w3.cell? ⟨w.heap.size, 1, none⟩ = some (.int .i64 k) := (hb_b_3.cell (p := ⟨w.heap.size, 1, none⟩) (by simp)).trans (by rw [World.cell?_alloc_at _ _ _ _ (by simp)]; rfl)
  have m_b_3_0 : w3.frozen? ⟨w.heap.size, 0, none⟩ = false := (hb_b_3.frozen (p := ⟨w.heap.size, 0, none⟩) (by simp)).trans (World.frozen?_alloc_at _ _ _ _ (by simp))
  have m_b_3_1 : w3.frozen? ⟨w.heap.size, 1, none⟩ = false := (hb_b_3.frozen (p := ⟨w.heap.size, 1, none⟩) (by simp)).trans (World.frozen?_alloc_at _ _ _ _ (by simp))
  have lt_b_3 : w.heap.size < w3.heap.size := by have := hb_b_3.size; simp at this; omega
  clear hb_b_3
  have hE3 : Errs B ev w3 := hE2.go hb3
  rw [HC.out]
  go_wp2_with fail
  refine (buddy_err a k c _ hE3.c HU.out).mono ?_
  rintro e w4 ⟨rfl, hb4⟩; have z4 := hb4.size; try simp at z4
  have hb_b_4 : Below (w.heap.size + 1) (w.alloc (.cells #[.int .i64 a, .int .i64 k] 23)) w4 := (by repeat (first | exact Below.refl _ _ | refine Below.drew ?_ | refine below_drewN ?_ _ | refine Below.trans ?_ (Below.mono (by assumption) (by first | omega | (simp; omega) | (simp; done))) | refine Below.alloc ?_ (by first | omega | (simp; omega) | (simp; done)) _ | refine Below.setCell ?_ (by first | omega | (simp; omega) | (simp; done)) _))
  have k_b_4_0 : w4.cell? ⟨w.heap.size, 0, none⟩ = some (.int .i64 a) := (hb_b_4.cell (p := ⟨w.heap.size, 0, none⟩) (by simp)).trans (by rw [World.cell?_alloc_at _ _ _ _ (by simp)]; rfl)
  have k_b_4_1 : w4.cell? ⟨w.heap.size, 1, none⟩ = some (.int .i64 k) := (hb_b_4.cell (p := ⟨w.heap.size, 1, none⟩) (by simp)).trans (by rw [World.cell?_alloc_at _ _ _ _ (by simp)]; rfl)
  have m_b_4_0 : w4.frozen? ⟨w.heap.size, 0, none⟩ = false := (hb_b_4.frozen (p := ⟨w.heap.size, 0, none⟩) (by simp)).trans (World.frozen?_alloc_at _ _ _ _ (by simp))
  have m_b_4_1 : w4.frozen? ⟨w.heap.size, 1, none⟩ = false := (hb_b_4.frozen (p := ⟨w.heap.size, 1, none⟩) (by simp)).trans (World.frozen?_alloc_at _ _ _ _ (by simp))
  have lt_b_4 : w.heap.size < w4.heap.size := by have := hb_b_4.size; simp at this; omega
  clear hb_b_4
  have hE4 : Errs B ev w4 := hE3.go hb4
  go_wp2_with fail
  refine (parent_err a k c _ (hE4.c.below (by repeat (first | exact Below.refl _ _ | refine Below.drew ?_ | refine below_drewN ?_ _ | refine Below.trans ?_ (Below.mono (by assumption) (by first | omega | (simp; omega) | (simp; done))) | refine Below.alloc ?_ (by first | omega | (simp; omega) | (simp; done)) _ | refine Below.setCell ?_ (by first | omega | (simp; omega) | (simp; done)) _))) HU.out).mono ?_
  rintro e w5 ⟨rfl, hb5⟩; have z5 := hb5.size; try simp at z5
  have hb_b_5 : Below (w.heap.size + 1) (w.alloc (.cells #[.int .i64 a, .int .i64 k] 23)) w5 := (by repeat (first | exact Below.refl _ _ | refine Below.drew ?_ | refine below_drewN ?_ _ | refine Below.trans ?_ (Below.mono (by assumption) (by first | omega | (simp; omega) | (simp; done))) | refine Below.alloc ?_ (by first | omega | (simp; omega) | (simp; done)) _ | refine Below.setCell ?_ (by first | omega | (simp; omega) | (simp; done)) _))
  have k_b_5_0 : w5.cell? ⟨w.heap.size, 0, none⟩ = some (.int .i64 a) := (hb_b_5.cell (p := ⟨w.heap.size, 0, none⟩) (by simp)).trans (by rw [World.cell?_alloc_at _ _ _ _ (by simp)]; rfl)
  have k_b_5_1 : w5.cell? ⟨w.heap.size, 1, none⟩ = some (.int .i64 k) := (hb_b_5.cell (p := ⟨w.heap.size, 1, none⟩) (by simp)).trans (by rw [World.cell?_alloc_at _ _ _ _ (by simp)]; rfl)
  have m_b_5_0 : w5.frozen? ⟨w.heap.size, 0, none⟩ = false := (hb_b_5.frozen (p := ⟨w.heap.size, 0, none⟩) (by simp)).trans (World.frozen?_alloc_at _ _ _ _ (by simp))
  have m_b_5_1 : w5.frozen? ⟨w.heap.size, 1, none⟩ = false := (hb_b_5.frozen (p := ⟨w.heap.size, 1, none⟩) (by simp)).trans (World.frozen?_alloc_at _ _ _ _ (by simp))
  have lt_b_5 : w.heap.size < w5.heap.size := by have := hb_b_5.size; simp at this; omega
  clear hb_b_5
  have hb_x_5 : Below (w4.heap.size + 1) (w4.alloc (.cells #[.int .i64 0, .int .i64 0] 23)) w5 := (by repeat (first | exact Below.refl _ _ | refine Below.drew ?_ | refine below_drewN ?_ _ | refine Below.trans ?_ (Below.mono (by assumption) (by first | omega | (simp; omega) | (simp; done))) | refine Below.alloc ?_ (by first | omega | (simp; omega) | (simp; done)) _ | refine Below.setCell ?_ (by first | omega | (simp; omega) | (simp; done)) _))
  have k_x_5_0 : w5.cell? ⟨w4.heap.size, 0, none⟩ = some (.int .i64 0) := (hb_x_5.cell (p := ⟨w4.heap.size, 0, none⟩) (by simp)).trans (by rw [World.cell?_alloc_at _ _ _ _ (by simp)]; rfl)
  have k_x_5_1 : w5.cell? ⟨w4.heap.size, 1, none⟩ = some (.int .i64 0) := (hb_x_5.cell (p := ⟨w4.heap.size, 1, none⟩) (by simp)).trans (by rw [World.cell?_alloc_at _ _ _ _ (by simp)]; rfl)
  have m_x_5_0 : w5.frozen? ⟨w4.heap.size, 0, none⟩ = false := (hb_x_5.frozen (p := ⟨w4.heap.size, 0, none⟩) (by simp)).trans (World.frozen?_alloc_at _ _ _ _ (by simp))
  have m_x_5_1 : w5.frozen? ⟨w4.heap.size, 1, none⟩ = false := (hb_x_5.frozen (p := ⟨w4.heap.size, 1, none⟩) (by simp)).trans (World.frozen?_alloc_at _ _ _ _ (by simp))
  have lt_x_5 : w4.heap.size < w5.heap.size := by have := hb_x_5.size; simp at this; omega
  clear hb_x_5
  have hE5 : Errs B ev w5 := hE4.below (by repeat (first | exact Below.refl _ _ | refine Below.drew ?_ | refine below_drewN ?_ _ | refine Below.trans ?_ (Below.mono (by assumption) (by first | omega | (simp; omega) | (simp; done))) | refine Below.alloc ?_ (by first | omega | (simp; omega) | (simp; done)) _ | refine Below.setCell ?_ (by first | omega | (simp; omega) | (simp; done)) _))
  go_wp2_with fail
  refine (halves_err a k c _ (hE5.c.below (by repeat (first | exact Below.refl _ _ | refine Below.drew ?_ | refine below_drewN ?_ _ | refine Below.trans ?_ (Below.mono (by assumption) (by first | omega | (simp; omega) | (simp; done))) | refine Below.alloc ?_ (by first | omega | (simp; omega) | (simp; done)) _ | refine Below.setCell ?_ (by first | omega | (simp; omega) | (simp; done)) _))) HD.out).mono ?_
  rintro e w6 ⟨rfl, hb6⟩; have z6 := hb6.size; try simp at z6
  have hb_x_6 : Below (w4.heap.size + 1) (w4.alloc (.cells #[.int .i64 0, .int .i64 0] 23)) w6 := (by repeat (first | exact Below.refl _ _ | refine Below.drew ?_ | refine below_drewN ?_ _ | refine Below.trans ?_ (Below.mono (by assumption) (by first | omega | (simp; omega) | (simp; done))) | refine Below.alloc ?_ (by first | omega | (simp; omega) | (simp; done)) _ | refine Below.setCell ?_ (by first | omega | (simp; omega) | (simp; done)) _))
  have k_x_6_0 : w6.cell? ⟨w4.heap.size, 0, none⟩ = some (.int .i64 0) := (hb_x_6.cell (p := ⟨w4.heap.size, 0, none⟩) (by simp)).trans (by rw [World.cell?_alloc_at _ _ _ _ (by simp)]; rfl)
  have k_x_6_1 : w6.cell? ⟨w4.heap.size, 1, none⟩ = some (.int .i64 0) := (hb_x_6.cell (p := ⟨w4.heap.size, 1, none⟩) (by simp)).trans (by rw [World.cell?_alloc_at _ _ _ _ (by simp)]; rfl)
  have m_x_6_0 : w6.frozen? ⟨w4.heap.size, 0, none⟩ = false := (hb_x_6.frozen (p := ⟨w4.heap.size, 0, none⟩) (by simp)).trans (World.frozen?_alloc_at _ _ _ _ (by simp))
  have m_x_6_1 : w6.frozen? ⟨w4.heap.size, 1, none⟩ = false := (hb_x_6.frozen (p := ⟨w4.heap.size, 1, none⟩) (by simp)).trans (World.frozen?_alloc_at _ _ _ _ (by simp))
  have lt_x_6 : w4.heap.size < w6.heap.size := by have := hb_x_6.size; simp at this; omega
  clear hb_x_6
  have hb_p_6 : Below (w5.heap.size + 1) (w5.alloc (.cells #[.int .i64 0, .int .i64 0] 23)) w6 := (by repeat (first | exact Below.refl _ _ | refine Below.drew ?_ | refine below_drewN ?_ _ | refine Below.trans ?_ (Below.mono (by assumption) (by first | omega | (simp; omega) | (simp; done))) | refine Below.alloc ?_ (by first | omega | (simp; omega) | (simp; done)) _ | refine Below.setCell ?_ (by first | omega | (simp; omega) | (simp; done)) _))
  have k_p_6_0 : w6.cell? ⟨w5.heap.size, 0, none⟩ = some (.int .i64 0) := (hb_p_6.cell (p := ⟨w5.heap.size, 0, none⟩) (by simp)).trans (by rw [World.cell?_alloc_at _ _ _ _ (by simp)]; rfl)
  have k_p_6_1 : w6.cell? ⟨w5.heap.size, 1, none⟩ = some (.int .i64 0) := (hb_p_6.cell (p := ⟨w5.heap.size, 1, none⟩) (by simp)).trans (by rw [World.cell?_alloc_at _ _ _ _ (by simp)]; rfl)
  have m_p_6_0 : w6.frozen? ⟨w5.heap.size, 0, none⟩ = false := (hb_p_6.frozen (p := ⟨w5.heap.size, 0, none⟩) (by simp)).trans (World.frozen?_alloc_at _ _ _ _ (by simp))
  have m_p_6_1 : w6.frozen? ⟨w5.heap.size, 1, none⟩ = false := (hb_p_6.frozen (p := ⟨w5.heap.size, 1, none⟩) (by simp)).trans (World.frozen?_alloc_at _ _ _ _ (by simp))
  have lt_p_6 : w5.heap.size < w6.heap.size := by have := hb_p_6.size; simp at this; omega
  clear hb_p_6
  have hE6 : Errs B ev w6 := hE5.below (by repeat (first | exact Below.refl _ _ | refine Below.drew ?_ | refine below_drewN ?_ _ | refine Below.trans ?_ (Below.mono (by assumption) (by first | omega | (simp; omega) | (simp; done))) | refine Below.alloc ?_ (by first | omega | (simp; omega) | (simp; done)) _ | refine Below.setCell ?_ (by first | omega | (simp; omega) | (simp; done)) _))
  go_wp2_with fail
  refine (coded_err c _ _ (hE6.below (by repeat (first | exact Below.refl _ _ | refine Below.drew ?_ | refine below_drewN ?_ _ | refine Below.trans ?_ (Below.mono (by assumption) (by first | omega | (simp; omega) | (simp; done))) | refine Below.alloc ?_ (by first | omega | (simp; omega) | (simp; done)) _ | refine Below.setCell ?_ (by first | omega | (simp; omega) | (simp; done)) _))) hle (by omega)).mono ?_
  rintro e w7 ⟨rfl, hb7⟩; have z7 := hb7.size; try simp at z7
  have hb_x_7 : Below (w4.heap.size + 1) (w4.alloc (.cells #[.int .i64 0, .int .i64 0] 23)) w7 := (by repeat (first | exact Below.refl _ _ | refine Below.drew ?_ | refine below_drewN ?_ _ | refine Below.trans ?_ (Below.mono (by assumption) (by first | omega | (simp; omega) | (simp; done))) | refine Below.alloc ?_ (by first | omega | (simp; omega) | (simp; done)) _ | refine Below.setCell ?_ (by first | omega | (simp; omega) | (simp; done)) _))
  have k_x_7_0 : w7.cell? ⟨w4.heap.size, 0, none⟩ = some (.int .i64 0) := (hb_x_7.cell (p := ⟨w4.heap.size, 0, none⟩) (by simp)).trans (by rw [World.cell?_alloc_at _ _ _ _ (by simp)]; rfl)
  have k_x_7_1 : w7.cell? ⟨w4.heap.size, 1, none⟩ = some (.int .i64 0) := (hb_x_7.cell (p := ⟨w4.heap.size, 1, none⟩) (by simp)).trans (by rw [World.cell?_alloc_at _ _ _ _ (by simp)]; rfl)
  have m_x_7_0 : w7.frozen? ⟨w4.heap.size, 0, none⟩ = false := (hb_x_7.frozen (p := ⟨w4.heap.size, 0, none⟩) (by simp)).trans (World.frozen?_alloc_at _ _ _ _ (by simp))
  have m_x_7_1 : w7.frozen? ⟨w4.heap.size, 1, none⟩ = false := (hb_x_7.frozen (p := ⟨w4.heap.size, 1, none⟩) (by simp)).trans (World.frozen?_alloc_at _ _ _ _ (by simp))
  have lt_x_7 : w4.heap.size < w7.heap.size := by have := hb_x_7.size; simp at this; omega
  clear hb_x_7
  have hb_p_7 : Below (w5.heap.size + 1) (w5.alloc (.cells #[.int .i64 0, .int .i64 0] 23)) w7 := (by repeat (first | exact Below.refl _ _ | refine Below.drew ?_ | refine below_drewN ?_ _ | refine Below.trans ?_ (Below.mono (by assumption) (by first | omega | (simp; omega) | (simp; done))) | refine Below.alloc ?_ (by first | omega | (simp; omega) | (simp; done)) _ | refine Below.setCell ?_ (by first | omega | (simp; omega) | (simp; done)) _))
  have k_p_7_0 : w7.cell? ⟨w5.heap.size, 0, none⟩ = some (.int .i64 0) := (hb_p_7.cell (p := ⟨w5.heap.size, 0, none⟩) (by simp)).trans (by rw [World.cell?_alloc_at _ _ _ _ (by simp)]; rfl)
  have k_p_7_1 : w7.cell? ⟨w5.heap.size, 1, none⟩ = some (.int .i64 0) := (hb_p_7.cell (p := ⟨w5.heap.size, 1, none⟩) (by simp)).trans (by rw [World.cell?_alloc_at _ _ _ _ (by simp)]; rfl)
  have m_p_7_0 : w7.frozen? ⟨w5.heap.size, 0, none⟩ = false := (hb_p_7.frozen (p := ⟨w5.heap.size, 0, none⟩) (by simp)).trans (World.frozen?_alloc_at _ _ _ _ (by simp))
  have m_p_7_1 : w7.frozen? ⟨w5.heap.size, 1, none⟩ = false := (hb_p_7.frozen (p := ⟨w5.heap.size, 1, none⟩) (by simp)).trans (World.frozen?_alloc_at _ _ _ _ (by simp))
  have lt_p_7 : w5.heap.size < w7.heap.size := by have := hb_p_7.size; simp at this; omega
  clear hb_p_7
  have hb_l_7 : Below (w6.heap.size + 1) (w6.alloc (.cells #[.int .i64 0, .int .i64 0] 23)) w7 := (by repeat (first | exact Below.refl _ _ | refine Below.drew ?_ | refine below_drewN ?_ _ | refine Below.trans ?_ (Below.mono (by assumption) (by first | omega | (simp; omega) | (simp; done))) | refine Below.alloc ?_ (by first | omega | (simp; omega) | (simp; done)) _ | refine Below.setCell ?_ (by first | omega | (simp; omega) | (simp; done)) _))
  have k_l_7_0 : w7.cell? ⟨w6.heap.size, 0, none⟩ = some (.int .i64 0) := (hb_l_7.cell (p := ⟨w6.heap.size, 0, none⟩) (by simp)).trans (by rw [World.cell?_alloc_at _ _ _ _ (by simp)]; rfl)
  have k_l_7_1 : w7.cell? ⟨w6.heap.size, 1, none⟩ = some (.int .i64 0) := (hb_l_7.cell (p := ⟨w6.heap.size, 1, none⟩) (by simp)).trans (by rw [World.cell?_alloc_at _ _ _ _ (by simp)]; rfl)
  have m_l_7_0 : w7.frozen? ⟨w6.heap.size, 0, none⟩ = false := (hb_l_7.frozen (p := ⟨w6.heap.size, 0, none⟩) (by simp)).trans (World.frozen?_alloc_at _ _ _ _ (by simp))
  have m_l_7_1 : w7.frozen? ⟨w6.heap.size, 1, none⟩ = false := (hb_l_7.frozen (p := ⟨w6.heap.size, 1, none⟩) (by simp)).trans (World.frozen?_alloc_at _ _ _ _ (by simp))
  have lt_l_7 : w6.heap.size < w7.heap.size := by have := hb_l_7.size; simp at this; omega
  clear hb_l_7
  have hb_h_7 : Below (w6.heap.size + 1 + 1) ((w6.alloc (.cells #[.int .i64 0, .int .i64 0] 23)).alloc (.cells #[.int .i64 0, .int .i64 0] 23)) w7 := (by repeat (first | exact Below.refl _ _ | refine Below.drew ?_ | refine below_drewN ?_ _ | refine Below.trans ?_ (Below.mono (by assumption) (by first | omega | (simp; omega) | (simp; done))) | refine Below.alloc ?_ (by first | omega | (simp; omega) | (simp; done)) _ | refine Below.setCell ?_ (by first | omega | (simp; omega) | (simp; done)) _))
  have k_h_7_0 : w7.cell? ⟨w6.heap.size + 1, 0, none⟩ = some (.int .i64 0) := (hb_h_7.cell (p := ⟨w6.heap.size + 1, 0, none⟩) (by simp)).trans (by rw [World.cell?_alloc_at _ _ _ _ (by simp)]; rfl)
  have k_h_7_1 : w7.cell? ⟨w6.heap.size + 1, 1, none⟩ = some (.int .i64 0) := (hb_h_7.cell (p := ⟨w6.heap.size + 1, 1, none⟩) (by simp)).trans (by rw [World.cell?_alloc_at _ _ _ _ (by simp)]; rfl)
  have m_h_7_0 : w7.frozen? ⟨w6.heap.size + 1, 0, none⟩ = false := (hb_h_7.frozen (p := ⟨w6.heap.size + 1, 0, none⟩) (by simp)).trans (World.frozen?_alloc_at _ _ _ _ (by simp))
  have m_h_7_1 : w7.frozen? ⟨w6.heap.size + 1, 1, none⟩ = false := (hb_h_7.frozen (p := ⟨w6.heap.size + 1, 1, none⟩) (by simp)).trans (World.frozen?_alloc_at _ _ _ _ (by simp))
  have lt_h_7 : w6.heap.size + 1 < w7.heap.size := by have := hb_h_7.size; simp at this; omega
  clear hb_h_7
  have hb_none_7 : Below (w6.heap.size + 1 + 1 + 1) (((w6.alloc (.cells #[.int .i64 0, .int .i64 0] 23)).alloc (.cells #[.int .i64 0, .int .i64 0] 23)).alloc (.cells #[.int .i64 0, .int .i64 0] 23)) w7 := (by repeat (first | exact Below.refl _ _ | refine Below.drew ?_ | refine below_drewN ?_ _ | refine Below.trans ?_ (Below.mono (by assumption) (by first | omega | (simp; omega) | (simp; done))) | refine Below.alloc ?_ (by first | omega | (simp; omega) | (simp; done)) _ | refine Below.setCell ?_ (by first | omega | (simp; omega) | (simp; done)) _))
  have k_none_7_0 : w7.cell? ⟨w6.heap.size + 1 + 1, 0, none⟩ = some (.int .i64 0) := (hb_none_7.cell (p := ⟨w6.heap.size + 1 + 1, 0, none⟩) (by simp)).trans (by rw [World.cell?_alloc_at _ _ _ _ (by simp)]; rfl)
  have k_none_7_1 : w7.cell? ⟨w6.heap.size + 1 + 1, 1, none⟩ = some (.int .i64 0) := (hb_none_7.cell (p := ⟨w6.heap.size + 1 + 1, 1, none⟩) (by simp)).trans (by rw [World.cell?_alloc_at _ _ _ _ (by simp)]; rfl)
  have m_none_7_0 : w7.frozen? ⟨w6.heap.size + 1 + 1, 0, none⟩ = false := (hb_none_7.frozen (p := ⟨w6.heap.size + 1 + 1, 0, none⟩) (by simp)).trans (World.frozen?_alloc_at _ _ _ _ (by simp))
  have m_none_7_1 : w7.frozen? ⟨w6.heap.size + 1 + 1, 1, none⟩ = false := (hb_none_7.frozen (p := ⟨w6.heap.size + 1 + 1, 1, none⟩) (by simp)).trans (World.frozen?_alloc_at _ _ _ _ (by simp))
  have lt_none_7 : w6.heap.size + 1 + 1 < w7.heap.size := by have := hb_none_7.size; simp at this; omega
  clear hb_none_7
  have hE7 : Errs B ev w7 := hE6.below (by repeat (first | exact Below.refl _ _ | refine Below.drew ?_ | refine below_drewN ?_ _ | refine Below.trans ?_ (Below.mono (by assumption) (by first | omega | (simp; omega) | (simp; done))) | refine Below.alloc ?_ (by first | omega | (simp; omega) | (simp; done)) _ | refine Below.setCell ?_ (by first | omega | (simp; omega) | (simp; done)) _))
  go_wp2_with fail
  refine (coded_err c _ _ hE7 hle (by omega)).mono ?_
  rintro e w8 ⟨rfl, hb8⟩; have z8 := hb8.size; try simp at z8
  have hb_x_8 : Below (w4.heap.size + 1) (w4.alloc (.cells #[.int .i64 0, .int .i64 0] 23)) w8 := (by repeat (first | exact Below.refl _ _ | refine Below.drew ?_ | refine below_drewN ?_ _ | refine Below.trans ?_ (Below.mono (by assumption) (by first | omega | (simp; omega) | (simp; done))) | refine Below.alloc ?_ (by first | omega | (simp; omega) | (simp; done)) _ | refine Below.setCell ?_ (by first | omega | (simp; omega) | (simp; done)) _))
  have k_x_8_0 : w8.cell? ⟨w4.heap.size, 0, none⟩ = some (.int .i64 0) := (hb_x_8.cell (p := ⟨w4.heap.size, 0, none⟩) (by simp)).trans (by rw [World.cell?_alloc_at _ _ _ _ (by simp)]; rfl)
  have k_x_8_1 : w8.cell? ⟨w4.heap.size, 1, none⟩ = some (.int .i64 0) := (hb_x_8.cell (p := ⟨w4.heap.size, 1, none⟩) (by simp)).trans (by rw [World.cell?_alloc_at _ _ _ _ (by simp)]; rfl)
  have m_x_8_0 : w8.frozen? ⟨w4.heap.size, 0, none⟩ = false := (hb_x_8.frozen (p := ⟨w4.heap.size, 0, none⟩) (by simp)).trans (World.frozen?_alloc_at _ _ _ _ (by simp))
  have m_x_8_1 : w8.frozen? ⟨w4.heap.size, 1, none⟩ = false := (hb_x_8.frozen (p := ⟨w4.heap.size, 1, none⟩) (by simp)).trans (World.frozen?_alloc_at _ _ _ _ (by simp))
  have lt_x_8 : w4.heap.size < w8.heap.size := by have := hb_x_8.size; simp at this; omega
  clear hb_x_8
  have hb_p_8 : Below (w5.heap.size + 1) (w5.alloc (.cells #[.int .i64 0, .int .i64 0] 23)) w8 := (by repeat (first | exact Below.refl _ _ | refine Below.drew ?_ | refine below_drewN ?_ _ | refine Below.trans ?_ (Below.mono (by assumption) (by first | omega | (simp; omega) | (simp; done))) | refine Below.alloc ?_ (by first | omega | (simp; omega) | (simp; done)) _ | refine Below.setCell ?_ (by first | omega | (simp; omega) | (simp; done)) _))
  have k_p_8_0 : w8.cell? ⟨w5.heap.size, 0, none⟩ = some (.int .i64 0) := (hb_p_8.cell (p := ⟨w5.heap.size, 0, none⟩) (by simp)).trans (by rw [World.cell?_alloc_at _ _ _ _ (by simp)]; rfl)
  have k_p_8_1 : w8.cell? ⟨w5.heap.size, 1, none⟩ = some (.int .i64 0) := (hb_p_8.cell (p := ⟨w5.heap.size, 1, none⟩) (by simp)).trans (by rw [World.cell?_alloc_at _ _ _ _ (by simp)]; rfl)
  have m_p_8_0 : w8.frozen? ⟨w5.heap.size, 0, none⟩ = false := (hb_p_8.frozen (p := ⟨w5.heap.size, 0, none⟩) (by simp)).trans (World.frozen?_alloc_at _ _ _ _ (by simp))
  have m_p_8_1 : w8.frozen? ⟨w5.heap.size, 1, none⟩ = false := (hb_p_8.frozen (p := ⟨w5.heap.size, 1, none⟩) (by simp)).trans (World.frozen?_alloc_at _ _ _ _ (by simp))
  have lt_p_8 : w5.heap.size < w8.heap.size := by have := hb_p_8.size; simp at this; omega
  clear hb_p_8
  have hb_l_8 : Below (w6.heap.size + 1) (w6.alloc (.cells #[.int .i64 0, .int .i64 0] 23)) w8 := (by repeat (first | exact Below.refl _ _ | refine Below.drew ?_ | refine below_drewN ?_ _ | refine Below.trans ?_ (Below.mono (by assumption) (by first | omega | (simp; omega) | (simp; done))) | refine Below.alloc ?_ (by first | omega | (simp; omega) | (simp; done)) _ | refine Below.setCell ?_ (by first | omega | (simp; omega) | (simp; done)) _))
  have k_l_8_0 : w8.cell? ⟨w6.heap.size, 0, none⟩ = some (.int .i64 0) := (hb_l_8.cell (p := ⟨w6.heap.size, 0, none⟩) (by simp)).trans (by rw [World.cell?_alloc_at _ _ _ _ (by simp)]; rfl)
  have k_l_8_1 : w8.cell? ⟨w6.heap.size, 1, none⟩ = some (.int .i64 0) := (hb_l_8.cell (p := ⟨w6.heap.size, 1, none⟩) (by simp)).trans (by rw [World.cell?_alloc_at _ _ _ _ (by simp)]; rfl)
  have m_l_8_0 : w8.frozen? ⟨w6.heap.size, 0, none⟩ = false := (hb_l_8.frozen (p := ⟨w6.heap.size, 0, none⟩) (by simp)).trans (World.frozen?_alloc_at _ _ _ _ (by simp))
  have m_l_8_1 : w8.frozen? ⟨w6.heap.size, 1, none⟩ = false := (hb_l_8.frozen (p := ⟨w6.heap.size, 1, none⟩) (by simp)).trans (World.frozen?_alloc_at _ _ _ _ (by simp))
  have lt_l_8 : w6.heap.size < w8.heap.size := by have := hb_l_8.size; simp at this; omega
  clear hb_l_8
  have hb_h_8 : Below (w6.heap.size + 1 + 1) ((w6.alloc (.cells #[.int .i64 0, .int .i64 0] 23)).alloc (.cells #[.int .i64 0, .int .i64 0] 23)) w8 := (by repeat (first | exact Below.refl _ _ | refine Below.drew ?_ | refine below_drewN ?_ _ | refine Below.trans ?_ (Below.mono (by assumption) (by first | omega | (simp; omega) | (simp; done))) | refine Below.alloc ?_ (by first | omega | (simp; omega) | (simp; done)) _ | refine Below.setCell ?_ (by first | omega | (simp; omega) | (simp; done)) _))
  have k_h_8_0 : w8.cell? ⟨w6.heap.size + 1, 0, none⟩ = some (.int .i64 0) := (hb_h_8.cell (p := ⟨w6.heap.size + 1, 0, none⟩) (by simp)).trans (by rw [World.cell?_alloc_at _ _ _ _ (by simp)]; rfl)
  have k_h_8_1 : w8.cell? ⟨w6.heap.size + 1, 1, none⟩ = some (.int .i64 0) := (hb_h_8.cell (p := ⟨w6.heap.size + 1, 1, none⟩) (by simp)).trans (by rw [World.cell?_alloc_at _ _ _ _ (by simp)]; rfl)
  have m_h_8_0 : w8.frozen? ⟨w6.heap.size + 1, 0, none⟩ = false := (hb_h_8.frozen (p := ⟨w6.heap.size + 1, 0, none⟩) (by simp)).trans (World.frozen?_alloc_at _ _ _ _ (by simp))
  have m_h_8_1 : w8.frozen? ⟨w6.heap.size + 1, 1, none⟩ = false := (hb_h_8.frozen (p := ⟨w6.heap.size + 1, 1, none⟩) (by simp)).trans (World.frozen?_alloc_at _ _ _ _ (by simp))
  have lt_h_8 : w6.heap.size + 1 < w8.heap.size := by have := hb_h_8.size; simp at this; omega
  clear hb_h_8
  have hb_none_8 : Below (w6.heap.size + 1 + 1 + 1) (((w6.alloc (.cells #[.int .i64 0, .int .i64 0] 23)).alloc (.cells #[.int .i64 0, .int .i64 0] 23)).alloc (.cells #[.int .i64 0, .int .i64 0] 23)) w8 := (by repeat (first | exact Below.refl _ _ | refine Below.drew ?_ | refine below_drewN ?_ _ | refine Below.trans ?_ (Below.mono (by assumption) (by first | omega | (simp; omega) | (simp; done))) | refine Below.alloc ?_ (by first | omega | (simp; omega) | (simp; done)) _ | refine Below.setCell ?_ (by first | omega | (simp; omega) | (simp; done)) _))
  have k_none_8_0 : w8.cell? ⟨w6.heap.size + 1 + 1, 0, none⟩ = some (.int .i64 0) := (hb_none_8.cell (p := ⟨w6.heap.size + 1 + 1, 0, none⟩) (by simp)).trans (by rw [World.cell?_alloc_at _ _ _ _ (by simp)]; rfl)
  have k_none_8_1 : w8.cell? ⟨w6.heap.size + 1 + 1, 1, none⟩ = some (.int .i64 0) := (hb_none_8.cell (p := ⟨w6.heap.size + 1 + 1, 1, none⟩) (by simp)).trans (by rw [World.cell?_alloc_at _ _ _ _ (by simp)]; rfl)
  have m_none_8_0 : w8.frozen? ⟨w6.heap.size + 1 + 1, 0, none⟩ = false := (hb_none_8.frozen (p := ⟨w6.heap.size + 1 + 1, 0, none⟩) (by simp)).trans (World.frozen?_alloc_at _ _ _ _ (by simp))
  have m_none_8_1 : w8.frozen? ⟨w6.heap.size + 1 + 1, 1, none⟩ = false := (hb_none_8.frozen (p := ⟨w6.heap.size + 1 + 1, 1, none⟩) (by simp)).trans (World.frozen?_alloc_at _ _ _ _ (by simp))
  have lt_none_8 : w6.heap.size + 1 + 1 < w8.heap.size := by have := hb_none_8.size; simp at this; omega
  clear hb_none_8
  have hE8 : Errs B ev w8 := hE7.go hb8
  go_wp2_with fail
  refine (coded_err c _ _ hE8 hle (by omega)).mono ?_
  rintro e w9 ⟨rfl, hb9⟩; have z9 := hb9.size; try simp at z9
  have hb_l_9 : Below (w6.heap.size + 1) (w6.alloc (.cells #[.int .i64 0, .int .i64 0] 23)) w9 := (by repeat (first | exact Below.refl _ _ | refine Below.drew ?_ | refine below_drewN ?_ _ | refine Below.trans ?_ (Below.mono (by assumption) (by first | omega | (simp; omega) | (simp; done))) | refine Below.alloc ?_ (by first | omega | (simp; omega) | (simp; done)) _ | refine Below.setCell ?_ (by first | omega | (simp; omega) | (simp; done)) _))
  have k_l_9_0 : w9.cell? ⟨w6.heap.size, 0, none⟩ = some (.int .i64 0) := (hb_l_9.cell (p := ⟨w6.heap.size, 0, none⟩) (by simp)).trans (by rw [World.cell?_alloc_at _ _ _ _ (by simp)]; rfl)
  have k_l_9_1 : w9.cell? ⟨w6.heap.size, 1, none⟩ = some (.int .i64 0) := (hb_l_9.cell (p := ⟨w6.heap.size, 1, none⟩) (by simp)).trans (by rw [World.cell?_alloc_at _ _ _ _ (by simp)]; rfl)
  have m_l_9_0 : w9.frozen? ⟨w6.heap.size, 0, none⟩ = false := (hb_l_9.frozen (p := ⟨w6.heap.size, 0, none⟩) (by simp)).trans (World.frozen?_alloc_at _ _ _ _ (by simp))
  have m_l_9_1 : w9.frozen? ⟨w6.heap.size, 1, none⟩ = false := (hb_l_9.frozen (p := ⟨w6.heap.size, 1, none⟩) (by simp)).trans (World.frozen?_alloc_at _ _ _ _ (by simp))
  have lt_l_9 : w6.heap.size < w9.heap.size := by have := hb_l_9.size; simp at this; omega
  clear hb_l_9
  have hb_h_9 : Below (w6.heap.size + 1 + 1) ((w6.alloc (.cells #[.int .i64 0, .int .i64 0] 23)).alloc (.cells #[.int .i64 0, .int .i64 0] 23)) w9 := (by repeat (first | exact Below.refl _ _ | refine Below.drew ?_ | refine below_drewN ?_ _ | refine Below.trans ?_ (Below.mono (by assumption) (by first | omega | (simp; omega) | (simp; done))) | refine Below.alloc ?_ (by first | omega | (simp; omega) | (simp; done)) _ | refine Below.setCell ?_ (by first | omega | (simp; omega) | (simp; done)) _))
  have k_h_9_0 : w9.cell? ⟨w6.heap.size + 1, 0, none⟩ = some (.int .i64 0) := (hb_h_9.cell (p := ⟨w6.heap.size + 1, 0, none⟩) (by simp)).trans (by rw [World.cell?_alloc_at _ _ _ _ (by simp)]; rfl)
  have k_h_9_1 : w9.cell? ⟨w6.heap.size + 1, 1, none⟩ = some (.int .i64 0) := (hb_h_9.cell (p := ⟨w6.heap.size + 1, 1, none⟩) (by simp)).trans (by rw [World.cell?_alloc_at _ _ _ _ (by simp)]; rfl)
  have m_h_9_0 : w9.frozen? ⟨w6.heap.size + 1, 0, none⟩ = false := (hb_h_9.frozen (p := ⟨w6.heap.size + 1, 0, none⟩) (by simp)).trans (World.frozen?_alloc_at _ _ _ _ (by simp))
  have m_h_9_1 : w9.frozen? ⟨w6.heap.size + 1, 1, none⟩ = false := (hb_h_9.frozen (p := ⟨w6.heap.size + 1, 1, none⟩) (by simp)).trans (World.frozen?_alloc_at _ _ _ _ (by simp))
  have lt_h_9 : w6.heap.size + 1 < w9.heap.size := by have := hb_h_9.size; simp at this; omega
  clear hb_h_9
  have hb_none_9 : Below (w6.heap.size + 1 + 1 + 1) (((w6.alloc (.cells #[.int .i64 0, .int .i64 0] 23)).alloc (.cells #[.int .i64 0, .int .i64 0] 23)).alloc (.cells #[.int .i64 0, .int .i64 0] 23)) w9 := (by repeat (first | exact Below.refl _ _ | refine Below.drew ?_ | refine below_drewN ?_ _ | refine Below.trans ?_ (Below.mono (by assumption) (by first | omega | (simp; omega) | (simp; done))) | refine Below.alloc ?_ (by first | omega | (simp; omega) | (simp; done)) _ | refine Below.setCell ?_ (by first | omega | (simp; omega) | (simp; done)) _))
  have k_none_9_0 : w9.cell? ⟨w6.heap.size + 1 + 1, 0, none⟩ = some (.int .i64 0) := (hb_none_9.cell (p := ⟨w6.heap.size + 1 + 1, 0, none⟩) (by simp)).trans (by rw [World.cell?_alloc_at _ _ _ _ (by simp)]; rfl)
  have k_none_9_1 : w9.cell? ⟨w6.heap.size + 1 + 1, 1, none⟩ = some (.int .i64 0) := (hb_none_9.cell (p := ⟨w6.heap.size + 1 + 1, 1, none⟩) (by simp)).trans (by rw [World.cell?_alloc_at _ _ _ _ (by simp)]; rfl)
  have m_none_9_0 : w9.frozen? ⟨w6.heap.size + 1 + 1, 0, none⟩ = false := (hb_none_9.frozen (p := ⟨w6.heap.size + 1 + 1, 0, none⟩) (by simp)).trans (World.frozen?_alloc_at _ _ _ _ (by simp))
  have m_none_9_1 : w9.frozen? ⟨w6.heap.size + 1 + 1, 1, none⟩ = false := (hb_none_9.frozen (p := ⟨w6.heap.size + 1 + 1, 1, none⟩) (by simp)).trans (World.frozen?_alloc_at _ _ _ _ (by simp))
  have lt_none_9 : w6.heap.size + 1 + 1 < w9.heap.size := by have := hb_none_9.size; simp at this; omega
  clear hb_none_9
  go_wp2
  go_ret
  exact ⟨rfl, (by repeat (first | exact Below.refl _ _ | refine Below.drew ?_ | refine below_drewN ?_ _ | refine Below.trans ?_ (Below.mono (by assumption) (by first | omega | (simp; omega) | (simp; done))) | refine Below.alloc ?_ (by first | omega | (simp; omega) | (simp; done)) _ | refine Below.setCell ?_ (by first | omega | (simp; omega) | (simp; done)) _))⟩
end Go.Proofs.YtcooflachcimbaaDoor
