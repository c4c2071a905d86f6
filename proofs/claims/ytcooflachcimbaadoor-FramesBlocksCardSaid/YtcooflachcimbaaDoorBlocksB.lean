/- The statement FramesBlocks: its walk, second part: right blocks. -/
import Derived.Test.YtcooflachcimbaaDoorBlocks
namespace Go.Proofs.YtcooflachcimbaaDoor
open Go.RowKit
set_option linter.unusedSimpArgs false

theorem bud_low {a k : Int} (k1 : 1 ≤ k) (k6 : k ≤ 6) (h : a % sz k = 0) : budA a (k - 1) = a + sz (k - 1) ∧ a % sz (k - 1) = 0 := by
  have e : k = 1 ∨ k = 2 ∨ k = 3 ∨ k = 4 ∨ k = 5 ∨ k = 6 := by omega
  rcases e with rfl | rfl | rfl | rfl | rfl | rfl <;> simp only [budA, sz0, sz1, sz2, sz3, sz4, sz5, sz6, show (1 : Int) - 1 = 0 from rfl, show (2 : Int) - 1 = 1 from rfl, show (3 : Int) - 1 = 2 from rfl, show (4 : Int) - 1 = 3 from rfl, show (5 : Int) - 1 = 4 from rfl, show (6 : Int) - 1 = 5 from rfl] at * <;> (constructor <;> omega)
theorem low_call {a k : Int} (_ : 0 ≤ a) (k1 : 1 ≤ k) (hc : aloneE a k = 0) (w : World) :
    Calls Tryd.prog 26 #[.agg #[.int .i64 a, .int .i64 (k - 1)]] w fun e w' => e = .returned (.agg #[.int .i64 (a + sz (k - 1)), .int .i64 (k - 1)]) ∧ Below w.heap.size w w' := by
  obtain ⟨a0, a1, k0, k6, hm⟩ := aloneE_zero hc
  obtain ⟨h1, h2⟩ := bud_low k1 k6 hm
  have := buddyOf_ok a (k - 1) w a0 a1 (by omega) (by omega) h2
  rwa [h1] at this

set_option maxHeartbeats 4000000 in
set_option maxRecDepth 100000 in
theorem framesBlocks_six {B : Nat} {ev : Nat → Addr} (a n : Int) (w : World) (hE : Errs B ev w) (hc : aloneE a 6 = 0) :
    Calls Tryd.prog 6 #[.agg #[.int .i64 a, .int .i64 6], .int .i64 n] w fun e w' => e = .returned (.bool true) ∧ Below w.heap.size w w' := by
  have eb := eqB
  have nb := neqB
  have gb := guardB
  have hB := hE.size
  obtain ⟨a0, a1, _, _, hm⟩ := aloneE_zero hc
  have HM := Lib.hid hm; have HC := Lib.hid hc
  clear hm
  have HU : Hid (upE a 6 = 3 + 1) := by show upE a 6 = 4; unfold upE; rw [if_pos hc]; rfl
  have HD : Hid (downE a 6 = 0) := downE_mk hc (by decide)
  have hl : ∀ w, Calls Tryd.prog 26 #[.agg #[.int .i64 a, .int .i64 5]] w fun e w' => e = .returned (.agg #[.int .i64 (a + sz 5), .int .i64 5]) ∧ Below w.heap.size w w' := fun w => low_call a0 (by decide) hc w
  have HL := Lib.hid hl
  clear hl hc
  go_enter Tryd.func6, Tryd.ntmps6
  go_wp2_with fail
  refine (halved_yes _ (hE.c.below (by repeat (first | exact Below.refl _ _ | refine Below.drew ?_ | refine below_drewN ?_ _ | refine Below.trans ?_ (Below.mono (by assumption) (by first | omega | (simp; omega) | (simp; done))) | refine Below.alloc ?_ (by first | omega | (simp; omega) | (simp; done)) _ | refine Below.setCell ?_ (by first | omega | (simp; omega) | (simp; done)) _)))).mono ?_
  rintro e w1 ⟨rfl, hb1⟩; have z1 := hb1.size; try simp at z1
  have hb_b_1 : Below (w.heap.size + 1) (w.alloc (.cells #[.int .i64 (a), .int .i64 (6)] 23)) w1 := (by repeat (first | exact Below.refl _ _ | refine Below.drew ?_ | refine below_drewN ?_ _ | refine Below.trans ?_ (Below.mono (by assumption) (by first | omega | (simp; omega) | (simp; done))) | refine Below.alloc ?_ (by first | omega | (simp; omega) | (simp; done)) _ | refine Below.setCell ?_ (by first | omega | (simp; omega) | (simp; done)) _))
  have k_b_1_0 : w1.cell? ⟨w.heap.size, 0, none⟩ = some (.int .i64 (a)) := (hb_b_1.cell (p := ⟨w.heap.size, 0, none⟩) (by simp)).trans (by rw [World.cell?_alloc_at _ _ _ _ (by simp)]; rfl)
  have k_b_1_1 : w1.cell? ⟨w.heap.size, 1, none⟩ = some (.int .i64 (6)) := (hb_b_1.cell (p := ⟨w.heap.size, 1, none⟩) (by simp)).trans (by rw [World.cell?_alloc_at _ _ _ _ (by simp)]; rfl)
  have m_b_1_0 : w1.frozen? ⟨w.heap.size, 0, none⟩ = false := (hb_b_1.frozen (p := ⟨w.heap.size, 0, none⟩) (by simp)).trans (World.frozen?_alloc_at _ _ _ _ (by simp))
  have m_b_1_1 : w1.frozen? ⟨w.heap.size, 1, none⟩ = false := (hb_b_1.frozen (p := ⟨w.heap.size, 1, none⟩) (by simp)).trans (World.frozen?_alloc_at _ _ _ _ (by simp))
  have lt_b_1 : w.heap.size < w1.heap.size := by have := hb_b_1.size; simp at this; omega
  clear hb_b_1
  have hE1 : Errs B ev w1 := hE.below (by repeat (first | exact Below.refl _ _ | refine Below.drew ?_ | refine below_drewN ?_ _ | refine Below.trans ?_ (Below.mono (by assumption) (by first | omega | (simp; omega) | (simp; done))) | refine Below.alloc ?_ (by first | omega | (simp; omega) | (simp; done)) _ | refine Below.setCell ?_ (by first | omega | (simp; omega) | (simp; done)) _))
  go_wp2_with fail
  refine wp_region_behind (by kernel_rfl) (by kernel_rfl) ?_
  repeat (go_big_quiet_step (first | (go_at_call 23; exact Calls.behind (check_any _ _ _ _ (hE1.c.below (Below.mono (Behind.h _) hE1.size)))) | (go_at_call 24; exact Calls.behind (blockError_any _ _ _ _)) | (go_at_call 17; exact Calls.behind (coded_at _ _ _ (hE1.below (Below.mono (Behind.h _) hE1.size)) (checkE_le _ _ _) rfl))))
  refine wpQuiet_nil ?_
  intro w2 hw'
  have hb2 := behind_out hw'
  clear hw'
  have z2 := hb2.size; try simp at z2
  have hE2 : Errs B ev w2 := hE1.go hb2
  have hb_b_2 : Below (w.heap.size + 1) (w.alloc (.cells #[.int .i64 (a), .int .i64 (6)] 23)) w2 := (by repeat (first | exact Below.refl _ _ | refine Below.drew ?_ | refine below_drewN ?_ _ | refine Below.trans ?_ (Below.mono (by assumption) (by first | omega | (simp; omega) | (simp; done))) | refine Below.alloc ?_ (by first | omega | (simp; omega) | (simp; done)) _ | refine Below.setCell ?_ (by first | omega | (simp; omega) | (simp; done)) _))
  have k_b_2_0 : w2.cell? ⟨w.heap.size, 0, none⟩ = some (.int .i64 (a)) := (hb_b_2.cell (p := ⟨w.heap.size, 0, none⟩) (by simp)).trans (by rw [World.cell?_alloc_at _ _ _ _ (by simp)]; rfl)
  have k_b_2_1 : w2.cell? ⟨w.heap.size, 1, none⟩ = some (.int .i64 (6)) := (hb_b_2.cell (p := ⟨w.heap.size, 1, none⟩) (by simp)).trans (by rw [World.cell?_alloc_at _ _ _ _ (by simp)]; rfl)
  have m_b_2_0 : w2.frozen? ⟨w.heap.size, 0, none⟩ = false := (hb_b_2.frozen (p := ⟨w.heap.size, 0, none⟩) (by simp)).trans (World.frozen?_alloc_at _ _ _ _ (by simp))
  have m_b_2_1 : w2.frozen? ⟨w.heap.size, 1, none⟩ = false := (hb_b_2.frozen (p := ⟨w.heap.size, 1, none⟩) (by simp)).trans (World.frozen?_alloc_at _ _ _ _ (by simp))
  have lt_b_2 : w.heap.size < w2.heap.size := by have := hb_b_2.size; simp at this; omega
  clear hb_b_2
  go_wp2_with fail
  refine (aloneError_any _ _ _).mono ?_
  rintro e w3 ⟨rfl, hb3⟩; have z3 := hb3.size; try simp at z3
  have hb_b_3 : Below (w.heap.size + 1) (w.alloc (.cells #[.int .i64 (a), .int .i64 (6)] 23)) w3 := (by repeat (first | exact Below.refl _ _ | refine Below.drew ?_ | refine below_drewN ?_ _ | refine Below.trans ?_ (Below.mono (by assumption) (by first | omega | (simp; omega) | (simp; done))) | refine Below.alloc ?_ (by first | omega | (simp; omega) | (simp; done)) _ | refine Below.setCell ?_ (by first | omega | (simp; omega) | (simp; done)) _))
  have k_b_3_0 : w3.cell? ⟨w.heap.size, 0, none⟩ = some (.int .i64 (a)) := (hb_b_3.cell (p := ⟨w.heap.size, 0, none⟩) (by simp)).trans (by rw [World.cell?_alloc_at _ _ _ _ (by simp)]; rfl)
  have k_b_3_1 : w3.cell? ⟨w.heap.size, 1, none⟩ = some (.int .i64 (6)) := (hb_b_3.cell (p := ⟨w.heap.size, 1, none⟩) (by simp)).trans (by rw [World.cell?_alloc_at _ _ _ _ (by simp)]; rfl)
  have m_b_3_0 : w3.frozen? ⟨w.heap.size, 0, none⟩ = false := (hb_b_3.frozen (p := ⟨w.heap.size, 0, none⟩) (by simp)).trans (World.frozen?_alloc_at _ _ _ _ (by simp))
  have m_b_3_1 : w3.frozen? ⟨w.heap.size, 1, none⟩ = false := (hb_b_3.frozen (p := ⟨w.heap.size, 1, none⟩) (by simp)).trans (World.frozen?_alloc_at _ _ _ _ (by simp))
  have lt_b_3 : w.heap.size < w3.heap.size := by have := hb_b_3.size; simp at this; omega
  clear hb_b_3
  have hE3 : Errs B ev w3 := hE2.go hb3
  rw [HC.out]
  go_wp2_with fail
  refine (buddy_err a 6 3 _ hE3.c HU.out).mono ?_
  rintro e w4 ⟨rfl, hb4⟩; have z4 := hb4.size; try simp at z4
  have hb_b_4 : Below (w.heap.size + 1) (w.alloc (.cells #[.int .i64 (a), .int .i64 (6)] 23)) w4 := (by repeat (first | exact Below.refl _ _ | refine Below.drew ?_ | refine below_drewN ?_ _ | refine Below.trans ?_ (Below.mono (by assumption) (by first | omega | (simp; omega) | (simp; done))) | refine Below.alloc ?_ (by first | omega | (simp; omega) | (simp; done)) _ | refine Below.setCell ?_ (by first | omega | (simp; omega) | (simp; done)) _))
  have k_b_4_0 : w4.cell? ⟨w.heap.size, 0, none⟩ = some (.int .i64 (a)) := (hb_b_4.cell (p := ⟨w.heap.size, 0, none⟩) (by simp)).trans (by rw [World.cell?_alloc_at _ _ _ _ (by simp)]; rfl)
  have k_b_4_1 : w4.cell? ⟨w.heap.size, 1, none⟩ = some (.int .i64 (6)) := (hb_b_4.cell (p := ⟨w.heap.size, 1, none⟩) (by simp)).trans (by rw [World.cell?_alloc_at _ _ _ _ (by simp)]; rfl)
  have m_b_4_0 : w4.frozen? ⟨w.heap.size, 0, none⟩ = false := (hb_b_4.frozen (p := ⟨w.heap.size, 0, none⟩) (by simp)).trans (World.frozen?_alloc_at _ _ _ _ (by simp))
  have m_b_4_1 : w4.frozen? ⟨w.heap.size, 1, none⟩ = false := (hb_b_4.frozen (p := ⟨w.heap.size, 1, none⟩) (by simp)).trans (World.frozen?_alloc_at _ _ _ _ (by simp))
  have lt_b_4 : w.heap.size < w4.heap.size := by have := hb_b_4.size; simp at this; omega
  clear hb_b_4
  have hE4 : Errs B ev w4 := hE3.go hb4
  go_wp2_with fail
  refine (parent_err a 6 3 _ (hE4.c.below (by repeat (first | exact Below.refl _ _ | refine Below.drew ?_ | refine below_drewN ?_ _ | refine Below.trans ?_ (Below.mono (by assumption) (by first | omega | (simp; omega) | (simp; done))) | refine Below.alloc ?_ (by first | omega | (simp; omega) | (simp; done)) _ | refine Below.setCell ?_ (by first | omega | (simp; omega) | (simp; done)) _))) HU.out).mono ?_
  rintro e w5 ⟨rfl, hb5⟩; have z5 := hb5.size; try simp at z5
  have hb_b_5 : Below (w.heap.size + 1) (w.alloc (.cells #[.int .i64 (a), .int .i64 (6)] 23)) w5 := (by repeat (first | exact Below.refl _ _ | refine Below.drew ?_ | refine below_drewN ?_ _ | refine Below.trans ?_ (Below.mono (by assumption) (by first | omega | (simp; omega) | (simp; done))) | refine Below.alloc ?_ (by first | omega | (simp; omega) | (simp; done)) _ | refine Below.setCell ?_ (by first | omega | (simp; omega) | (simp; done)) _))
  have k_b_5_0 : w5.cell? ⟨w.heap.size, 0, none⟩ = some (.int .i64 (a)) := (hb_b_5.cell (p := ⟨w.heap.size, 0, none⟩) (by simp)).trans (by rw [World.cell?_alloc_at _ _ _ _ (by simp)]; rfl)
  have k_b_5_1 : w5.cell? ⟨w.heap.size, 1, none⟩ = some (.int .i64 (6)) := (hb_b_5.cell (p := ⟨w.heap.size, 1, none⟩) (by simp)).trans (by rw [World.cell?_alloc_at _ _ _ _ (by simp)]; rfl)
  have m_b_5_0 : w5.frozen? ⟨w.heap.size, 0, none⟩ = false := (hb_b_5.frozen (p := ⟨w.heap.size, 0, none⟩) (by simp)).trans (World.frozen?_alloc_at _ _ _ _ (by simp))
  have m_b_5_1 : w5.frozen? ⟨w.heap.size, 1, none⟩ = false := (hb_b_5.frozen (p := ⟨w.heap.size, 1, none⟩) (by simp)).trans (World.frozen?_alloc_at _ _ _ _ (by simp))
  have lt_b_5 : w.heap.size < w5.heap.size := by have := hb_b_5.size; simp at this; omega
  clear hb_b_5
  have hb_x_5 : Below (w4.heap.size + 1) (w4.alloc (.cells #[.int .i64 (0), .int .i64 (0)] 23)) w5 := (by repeat (first | exact Below.refl _ _ | refine Below.drew ?_ | refine below_drewN ?_ _ | refine Below.trans ?_ (Below.mono (by assumption) (by first | omega | (simp; omega) | (simp; done))) | refine Below.alloc ?_ (by first | omega | (simp; omega) | (simp; done)) _ | refine Below.setCell ?_ (by first | omega | (simp; omega) | (simp; done)) _))
  have k_x_5_0 : w5.cell? ⟨w4.heap.size, 0, none⟩ = some (.int .i64 (0)) := (hb_x_5.cell (p := ⟨w4.heap.size, 0, none⟩) (by simp)).trans (by rw [World.cell?_alloc_at _ _ _ _ (by simp)]; rfl)
  have k_x_5_1 : w5.cell? ⟨w4.heap.size, 1, none⟩ = some (.int .i64 (0)) := (hb_x_5.cell (p := ⟨w4.heap.size, 1, none⟩) (by simp)).trans (by rw [World.cell?_alloc_at _ _ _ _ (by simp)]; rfl)
  have m_x_5_0 : w5.frozen? ⟨w4.heap.size, 0, none⟩ = false := (hb_x_5.frozen (p := ⟨w4.heap.size, 0, none⟩) (by simp)).trans (World.frozen?_alloc_at _ _ _ _ (by simp))
  have m_x_5_1 : w5.frozen? ⟨w4.heap.size, 1, none⟩ = false := (hb_x_5.frozen (p := ⟨w4.heap.size, 1, none⟩) (by simp)).trans (World.frozen?_alloc_at _ _ _ _ (by simp))
  have lt_x_5 : w4.heap.size < w5.heap.size := by have := hb_x_5.size; simp at this; omega
  clear hb_x_5
  have hE5 : Errs B ev w5 := hE4.below (by repeat (first | exact Below.refl _ _ | refine Below.drew ?_ | refine below_drewN ?_ _ | refine Below.trans ?_ (Below.mono (by assumption) (by first | omega | (simp; omega) | (simp; done))) | refine Below.alloc ?_ (by first | omega | (simp; omega) | (simp; done)) _ | refine Below.setCell ?_ (by first | omega | (simp; omega) | (simp; done)) _))
  go_wp2_with fail
  refine (halves_ok a 6 _ (hE5.c.below (by repeat (first | exact Below.refl _ _ | refine Below.drew ?_ | refine below_drewN ?_ _ | refine Below.trans ?_ (Below.mono (by assumption) (by first | omega | (simp; omega) | (simp; done))) | refine Below.alloc ?_ (by first | omega | (simp; omega) | (simp; done)) _ | refine Below.setCell ?_ (by first | omega | (simp; omega) | (simp; done)) _))) HD.out).mono ?_
  rintro e w6 ⟨rfl, hb6⟩; have z6 := hb6.size; try simp at z6
  have hb_b_6 : Below (w.heap.size + 1) (w.alloc (.cells #[.int .i64 (a), .int .i64 (6)] 23)) w6 := (by repeat (first | exact Below.refl _ _ | refine Below.drew ?_ | refine below_drewN ?_ _ | refine Below.trans ?_ (Below.mono (by assumption) (by first | omega | (simp; omega) | (simp; done))) | refine Below.alloc ?_ (by first | omega | (simp; omega) | (simp; done)) _ | refine Below.setCell ?_ (by first | omega | (simp; omega) | (simp; done)) _))
  have k_b_6_0 : w6.cell? ⟨w.heap.size, 0, none⟩ = some (.int .i64 (a)) := (hb_b_6.cell (p := ⟨w.heap.size, 0, none⟩) (by simp)).trans (by rw [World.cell?_alloc_at _ _ _ _ (by simp)]; rfl)
  have k_b_6_1 : w6.cell? ⟨w.heap.size, 1, none⟩ = some (.int .i64 (6)) := (hb_b_6.cell (p := ⟨w.heap.size, 1, none⟩) (by simp)).trans (by rw [World.cell?_alloc_at _ _ _ _ (by simp)]; rfl)
  have m_b_6_0 : w6.frozen? ⟨w.heap.size, 0, none⟩ = false := (hb_b_6.frozen (p := ⟨w.heap.size, 0, none⟩) (by simp)).trans (World.frozen?_alloc_at _ _ _ _ (by simp))
  have m_b_6_1 : w6.frozen? ⟨w.heap.size, 1, none⟩ = false := (hb_b_6.frozen (p := ⟨w.heap.size, 1, none⟩) (by simp)).trans (World.frozen?_alloc_at _ _ _ _ (by simp))
  have lt_b_6 : w.heap.size < w6.heap.size := by have := hb_b_6.size; simp at this; omega
  clear hb_b_6
  have hb_x_6 : Below (w4.heap.size + 1) (w4.alloc (.cells #[.int .i64 (0), .int .i64 (0)] 23)) w6 := (by repeat (first | exact Below.refl _ _ | refine Below.drew ?_ | refine below_drewN ?_ _ | refine Below.trans ?_ (Below.mono (by assumption) (by first | omega | (simp; omega) | (simp; done))) | refine Below.alloc ?_ (by first | omega | (simp; omega) | (simp; done)) _ | refine Below.setCell ?_ (by first | omega | (simp; omega) | (simp; done)) _))
  have k_x_6_0 : w6.cell? ⟨w4.heap.size, 0, none⟩ = some (.int .i64 (0)) := (hb_x_6.cell (p := ⟨w4.heap.size, 0, none⟩) (by simp)).trans (by rw [World.cell?_alloc_at _ _ _ _ (by simp)]; rfl)
  have k_x_6_1 : w6.cell? ⟨w4.heap.size, 1, none⟩ = some (.int .i64 (0)) := (hb_x_6.cell (p := ⟨w4.heap.size, 1, none⟩) (by simp)).trans (by rw [World.cell?_alloc_at _ _ _ _ (by simp)]; rfl)
  have m_x_6_0 : w6.frozen? ⟨w4.heap.size, 0, none⟩ = false := (hb_x_6.frozen (p := ⟨w4.heap.size, 0, none⟩) (by simp)).trans (World.frozen?_alloc_at _ _ _ _ (by simp))
  have m_x_6_1 : w6.frozen? ⟨w4.heap.size, 1, none⟩ = false := (hb_x_6.frozen (p := ⟨w4.heap.size, 1, none⟩) (by simp)).trans (World.frozen?_alloc_at _ _ _ _ (by simp))
  have lt_x_6 : w4.heap.size < w6.heap.size := by have := hb_x_6.size; simp at this; omega
  clear hb_x_6
  have hb_p_6 : Below (w5.heap.size + 1) (w5.alloc (.cells #[.int .i64 (0), .int .i64 (0)] 23)) w6 := (by repeat (first | exact Below.refl _ _ | refine Below.drew ?_ | refine below_drewN ?_ _ | refine Below.trans ?_ (Below.mono (by assumption) (by first | omega | (simp; omega) | (simp; done))) | refine Below.alloc ?_ (by first | omega | (simp; omega) | (simp; done)) _ | refine Below.setCell ?_ (by first | omega | (simp; omega) | (simp; done)) _))
  have k_p_6_0 : w6.cell? ⟨w5.heap.size, 0, none⟩ = some (.int .i64 (0)) := (hb_p_6.cell (p := ⟨w5.heap.size, 0, none⟩) (by simp)).trans (by rw [World.cell?_alloc_at _ _ _ _ (by simp)]; rfl)
  have k_p_6_1 : w6.cell? ⟨w5.heap.size, 1, none⟩ = some (.int .i64 (0)) := (hb_p_6.cell (p := ⟨w5.heap.size, 1, none⟩) (by simp)).trans (by rw [World.cell?_alloc_at _ _ _ _ (by simp)]; rfl)
  have m_p_6_0 : w6.frozen? ⟨w5.heap.size, 0, none⟩ = false := (hb_p_6.frozen (p := ⟨w5.heap.size, 0, none⟩) (by simp)).trans (World.frozen?_alloc_at _ _ _ _ (by simp))
  have m_p_6_1 : w6.frozen? ⟨w5.heap.size, 1, none⟩ = false := (hb_p_6.frozen (p := ⟨w5.heap.size, 1, none⟩) (by simp)).trans (World.frozen?_alloc_at _ _ _ _ (by simp))
  have lt_p_6 : w5.heap.size < w6.heap.size := by have := hb_p_6.size; simp at this; omega
  clear hb_p_6
  have hE6 : Errs B ev w6 := hE5.below (by repeat (first | exact Below.refl _ _ | refine Below.drew ?_ | refine below_drewN ?_ _ | refine Below.trans ?_ (Below.mono (by assumption) (by first | omega | (simp; omega) | (simp; done))) | refine Below.alloc ?_ (by first | omega | (simp; omega) | (simp; done)) _ | refine Below.setCell ?_ (by first | omega | (simp; omega) | (simp; done)) _))
  go_wp2_with fail
  refine (coded_err 3 _ _ (hE6.below (by repeat (first | exact Below.refl _ _ | refine Below.drew ?_ | refine below_drewN ?_ _ | refine Below.trans ?_ (Below.mono (by assumption) (by first | omega | (simp; omega) | (simp; done))) | refine Below.alloc ?_ (by first | omega | (simp; omega) | (simp; done)) _ | refine Below.setCell ?_ (by first | omega | (simp; omega) | (simp; done)) _))) (by decide) rfl).mono ?_
  rintro e w7 ⟨rfl, hb7⟩; have z7 := hb7.size; try simp at z7
  have hb_b_7 : Below (w.heap.size + 1) (w.alloc (.cells #[.int .i64 (a), .int .i64 (6)] 23)) w7 := (by repeat (first | exact Below.refl _ _ | refine Below.drew ?_ | refine below_drewN ?_ _ | refine Below.trans ?_ (Below.mono (by assumption) (by first | omega | (simp; omega) | (simp; done))) | refine Below.alloc ?_ (by first | omega | (simp; omega) | (simp; done)) _ | refine Below.setCell ?_ (by first | omega | (simp; omega) | (simp; done)) _))
  have k_b_7_0 : w7.cell? ⟨w.heap.size, 0, none⟩ = some (.int .i64 (a)) := (hb_b_7.cell (p := ⟨w.heap.size, 0, none⟩) (by simp)).trans (by rw [World.cell?_alloc_at _ _ _ _ (by simp)]; rfl)
  have k_b_7_1 : w7.cell? ⟨w.heap.size, 1, none⟩ = some (.int .i64 (6)) := (hb_b_7.cell (p := ⟨w.heap.size, 1, none⟩) (by simp)).trans (by rw [World.cell?_alloc_at _ _ _ _ (by simp)]; rfl)
  have m_b_7_0 : w7.frozen? ⟨w.heap.size, 0, none⟩ = false := (hb_b_7.frozen (p := ⟨w.heap.size, 0, none⟩) (by simp)).trans (World.frozen?_alloc_at _ _ _ _ (by simp))
  have m_b_7_1 : w7.frozen? ⟨w.heap.size, 1, none⟩ = false := (hb_b_7.frozen (p := ⟨w.heap.size, 1, none⟩) (by simp)).trans (World.frozen?_alloc_at _ _ _ _ (by simp))
  have lt_b_7 : w.heap.size < w7.heap.size := by have := hb_b_7.size; simp at this; omega
  clear hb_b_7
  have hb_x_7 : Below (w4.heap.size + 1) (w4.alloc (.cells #[.int .i64 (0), .int .i64 (0)] 23)) w7 := (by repeat (first | exact Below.refl _ _ | refine Below.drew ?_ | refine below_drewN ?_ _ | refine Below.trans ?_ (Below.mono (by assumption) (by first | omega | (simp; omega) | (simp; done))) | refine Below.alloc ?_ (by first | omega | (simp; omega) | (simp; done)) _ | refine Below.setCell ?_ (by first | omega | (simp; omega) | (simp; done)) _))
  have k_x_7_0 : w7.cell? ⟨w4.heap.size, 0, none⟩ = some (.int .i64 (0)) := (hb_x_7.cell (p := ⟨w4.heap.size, 0, none⟩) (by simp)).trans (by rw [World.cell?_alloc_at _ _ _ _ (by simp)]; rfl)
  have k_x_7_1 : w7.cell? ⟨w4.heap.size, 1, none⟩ = some (.int .i64 (0)) := (hb_x_7.cell (p := ⟨w4.heap.size, 1, none⟩) (by simp)).trans (by rw [World.cell?_alloc_at _ _ _ _ (by simp)]; rfl)
  have m_x_7_0 : w7.frozen? ⟨w4.heap.size, 0, none⟩ = false := (hb_x_7.frozen (p := ⟨w4.heap.size, 0, none⟩) (by simp)).trans (World.frozen?_alloc_at _ _ _ _ (by simp))
  have m_x_7_1 : w7.frozen? ⟨w4.heap.size, 1, none⟩ = false := (hb_x_7.frozen (p := ⟨w4.heap.size, 1, none⟩) (by simp)).trans (World.frozen?_alloc_at _ _ _ _ (by simp))
  have lt_x_7 : w4.heap.size < w7.heap.size := by have := hb_x_7.size; simp at this; omega
  clear hb_x_7
  have hb_p_7 : Below (w5.heap.size + 1) (w5.alloc (.cells #[.int .i64 (0), .int .i64 (0)] 23)) w7 := (by repeat (first | exact Below.refl _ _ | refine Below.drew ?_ | refine below_drewN ?_ _ | refine Below.trans ?_ (Below.mono (by assumption) (by first | omega | (simp; omega) | (simp; done))) | refine Below.alloc ?_ (by first | omega | (simp; omega) | (simp; done)) _ | refine Below.setCell ?_ (by first | omega | (simp; omega) | (simp; done)) _))
  have k_p_7_0 : w7.cell? ⟨w5.heap.size, 0, none⟩ = some (.int .i64 (0)) := (hb_p_7.cell (p := ⟨w5.heap.size, 0, none⟩) (by simp)).trans (by rw [World.cell?_alloc_at _ _ _ _ (by simp)]; rfl)
  have k_p_7_1 : w7.cell? ⟨w5.heap.size, 1, none⟩ = some (.int .i64 (0)) := (hb_p_7.cell (p := ⟨w5.heap.size, 1, none⟩) (by simp)).trans (by rw [World.cell?_alloc_at _ _ _ _ (by simp)]; rfl)
  have m_p_7_0 : w7.frozen? ⟨w5.heap.size, 0, none⟩ = false := (hb_p_7.frozen (p := ⟨w5.heap.size, 0, none⟩) (by simp)).trans (World.frozen?_alloc_at _ _ _ _ (by simp))
  have m_p_7_1 : w7.frozen? ⟨w5.heap.size, 1, none⟩ = false := (hb_p_7.frozen (p := ⟨w5.heap.size, 1, none⟩) (by simp)).trans (World.frozen?_alloc_at _ _ _ _ (by simp))
  have lt_p_7 : w5.heap.size < w7.heap.size := by have := hb_p_7.size; simp at this; omega
  clear hb_p_7
  have hb_l_7 : Below (w6.heap.size + 1) (w6.alloc (.cells #[.int .i64 (a), .int .i64 (5)] 23)) w7 := (by repeat (first | exact Below.refl _ _ | refine Below.drew ?_ | refine below_drewN ?_ _ | refine Below.trans ?_ (Below.mono (by assumption) (by first | omega | (simp; omega) | (simp; done))) | refine Below.alloc ?_ (by first | omega | (simp; omega) | (simp; done)) _ | refine Below.setCell ?_ (by first | omega | (simp; omega) | (simp; done)) _))
  have k_l_7_0 : w7.cell? ⟨w6.heap.size, 0, none⟩ = some (.int .i64 (a)) := (hb_l_7.cell (p := ⟨w6.heap.size, 0, none⟩) (by simp)).trans (by rw [World.cell?_alloc_at _ _ _ _ (by simp)]; rfl)
  have k_l_7_1 : w7.cell? ⟨w6.heap.size, 1, none⟩ = some (.int .i64 (5)) := (hb_l_7.cell (p := ⟨w6.heap.size, 1, none⟩) (by simp)).trans (by rw [World.cell?_alloc_at _ _ _ _ (by simp)]; rfl)
  have m_l_7_0 : w7.frozen? ⟨w6.heap.size, 0, none⟩ = false := (hb_l_7.frozen (p := ⟨w6.heap.size, 0, none⟩) (by simp)).trans (World.frozen?_alloc_at _ _ _ _ (by simp))
  have m_l_7_1 : w7.frozen? ⟨w6.heap.size, 1, none⟩ = false := (hb_l_7.frozen (p := ⟨w6.heap.size, 1, none⟩) (by simp)).trans (World.frozen?_alloc_at _ _ _ _ (by simp))
  have lt_l_7 : w6.heap.size < w7.heap.size := by have := hb_l_7.size; simp at this; omega
  clear hb_l_7
  have hb_h_7 : Below (w6.heap.size + 1 + 1) ((w6.alloc (.cells #[.int .i64 (a), .int .i64 (5)] 23)).alloc (.cells #[.int .i64 (a + sz 5), .int .i64 (5)] 23)) w7 := (by repeat (first | exact Below.refl _ _ | refine Below.drew ?_ | refine below_drewN ?_ _ | refine Below.trans ?_ (Below.mono (by assumption) (by first | omega | (simp; omega) | (simp; done))) | refine Below.alloc ?_ (by first | omega | (simp; omega) | (simp; done)) _ | refine Below.setCell ?_ (by first | omega | (simp; omega) | (simp; done)) _))
  have k_h_7_0 : w7.cell? ⟨w6.heap.size + 1, 0, none⟩ = some (.int .i64 (a + sz 5)) := (hb_h_7.cell (p := ⟨w6.heap.size + 1, 0, none⟩) (by simp)).trans (by rw [World.cell?_alloc_at _ _ _ _ (by simp)]; rfl)
  have k_h_7_1 : w7.cell? ⟨w6.heap.size + 1, 1, none⟩ = some (.int .i64 (5)) := (hb_h_7.cell (p := ⟨w6.heap.size + 1, 1, none⟩) (by simp)).trans (by rw [World.cell?_alloc_at _ _ _ _ (by simp)]; rfl)
  have m_h_7_0 : w7.frozen? ⟨w6.heap.size + 1, 0, none⟩ = false := (hb_h_7.frozen (p := ⟨w6.heap.size + 1, 0, none⟩) (by simp)).trans (World.frozen?_alloc_at _ _ _ _ (by simp))
  have m_h_7_1 : w7.frozen? ⟨w6.heap.size + 1, 1, none⟩ = false := (hb_h_7.frozen (p := ⟨w6.heap.size + 1, 1, none⟩) (by simp)).trans (World.frozen?_alloc_at _ _ _ _ (by simp))
  have lt_h_7 : w6.heap.size + 1 < w7.heap.size := by have := hb_h_7.size; simp at this; omega
  clear hb_h_7
  have hb_none_7 : Below (w6.heap.size + 1 + 1 + 1) (((w6.alloc (.cells #[.int .i64 (a), .int .i64 (5)] 23)).alloc (.cells #[.int .i64 (a + sz 5), .int .i64 (5)] 23)).alloc (.cells #[.int .i64 (0), .int .i64 (0)] 23)) w7 := (by repeat (first | exact Below.refl _ _ | refine Below.drew ?_ | refine below_drewN ?_ _ | refine Below.trans ?_ (Below.mono (by assumption) (by first | omega | (simp; omega) | (simp; done))) | refine Below.alloc ?_ (by first | omega | (simp; omega) | (simp; done)) _ | refine Below.setCell ?_ (by first | omega | (simp; omega) | (simp; done)) _))
  have k_none_7_0 : w7.cell? ⟨w6.heap.size + 1 + 1, 0, none⟩ = some (.int .i64 (0)) := (hb_none_7.cell (p := ⟨w6.heap.size + 1 + 1, 0, none⟩) (by simp)).trans (by rw [World.cell?_alloc_at _ _ _ _ (by simp)]; rfl)
  have k_none_7_1 : w7.cell? ⟨w6.heap.size + 1 + 1, 1, none⟩ = some (.int .i64 (0)) := (hb_none_7.cell (p := ⟨w6.heap.size + 1 + 1, 1, none⟩) (by simp)).trans (by rw [World.cell?_alloc_at _ _ _ _ (by simp)]; rfl)
  have m_none_7_0 : w7.frozen? ⟨w6.heap.size + 1 + 1, 0, none⟩ = false := (hb_none_7.frozen (p := ⟨w6.heap.size + 1 + 1, 0, none⟩) (by simp)).trans (World.frozen?_alloc_at _ _ _ _ (by simp))
  have m_none_7_1 : w7.frozen? ⟨w6.heap.size + 1 + 1, 1, none⟩ = false := (hb_none_7.frozen (p := ⟨w6.heap.size + 1 + 1, 1, none⟩) (by simp)).trans (World.frozen?_alloc_at _ _ _ _ (by simp))
  have lt_none_7 : w6.heap.size + 1 + 1 < w7.heap.size := by have := hb_none_7.size; simp at this; omega
  clear hb_none_7
  have hE7 : Errs B ev w7 := hE6.below (by repeat (first | exact Below.refl _ _ | refine Below.drew ?_ | refine below_drewN ?_ _ | refine Below.trans ?_ (Below.mono (by assumption) (by first | omega | (simp; omega) | (simp; done))) | refine Below.alloc ?_ (by first | omega | (simp; omega) | (simp; done)) _ | refine Below.setCell ?_ (by first | omega | (simp; omega) | (simp; done)) _))
  go_wp2_with fail
  refine (coded_err 3 _ _ hE7 (by decide) rfl).mono ?_
  rintro e w8 ⟨rfl, hb8⟩; have z8 := hb8.size; try simp at z8
  have hb_b_8 : Below (w.heap.size + 1) (w.alloc (.cells #[.int .i64 (a), .int .i64 (6)] 23)) w8 := (by repeat (first | exact Below.refl _ _ | refine Below.drew ?_ | refine below_drewN ?_ _ | refine Below.trans ?_ (Below.mono (by assumption) (by first | omega | (simp; omega) | (simp; done))) | refine Below.alloc ?_ (by first | omega | (simp; omega) | (simp; done)) _ | refine Below.setCell ?_ (by first | omega | (simp; omega) | (simp; done)) _))
  have k_b_8_0 : w8.cell? ⟨w.heap.size, 0, none⟩ = some (.int .i64 (a)) := (hb_b_8.cell (p := ⟨w.heap.size, 0, none⟩) (by simp)).trans (by rw [World.cell?_alloc_at _ _ _ _ (by simp)]; rfl)
  have k_b_8_1 : w8.cell? ⟨w.heap.size, 1, none⟩ = some (.int .i64 (6)) := (hb_b_8.cell (p := ⟨w.heap.size, 1, none⟩) (by simp)).trans (by rw [World.cell?_alloc_at _ _ _ _ (by simp)]; rfl)
  have m_b_8_0 : w8.frozen? ⟨w.heap.size, 0, none⟩ = false := (hb_b_8.frozen (p := ⟨w.heap.size, 0, none⟩) (by simp)).trans (World.frozen?_alloc_at _ _ _ _ (by simp))
  have m_b_8_1 : w8.frozen? ⟨w.heap.size, 1, none⟩ = false := (hb_b_8.frozen (p := ⟨w.heap.size, 1, none⟩) (by simp)).trans (World.frozen?_alloc_at _ _ _ _ (by simp))
  have lt_b_8 : w.heap.size < w8.heap.size := by have := hb_b_8.size; simp at this; omega
  clear hb_b_8
  have hb_x_8 : Below (w4.heap.size + 1) (w4.alloc (.cells #[.int .i64 (0), .int .i64 (0)] 23)) w8 := (by repeat (first | exact Below.refl _ _ | refine Below.drew ?_ | refine below_drewN ?_ _ | refine Below.trans ?_ (Below.mono (by assumption) (by first | omega | (simp; omega) | (simp; done))) | refine Below.alloc ?_ (by first | omega | (simp; omega) | (simp; done)) _ | refine Below.setCell ?_ (by first | omega | (simp; omega) | (simp; done)) _))
  have k_x_8_0 : w8.cell? ⟨w4.heap.size, 0, none⟩ = some (.int .i64 (0)) := (hb_x_8.cell (p := ⟨w4.heap.size, 0, none⟩) (by simp)).trans (by rw [World.cell?_alloc_at _ _ _ _ (by simp)]; rfl)
  have k_x_8_1 : w8.cell? ⟨w4.heap.size, 1, none⟩ = some (.int .i64 (0)) := (hb_x_8.cell (p := ⟨w4.heap.size, 1, none⟩) (by simp)).trans (by rw [World.cell?_alloc_at _ _ _ _ (by simp)]; rfl)
  have m_x_8_0 : w8.frozen? ⟨w4.heap.size, 0, none⟩ = false := (hb_x_8.frozen (p := ⟨w4.heap.size, 0, none⟩) (by simp)).trans (World.frozen?_alloc_at _ _ _ _ (by simp))
  have m_x_8_1 : w8.frozen? ⟨w4.heap.size, 1, none⟩ = false := (hb_x_8.frozen (p := ⟨w4.heap.size, 1, none⟩) (by simp)).trans (World.frozen?_alloc_at _ _ _ _ (by simp))
  have lt_x_8 : w4.heap.size < w8.heap.size := by have := hb_x_8.size; simp at this; omega
  clear hb_x_8
  have hb_p_8 : Below (w5.heap.size + 1) (w5.alloc (.cells #[.int .i64 (0), .int .i64 (0)] 23)) w8 := (by repeat (first | exact Below.refl _ _ | refine Below.drew ?_ | refine below_drewN ?_ _ | refine Below.trans ?_ (Below.mono (by assumption) (by first | omega | (simp; omega) | (simp; done))) | refine Below.alloc ?_ (by first | omega | (simp; omega) | (simp; done)) _ | refine Below.setCell ?_ (by first | omega | (simp; omega) | (simp; done)) _))
  have k_p_8_0 : w8.cell? ⟨w5.heap.size, 0, none⟩ = some (.int .i64 (0)) := (hb_p_8.cell (p := ⟨w5.heap.size, 0, none⟩) (by simp)).trans (by rw [World.cell?_alloc_at _ _ _ _ (by simp)]; rfl)
  have k_p_8_1 : w8.cell? ⟨w5.heap.size, 1, none⟩ = some (.int .i64 (0)) := (hb_p_8.cell (p := ⟨w5.heap.size, 1, none⟩) (by simp)).trans (by rw [World.cell?_alloc_at _ _ _ _ (by simp)]; rfl)
  have m_p_8_0 : w8.frozen? ⟨w5.heap.size, 0, none⟩ = false := (hb_p_8.frozen (p := ⟨w5.heap.size, 0, none⟩) (by simp)).trans (World.frozen?_alloc_at _ _ _ _ (by simp))
  have m_p_8_1 : w8.frozen? ⟨w5.heap.size, 1, none⟩ = false := (hb_p_8.frozen (p := ⟨w5.heap.size, 1, none⟩) (by simp)).trans (World.frozen?_alloc_at _ _ _ _ (by simp))
  have lt_p_8 : w5.heap.size < w8.heap.size := by have := hb_p_8.size; simp at this; omega
  clear hb_p_8
  have hb_l_8 : Below (w6.heap.size + 1) (w6.alloc (.cells #[.int .i64 (a), .int .i64 (5)] 23)) w8 := (by repeat (first | exact Below.refl _ _ | refine Below.drew ?_ | refine below_drewN ?_ _ | refine Below.trans ?_ (Below.mono (by assumption) (by first | omega | (simp; omega) | (simp; done))) | refine Below.alloc ?_ (by first | omega | (simp; omega) | (simp; done)) _ | refine Below.setCell ?_ (by first | omega | (simp; omega) | (simp; done)) _))
  have k_l_8_0 : w8.cell? ⟨w6.heap.size, 0, none⟩ = some (.int .i64 (a)) := (hb_l_8.cell (p := ⟨w6.heap.size, 0, none⟩) (by simp)).trans (by rw [World.cell?_alloc_at _ _ _ _ (by simp)]; rfl)
  have k_l_8_1 : w8.cell? ⟨w6.heap.size, 1, none⟩ = some (.int .i64 (5)) := (hb_l_8.cell (p := ⟨w6.heap.size, 1, none⟩) (by simp)).trans (by rw [World.cell?_alloc_at _ _ _ _ (by simp)]; rfl)
  have m_l_8_0 : w8.frozen? ⟨w6.heap.size, 0, none⟩ = false := (hb_l_8.frozen (p := ⟨w6.heap.size, 0, none⟩) (by simp)).trans (World.frozen?_alloc_at _ _ _ _ (by simp))
  have m_l_8_1 : w8.frozen? ⟨w6.heap.size, 1, none⟩ = false := (hb_l_8.frozen (p := ⟨w6.heap.size, 1, none⟩) (by simp)).trans (World.frozen?_alloc_at _ _ _ _ (by simp))
  have lt_l_8 : w6.heap.size < w8.heap.size := by have := hb_l_8.size; simp at this; omega
  clear hb_l_8
  have hb_h_8 : Below (w6.heap.size + 1 + 1) ((w6.alloc (.cells #[.int .i64 (a), .int .i64 (5)] 23)).alloc (.cells #[.int .i64 (a + sz 5), .int .i64 (5)] 23)) w8 := (by repeat (first | exact Below.refl _ _ | refine Below.drew ?_ | refine below_drewN ?_ _ | refine Below.trans ?_ (Below.mono (by assumption) (by first | omega | (simp; omega) | (simp; done))) | refine Below.alloc ?_ (by first | omega | (simp; omega) | (simp; done)) _ | refine Below.setCell ?_ (by first | omega | (simp; omega) | (simp; done)) _))
  have k_h_8_0 : w8.cell? ⟨w6.heap.size + 1, 0, none⟩ = some (.int .i64 (a + sz 5)) := (hb_h_8.cell (p := ⟨w6.heap.size + 1, 0, none⟩) (by simp)).trans (by rw [World.cell?_alloc_at _ _ _ _ (by simp)]; rfl)
  have k_h_8_1 : w8.cell? ⟨w6.heap.size + 1, 1, none⟩ = some (.int .i64 (5)) := (hb_h_8.cell (p := ⟨w6.heap.size + 1, 1, none⟩) (by simp)).trans (by rw [World.cell?_alloc_at _ _ _ _ (by simp)]; rfl)
  have m_h_8_0 : w8.frozen? ⟨w6.heap.size + 1, 0, none⟩ = false := (hb_h_8.frozen (p := ⟨w6.heap.size + 1, 0, none⟩) (by simp)).trans (World.frozen?_alloc_at _ _ _ _ (by simp))
  have m_h_8_1 : w8.frozen? ⟨w6.heap.size + 1, 1, none⟩ = false := (hb_h_8.frozen (p := ⟨w6.heap.size + 1, 1, none⟩) (by simp)).trans (World.frozen?_alloc_at _ _ _ _ (by simp))
  have lt_h_8 : w6.heap.size + 1 < w8.heap.size := by have := hb_h_8.size; simp at this; omega
  clear hb_h_8
  have hb_none_8 : Below (w6.heap.size + 1 + 1 + 1) (((w6.alloc (.cells #[.int .i64 (a), .int .i64 (5)] 23)).alloc (.cells #[.int .i64 (a + sz 5), .int .i64 (5)] 23)).alloc (.cells #[.int .i64 (0), .int .i64 (0)] 23)) w8 := (by repeat (first | exact Below.refl _ _ | refine Below.drew ?_ | refine below_drewN ?_ _ | refine Below.trans ?_ (Below.mono (by assumption) (by first | omega | (simp; omega) | (simp; done))) | refine Below.alloc ?_ (by first | omega | (simp; omega) | (simp; done)) _ | refine Below.setCell ?_ (by first | omega | (simp; omega) | (simp; done)) _))
  have k_none_8_0 : w8.cell? ⟨w6.heap.size + 1 + 1, 0, none⟩ = some (.int .i64 (0)) := (hb_none_8.cell (p := ⟨w6.heap.size + 1 + 1, 0, none⟩) (by simp)).trans (by rw [World.cell?_alloc_at _ _ _ _ (by simp)]; rfl)
  have k_none_8_1 : w8.cell? ⟨w6.heap.size + 1 + 1, 1, none⟩ = some (.int .i64 (0)) := (hb_none_8.cell (p := ⟨w6.heap.size + 1 + 1, 1, none⟩) (by simp)).trans (by rw [World.cell?_alloc_at _ _ _ _ (by simp)]; rfl)
  have m_none_8_0 : w8.frozen? ⟨w6.heap.size + 1 + 1, 0, none⟩ = false := (hb_none_8.frozen (p := ⟨w6.heap.size + 1 + 1, 0, none⟩) (by simp)).trans (World.frozen?_alloc_at _ _ _ _ (by simp))
  have m_none_8_1 : w8.frozen? ⟨w6.heap.size + 1 + 1, 1, none⟩ = false := (hb_none_8.frozen (p := ⟨w6.heap.size + 1 + 1, 1, none⟩) (by simp)).trans (World.frozen?_alloc_at _ _ _ _ (by simp))
  have lt_none_8 : w6.heap.size + 1 + 1 < w8.heap.size := by have := hb_none_8.size; simp at this; omega
  clear hb_none_8
  have hE8 : Errs B ev w8 := hE7.go hb8
  go_wp2_with fail
  obtain ⟨w9, hw9⟩ : ∃ w9, w9 = w8.alloc (.cells #[.int .i64 (a), .int .i64 (5)] 23) := ⟨_, rfl⟩
  rw [← hw9]
  have hb9 : Below (w8.alloc (.cells #[.int .i64 (a), .int .i64 (5)] 23)).heap.size (w8.alloc (.cells #[.int .i64 (a), .int .i64 (5)] 23)) w9 := by rw [hw9]; exact Below.refl _ _
  have z9 := hb9.size; try simp at z9
  clear hw9
  have hb_l_9 : Below (w6.heap.size + 1) (w6.alloc (.cells #[.int .i64 (a), .int .i64 (5)] 23)) w9 := (by repeat (first | exact Below.refl _ _ | refine Below.drew ?_ | refine below_drewN ?_ _ | refine Below.trans ?_ (Below.mono (by assumption) (by first | omega | (simp; omega) | (simp; done))) | refine Below.alloc ?_ (by first | omega | (simp; omega) | (simp; done)) _ | refine Below.setCell ?_ (by first | omega | (simp; omega) | (simp; done)) _))
  have k_l_9_0 : w9.cell? ⟨w6.heap.size, 0, none⟩ = some (.int .i64 (a)) := (hb_l_9.cell (p := ⟨w6.heap.size, 0, none⟩) (by simp)).trans (by rw [World.cell?_alloc_at _ _ _ _ (by simp)]; rfl)
  have k_l_9_1 : w9.cell? ⟨w6.heap.size, 1, none⟩ = some (.int .i64 (5)) := (hb_l_9.cell (p := ⟨w6.heap.size, 1, none⟩) (by simp)).trans (by rw [World.cell?_alloc_at _ _ _ _ (by simp)]; rfl)
  have m_l_9_0 : w9.frozen? ⟨w6.heap.size, 0, none⟩ = false := (hb_l_9.frozen (p := ⟨w6.heap.size, 0, none⟩) (by simp)).trans (World.frozen?_alloc_at _ _ _ _ (by simp))
  have m_l_9_1 : w9.frozen? ⟨w6.heap.size, 1, none⟩ = false := (hb_l_9.frozen (p := ⟨w6.heap.size, 1, none⟩) (by simp)).trans (World.frozen?_alloc_at _ _ _ _ (by simp))
  have lt_l_9 : w6.heap.size < w9.heap.size := by have := hb_l_9.size; simp at this; omega
  clear hb_l_9
  have hb_h_9 : Below (w6.heap.size + 1 + 1) ((w6.alloc (.cells #[.int .i64 (a), .int .i64 (5)] 23)).alloc (.cells #[.int .i64 (a + sz 5), .int .i64 (5)] 23)) w9 := (by repeat (first | exact Below.refl _ _ | refine Below.drew ?_ | refine below_drewN ?_ _ | refine Below.trans ?_ (Below.mono (by assumption) (by first | omega | (simp; omega) | (simp; done))) | refine Below.alloc ?_ (by first | omega | (simp; omega) | (simp; done)) _ | refine Below.setCell ?_ (by first | omega | (simp; omega) | (simp; done)) _))
  have k_h_9_0 : w9.cell? ⟨w6.heap.size + 1, 0, none⟩ = some (.int .i64 (a + sz 5)) := (hb_h_9.cell (p := ⟨w6.heap.size + 1, 0, none⟩) (by simp)).trans (by rw [World.cell?_alloc_at _ _ _ _ (by simp)]; rfl)
  have k_h_9_1 : w9.cell? ⟨w6.heap.size + 1, 1, none⟩ = some (.int .i64 (5)) := (hb_h_9.cell (p := ⟨w6.heap.size + 1, 1, none⟩) (by simp)).trans (by rw [World.cell?_alloc_at _ _ _ _ (by simp)]; rfl)
  have m_h_9_0 : w9.frozen? ⟨w6.heap.size + 1, 0, none⟩ = false := (hb_h_9.frozen (p := ⟨w6.heap.size + 1, 0, none⟩) (by simp)).trans (World.frozen?_alloc_at _ _ _ _ (by simp))
  have m_h_9_1 : w9.frozen? ⟨w6.heap.size + 1, 1, none⟩ = false := (hb_h_9.frozen (p := ⟨w6.heap.size + 1, 1, none⟩) (by simp)).trans (World.frozen?_alloc_at _ _ _ _ (by simp))
  have lt_h_9 : w6.heap.size + 1 < w9.heap.size := by have := hb_h_9.size; simp at this; omega
  clear hb_h_9
  have hb_low_9 : Below (w8.heap.size + 1) (w8.alloc (.cells #[.int .i64 (a), .int .i64 (5)] 23)) w9 := (by repeat (first | exact Below.refl _ _ | refine Below.drew ?_ | refine below_drewN ?_ _ | refine Below.trans ?_ (Below.mono (by assumption) (by first | omega | (simp; omega) | (simp; done))) | refine Below.alloc ?_ (by first | omega | (simp; omega) | (simp; done)) _ | refine Below.setCell ?_ (by first | omega | (simp; omega) | (simp; done)) _))
  have k_low_9_0 : w9.cell? ⟨w8.heap.size, 0, none⟩ = some (.int .i64 (a)) := (hb_low_9.cell (p := ⟨w8.heap.size, 0, none⟩) (by simp)).trans (by rw [World.cell?_alloc_at _ _ _ _ (by simp)]; rfl)
  have k_low_9_1 : w9.cell? ⟨w8.heap.size, 1, none⟩ = some (.int .i64 (5)) := (hb_low_9.cell (p := ⟨w8.heap.size, 1, none⟩) (by simp)).trans (by rw [World.cell?_alloc_at _ _ _ _ (by simp)]; rfl)
  have m_low_9_0 : w9.frozen? ⟨w8.heap.size, 0, none⟩ = false := (hb_low_9.frozen (p := ⟨w8.heap.size, 0, none⟩) (by simp)).trans (World.frozen?_alloc_at _ _ _ _ (by simp))
  have m_low_9_1 : w9.frozen? ⟨w8.heap.size, 1, none⟩ = false := (hb_low_9.frozen (p := ⟨w8.heap.size, 1, none⟩) (by simp)).trans (World.frozen?_alloc_at _ _ _ _ (by simp))
  have lt_low_9 : w8.heap.size < w9.heap.size := by have := hb_low_9.size; simp at this; omega
  clear hb_low_9
  refine wp_region_behind (by kernel_rfl) (by kernel_rfl) ?_
  repeat (go_big_quiet_step (first | (go_at_call 26; exact Calls.behind (HL.out _))))
  refine wpQuiet_nil ?_
  intro w10 hw'
  have hb10 := behind_out hw'
  clear hw'
  have z10 := hb10.size; try simp at z10
  go_wp2
  go_ret
  exact ⟨rfl, (by repeat (first | exact Below.refl _ _ | refine Below.drew ?_ | refine below_drewN ?_ _ | refine Below.trans ?_ (Below.mono (by assumption) (by first | omega | (simp; omega) | (simp; done))) | refine Below.alloc ?_ (by first | omega | (simp; omega) | (simp; done)) _ | refine Below.setCell ?_ (by first | omega | (simp; omega) | (simp; done)) _))⟩
set_option maxHeartbeats 4000000 in
set_option maxRecDepth 100000 in
theorem framesBlocks_zero {B : Nat} {ev : Nat → Addr} (a n : Int) (w : World) (hE : Errs B ev w) (hc : aloneE a 0 = 0) :
    Calls Tryd.prog 6 #[.agg #[.int .i64 a, .int .i64 0], .int .i64 n] w fun e w' => e = .returned (.bool true) ∧ Below w.heap.size w w' := by
  have eb := eqB
  have nb := neqB
  have gb := guardB
  have hB := hE.size
  obtain ⟨a0, a1, _, _, hm⟩ := aloneE_zero hc
  have HM := Lib.hid hm; have HC := Lib.hid hc
  clear hm
  have HU : Hid (upE a 0 = 0) := upE_mk hc (by decide)
  have HD : Hid (downE a 0 = 3 + 1) := by show downE a 0 = 4; unfold downE; rw [if_pos hc]; rfl
  have HK : Hid ((0 : Int) ≤ 0 ∧ (0 : Int) ≤ 5) := by constructor <;> decide
  clear hc
  go_enter Tryd.func6, Tryd.ntmps6
  go_wp2_with fail
  refine (halved_yes _ (hE.c.below (by repeat (first | exact Below.refl _ _ | refine Below.drew ?_ | refine below_drewN ?_ _ | refine Below.trans ?_ (Below.mono (by assumption) (by first | omega | (simp; omega) | (simp; done))) | refine Below.alloc ?_ (by first | omega | (simp; omega) | (simp; done)) _ | refine Below.setCell ?_ (by first | omega | (simp; omega) | (simp; done)) _)))).mono ?_
  rintro e w1 ⟨rfl, hb1⟩; have z1 := hb1.size; try simp at z1
  have hb_b_1 : Below (w.heap.size + 1) (w.alloc (.cells #[.int .i64 (a), .int .i64 (0)] 23)) w1 := (by repeat (first | exact Below.refl _ _ | refine Below.drew ?_ | refine below_drewN ?_ _ | refine Below.trans ?_ (Below.mono (by assumption) (by first | omega | (simp; omega) | (simp; done))) | refine Below.alloc ?_ (by first | omega | (simp; omega) | (simp; done)) _ | refine Below.setCell ?_ (by first | omega | (simp; omega) | (simp; done)) _))
  have k_b_1_0 : w1.cell? ⟨w.heap.size, 0, none⟩ = some (.int .i64 (a)) := (hb_b_1.cell (p := ⟨w.heap.size, 0, none⟩) (by simp)).trans (by rw [World.cell?_alloc_at _ _ _ _ (by simp)]; rfl)
  have k_b_1_1 : w1.cell? ⟨w.heap.size, 1, none⟩ = some (.int .i64 (0)) := (hb_b_1.cell (p := ⟨w.heap.size, 1, none⟩) (by simp)).trans (by rw [World.cell?_alloc_at _ _ _ _ (by simp)]; rfl)
  have m_b_1_0 : w1.frozen? ⟨w.heap.size, 0, none⟩ = false := (hb_b_1.frozen (p := ⟨w.heap.size, 0, none⟩) (by simp)).trans (World.frozen?_alloc_at _ _ _ _ (by simp))
  have m_b_1_1 : w1.frozen? ⟨w.heap.size, 1, none⟩ = false := (hb_b_1.frozen (p := ⟨w.heap.size, 1, none⟩) (by simp)).trans (World.frozen?_alloc_at _ _ _ _ (by simp))
  have lt_b_1 : w.heap.size < w1.heap.size := by have := hb_b_1.size; simp at this; omega
  clear hb_b_1
  have hE1 : Errs B ev w1 := hE.below (by repeat (first | exact Below.refl _ _ | refine Below.drew ?_ | refine below_drewN ?_ _ | refine Below.trans ?_ (Below.mono (by assumption) (by first | omega | (simp; omega) | (simp; done))) | refine Below.alloc ?_ (by first | omega | (simp; omega) | (simp; done)) _ | refine Below.setCell ?_ (by first | omega | (simp; omega) | (simp; done)) _))
  go_wp2_with fail
  refine wp_region_behind (by kernel_rfl) (by kernel_rfl) ?_
  repeat (go_big_quiet_step (first | (go_at_call 23; exact Calls.behind (check_any _ _ _ _ (hE1.c.below (Below.mono (Behind.h _) hE1.size)))) | (go_at_call 24; exact Calls.behind (blockError_any _ _ _ _)) | (go_at_call 17; exact Calls.behind (coded_at _ _ _ (hE1.below (Below.mono (Behind.h _) hE1.size)) (checkE_le _ _ _) rfl))))
  refine wpQuiet_nil ?_
  intro w2 hw'
  have hb2 := behind_out hw'
  clear hw'
  have z2 := hb2.size; try simp at z2
  have hE2 : Errs B ev w2 := hE1.go hb2
  have hb_b_2 : Below (w.heap.size + 1) (w.alloc (.cells #[.int .i64 (a), .int .i64 (0)] 23)) w2 := (by repeat (first | exact Below.refl _ _ | refine Below.drew ?_ | refine below_drewN ?_ _ | refine Below.trans ?_ (Below.mono (by assumption) (by first | omega | (simp; omega) | (simp; done))) | refine Below.alloc ?_ (by first | omega | (simp; omega) | (simp; done)) _ | refine Below.setCell ?_ (by first | omega | (simp; omega) | (simp; done)) _))
  have k_b_2_0 : w2.cell? ⟨w.heap.size, 0, none⟩ = some (.int .i64 (a)) := (hb_b_2.cell (p := ⟨w.heap.size, 0, none⟩) (by simp)).trans (by rw [World.cell?_alloc_at _ _ _ _ (by simp)]; rfl)
  have k_b_2_1 : w2.cell? ⟨w.heap.size, 1, none⟩ = some (.int .i64 (0)) := (hb_b_2.cell (p := ⟨w.heap.size, 1, none⟩) (by simp)).trans (by rw [World.cell?_alloc_at _ _ _ _ (by simp)]; rfl)
  have m_b_2_0 : w2.frozen? ⟨w.heap.size, 0, none⟩ = false := (hb_b_2.frozen (p := ⟨w.heap.size, 0, none⟩) (by simp)).trans (World.frozen?_alloc_at _ _ _ _ (by simp))
  have m_b_2_1 : w2.frozen? ⟨w.heap.size, 1, none⟩ = false := (hb_b_2.frozen (p := ⟨w.heap.size, 1, none⟩) (by simp)).trans (World.frozen?_alloc_at _ _ _ _ (by simp))
  have lt_b_2 : w.heap.size < w2.heap.size := by have := hb_b_2.size; simp at this; omega
  clear hb_b_2
  go_wp2_with fail
  refine (aloneError_any _ _ _).mono ?_
  rintro e w3 ⟨rfl, hb3⟩; have z3 := hb3.size; try simp at z3
  have hb_b_3 : Below (w.heap.size + 1) (w.alloc (.cells #[.int .i64 (a), .int .i64 (0)] 23)) w3 := (by repeat (first | exact Below.refl _ _ | refine Below.drew ?_ | refine below_drewN ?_ _ | refine Below.trans ?_ (Below.mono (by assumption) (by first | omega | (simp; omega) | (simp; done))) | refine Below.alloc ?_ (by first | omega | (simp; omega) | (simp; done)) _ | refine Below.setCell ?_ (by first | omega | (simp; omega) | (simp; done)) _))
  have k_b_3_0 : w3.cell? ⟨w.heap.size, 0, none⟩ = some (.int .i64 (a)) := (hb_b_3.cell (p := ⟨w.heap.size, 0, none⟩) (by simp)).trans (by rw [World.cell?_alloc_at _ _ _ _ (by simp)]; rfl)
  have k_b_3_1 : w3.cell? ⟨w.heap.size, 1, none⟩ = some (.int .i64 (0)) := (hb_b_3.cell (p := ⟨w.heap.size, 1, none⟩) (by simp)).trans (by rw [World.cell?_alloc_at _ _ _ _ (by simp)]; rfl)
  have m_b_3_0 : w3.frozen? ⟨w.heap.size, 0, none⟩ = false := (hb_b_3.frozen (p := ⟨w.heap.size, 0, none⟩) (by simp)).trans (World.frozen?_alloc_at _ _ _ _ (by simp))
  have m_b_3_1 : w3.frozen? ⟨w.heap.size, 1, none⟩ = false := (hb_b_3.frozen (p := ⟨w.heap.size, 1, none⟩) (by simp)).trans (World.frozen?_alloc_at _ _ _ _ (by simp))
  have lt_b_3 : w.heap.size < w3.heap.size := by have := hb_b_3.size; simp at this; omega
  clear hb_b_3
  have hE3 : Errs B ev w3 := hE2.go hb3
  rw [HC.out]
  go_wp2_with fail
  refine (buddy_ok a 0 _ hE3.c HU.out).mono ?_
  rintro e w4 ⟨rfl, hb4⟩; have z4 := hb4.size; try simp at z4
  have hb_b_4 : Below (w.heap.size + 1) (w.alloc (.cells #[.int .i64 (a), .int .i64 (0)] 23)) w4 := (by repeat (first | exact Below.refl _ _ | refine Below.drew ?_ | refine below_drewN ?_ _ | refine Below.trans ?_ (Below.mono (by assumption) (by first | omega | (simp; omega) | (simp; done))) | refine Below.alloc ?_ (by first | omega | (simp; omega) | (simp; done)) _ | refine Below.setCell ?_ (by first | omega | (simp; omega) | (simp; done)) _))
  have k_b_4_0 : w4.cell? ⟨w.heap.size, 0, none⟩ = some (.int .i64 (a)) := (hb_b_4.cell (p := ⟨w.heap.size, 0, none⟩) (by simp)).trans (by rw [World.cell?_alloc_at _ _ _ _ (by simp)]; rfl)
  have k_b_4_1 : w4.cell? ⟨w.heap.size, 1, none⟩ = some (.int .i64 (0)) := (hb_b_4.cell (p := ⟨w.heap.size, 1, none⟩) (by simp)).trans (by rw [World.cell?_alloc_at _ _ _ _ (by simp)]; rfl)
  have m_b_4_0 : w4.frozen? ⟨w.heap.size, 0, none⟩ = false := (hb_b_4.frozen (p := ⟨w.heap.size, 0, none⟩) (by simp)).trans (World.frozen?_alloc_at _ _ _ _ (by simp))
  have m_b_4_1 : w4.frozen? ⟨w.heap.size, 1, none⟩ = false := (hb_b_4.frozen (p := ⟨w.heap.size, 1, none⟩) (by simp)).trans (World.frozen?_alloc_at _ _ _ _ (by simp))
  have lt_b_4 : w.heap.size < w4.heap.size := by have := hb_b_4.size; simp at this; omega
  clear hb_b_4
  have hE4 : Errs B ev w4 := hE3.go hb4
  go_wp2_with fail
  refine (parent_ok a 0 _ (hE4.c.below (by repeat (first | exact Below.refl _ _ | refine Below.drew ?_ | refine below_drewN ?_ _ | refine Below.trans ?_ (Below.mono (by assumption) (by first | omega | (simp; omega) | (simp; done))) | refine Below.alloc ?_ (by first | omega | (simp; omega) | (simp; done)) _ | refine Below.setCell ?_ (by first | omega | (simp; omega) | (simp; done)) _))) HU.out).mono ?_
  rintro e w5 ⟨rfl, hb5⟩; have z5 := hb5.size; try simp at z5
  have hb_b_5 : Below (w.heap.size + 1) (w.alloc (.cells #[.int .i64 (a), .int .i64 (0)] 23)) w5 := (by repeat (first | exact Below.refl _ _ | refine Below.drew ?_ | refine below_drewN ?_ _ | refine Below.trans ?_ (Below.mono (by assumption) (by first | omega | (simp; omega) | (simp; done))) | refine Below.alloc ?_ (by first | omega | (simp; omega) | (simp; done)) _ | refine Below.setCell ?_ (by first | omega | (simp; omega) | (simp; done)) _))
  have k_b_5_0 : w5.cell? ⟨w.heap.size, 0, none⟩ = some (.int .i64 (a)) := (hb_b_5.cell (p := ⟨w.heap.size, 0, none⟩) (by simp)).trans (by rw [World.cell?_alloc_at _ _ _ _ (by simp)]; rfl)
  have k_b_5_1 : w5.cell? ⟨w.heap.size, 1, none⟩ = some (.int .i64 (0)) := (hb_b_5.cell (p := ⟨w.heap.size, 1, none⟩) (by simp)).trans (by rw [World.cell?_alloc_at _ _ _ _ (by simp)]; rfl)
  have m_b_5_0 : w5.frozen? ⟨w.heap.size, 0, none⟩ = false := (hb_b_5.frozen (p := ⟨w.heap.size, 0, none⟩) (by simp)).trans (World.frozen?_alloc_at _ _ _ _ (by simp))
  have m_b_5_1 : w5.frozen? ⟨w.heap.size, 1, none⟩ = false := (hb_b_5.frozen (p := ⟨w.heap.size, 1, none⟩) (by simp)).trans (World.frozen?_alloc_at _ _ _ _ (by simp))
  have lt_b_5 : w.heap.size < w5.heap.size := by have := hb_b_5.size; simp at this; omega
  clear hb_b_5
  have hb_x_5 : Below (w4.heap.size + 1) (w4.alloc (.cells #[.int .i64 (budA a 0), .int .i64 (0)] 23)) w5 := (by repeat (first | exact Below.refl _ _ | refine Below.drew ?_ | refine below_drewN ?_ _ | refine Below.trans ?_ (Below.mono (by assumption) (by first | omega | (simp; omega) | (simp; done))) | refine Below.alloc ?_ (by first | omega | (simp; omega) | (simp; done)) _ | refine Below.setCell ?_ (by first | omega | (simp; omega) | (simp; done)) _))
  have k_x_5_0 : w5.cell? ⟨w4.heap.size, 0, none⟩ = some (.int .i64 (budA a 0)) := (hb_x_5.cell (p := ⟨w4.heap.size, 0, none⟩) (by simp)).trans (by rw [World.cell?_alloc_at _ _ _ _ (by simp)]; rfl)
  have k_x_5_1 : w5.cell? ⟨w4.heap.size, 1, none⟩ = some (.int .i64 (0)) := (hb_x_5.cell (p := ⟨w4.heap.size, 1, none⟩) (by simp)).trans (by rw [World.cell?_alloc_at _ _ _ _ (by simp)]; rfl)
  have m_x_5_0 : w5.frozen? ⟨w4.heap.size, 0, none⟩ = false := (hb_x_5.frozen (p := ⟨w4.heap.size, 0, none⟩) (by simp)).trans (World.frozen?_alloc_at _ _ _ _ (by simp))
  have m_x_5_1 : w5.frozen? ⟨w4.heap.size, 1, none⟩ = false := (hb_x_5.frozen (p := ⟨w4.heap.size, 1, none⟩) (by simp)).trans (World.frozen?_alloc_at _ _ _ _ (by simp))
  have lt_x_5 : w4.heap.size < w5.heap.size := by have := hb_x_5.size; simp at this; omega
  clear hb_x_5
  have hE5 : Errs B ev w5 := hE4.below (by repeat (first | exact Below.refl _ _ | refine Below.drew ?_ | refine below_drewN ?_ _ | refine Below.trans ?_ (Below.mono (by assumption) (by first | omega | (simp; omega) | (simp; done))) | refine Below.alloc ?_ (by first | omega | (simp; omega) | (simp; done)) _ | refine Below.setCell ?_ (by first | omega | (simp; omega) | (simp; done)) _))
  go_wp2_with fail
  refine (halves_err a 0 3 _ (hE5.c.below (by repeat (first | exact Below.refl _ _ | refine Below.drew ?_ | refine below_drewN ?_ _ | refine Below.trans ?_ (Below.mono (by assumption) (by first | omega | (simp; omega) | (simp; done))) | refine Below.alloc ?_ (by first | omega | (simp; omega) | (simp; done)) _ | refine Below.setCell ?_ (by first | omega | (simp; omega) | (simp; done)) _))) HD.out).mono ?_
  rintro e w6 ⟨rfl, hb6⟩; have z6 := hb6.size; try simp at z6
  have hb_b_6 : Below (w.heap.size + 1) (w.alloc (.cells #[.int .i64 (a), .int .i64 (0)] 23)) w6 := (by repeat (first | exact Below.refl _ _ | refine Below.drew ?_ | refine below_drewN ?_ _ | refine Below.trans ?_ (Below.mono (by assumption) (by first | omega | (simp; omega) | (simp; done))) | refine Below.alloc ?_ (by first | omega | (simp; omega) | (simp; done)) _ | refine Below.setCell ?_ (by first | omega | (simp; omega) | (simp; done)) _))
  have k_b_6_0 : w6.cell? ⟨w.heap.size, 0, none⟩ = some (.int .i64 (a)) := (hb_b_6.cell (p := ⟨w.heap.size, 0, none⟩) (by simp)).trans (by rw [World.cell?_alloc_at _ _ _ _ (by simp)]; rfl)
  have k_b_6_1 : w6.cell? ⟨w.heap.size, 1, none⟩ = some (.int .i64 (0)) := (hb_b_6.cell (p := ⟨w.heap.size, 1, none⟩) (by simp)).trans (by rw [World.cell?_alloc_at _ _ _ _ (by simp)]; rfl)
  have m_b_6_0 : w6.frozen? ⟨w.heap.size, 0, none⟩ = false := (hb_b_6.frozen (p := ⟨w.heap.size, 0, none⟩) (by simp)).trans (World.frozen?_alloc_at _ _ _ _ (by simp))
  have m_b_6_1 : w6.frozen? ⟨w.heap.size, 1, none⟩ = false := (hb_b_6.frozen (p := ⟨w.heap.size, 1, none⟩) (by simp)).trans (World.frozen?_alloc_at _ _ _ _ (by simp))
  have lt_b_6 : w.heap.size < w6.heap.size := by have := hb_b_6.size; simp at this; omega
  clear hb_b_6
  have hb_x_6 : Below (w4.heap.size + 1) (w4.alloc (.cells #[.int .i64 (budA a 0), .int .i64 (0)] 23)) w6 := (by repeat (first | exact Below.refl _ _ | refine Below.drew ?_ | refine below_drewN ?_ _ | refine Below.trans ?_ (Below.mono (by assumption) (by first | omega | (simp; omega) | (simp; done))) | refine Below.alloc ?_ (by first | omega | (simp; omega) | (simp; done)) _ | refine Below.setCell ?_ (by first | omega | (simp; omega) | (simp; done)) _))
  have k_x_6_0 : w6.cell? ⟨w4.heap.size, 0, none⟩ = some (.int .i64 (budA a 0)) := (hb_x_6.cell (p := ⟨w4.heap.size, 0, none⟩) (by simp)).trans (by rw [World.cell?_alloc_at _ _ _ _ (by simp)]; rfl)
  have k_x_6_1 : w6.cell? ⟨w4.heap.size, 1, none⟩ = some (.int .i64 (0)) := (hb_x_6.cell (p := ⟨w4.heap.size, 1, none⟩) (by simp)).trans (by rw [World.cell?_alloc_at _ _ _ _ (by simp)]; rfl)
  have m_x_6_0 : w6.frozen? ⟨w4.heap.size, 0, none⟩ = false := (hb_x_6.frozen (p := ⟨w4.heap.size, 0, none⟩) (by simp)).trans (World.frozen?_alloc_at _ _ _ _ (by simp))
  have m_x_6_1 : w6.frozen? ⟨w4.heap.size, 1, none⟩ = false := (hb_x_6.frozen (p := ⟨w4.heap.size, 1, none⟩) (by simp)).trans (World.frozen?_alloc_at _ _ _ _ (by simp))
  have lt_x_6 : w4.heap.size < w6.heap.size := by have := hb_x_6.size; simp at this; omega
  clear hb_x_6
  have hb_p_6 : Below (w5.heap.size + 1) (w5.alloc (.cells #[.int .i64 (parA a 0), .int .i64 (0 + 1)] 23)) w6 := (by repeat (first | exact Below.refl _ _ | refine Below.drew ?_ | refine below_drewN ?_ _ | refine Below.trans ?_ (Below.mono (by assumption) (by first | omega | (simp; omega) | (simp; done))) | refine Below.alloc ?_ (by first | omega | (simp; omega) | (simp; done)) _ | refine Below.setCell ?_ (by first | omega | (simp; omega) | (simp; done)) _))
  have k_p_6_0 : w6.cell? ⟨w5.heap.size, 0, none⟩ = some (.int .i64 (parA a 0)) := (hb_p_6.cell (p := ⟨w5.heap.size, 0, none⟩) (by simp)).trans (by rw [World.cell?_alloc_at _ _ _ _ (by simp)]; rfl)
  have k_p_6_1 : w6.cell? ⟨w5.heap.size, 1, none⟩ = some (.int .i64 (0 + 1)) := (hb_p_6.cell (p := ⟨w5.heap.size, 1, none⟩) (by simp)).trans (by rw [World.cell?_alloc_at _ _ _ _ (by simp)]; rfl)
  have m_p_6_0 : w6.frozen? ⟨w5.heap.size, 0, none⟩ = false := (hb_p_6.frozen (p := ⟨w5.heap.size, 0, none⟩) (by simp)).trans (World.frozen?_alloc_at _ _ _ _ (by simp))
  have m_p_6_1 : w6.frozen? ⟨w5.heap.size, 1, none⟩ = false := (hb_p_6.frozen (p := ⟨w5.heap.size, 1, none⟩) (by simp)).trans (World.frozen?_alloc_at _ _ _ _ (by simp))
  have lt_p_6 : w5.heap.size < w6.heap.size := by have := hb_p_6.size; simp at this; omega
  clear hb_p_6
  have hE6 : Errs B ev w6 := hE5.below (by repeat (first | exact Below.refl _ _ | refine Below.drew ?_ | refine below_drewN ?_ _ | refine Below.trans ?_ (Below.mono (by assumption) (by first | omega | (simp; omega) | (simp; done))) | refine Below.alloc ?_ (by first | omega | (simp; omega) | (simp; done)) _ | refine Below.setCell ?_ (by first | omega | (simp; omega) | (simp; done)) _))
  go_wp2_with fail
  obtain ⟨w7, hw7⟩ : ∃ w7, w7 = ((w6.alloc (.cells #[.int .i64 (0), .int .i64 (0)] 23)).alloc (.cells #[.int .i64 (0), .int .i64 (0)] 23)).alloc (.cells #[.int .i64 (0), .int .i64 (0)] 23) := ⟨_, rfl⟩
  rw [← hw7]
  have hb7 : Below (((w6.alloc (.cells #[.int .i64 (0), .int .i64 (0)] 23)).alloc (.cells #[.int .i64 (0), .int .i64 (0)] 23)).alloc (.cells #[.int .i64 (0), .int .i64 (0)] 23)).heap.size (((w6.alloc (.cells #[.int .i64 (0), .int .i64 (0)] 23)).alloc (.cells #[.int .i64 (0), .int .i64 (0)] 23)).alloc (.cells #[.int .i64 (0), .int .i64 (0)] 23)) w7 := by rw [hw7]; exact Below.refl _ _
  have z7 := hb7.size; try simp at z7
  clear hw7
  have hb_b_7 : Below (w.heap.size + 1) (w.alloc (.cells #[.int .i64 (a), .int .i64 (0)] 23)) w7 := (by repeat (first | exact Below.refl _ _ | refine Below.drew ?_ | refine below_drewN ?_ _ | refine Below.trans ?_ (Below.mono (by assumption) (by first | omega | (simp; omega) | (simp; done))) | refine Below.alloc ?_ (by first | omega | (simp; omega) | (simp; done)) _ | refine Below.setCell ?_ (by first | omega | (simp; omega) | (simp; done)) _))
  have k_b_7_0 : w7.cell? ⟨w.heap.size, 0, none⟩ = some (.int .i64 (a)) := (hb_b_7.cell (p := ⟨w.heap.size, 0, none⟩) (by simp)).trans (by rw [World.cell?_alloc_at _ _ _ _ (by simp)]; rfl)
  have k_b_7_1 : w7.cell? ⟨w.heap.size, 1, none⟩ = some (.int .i64 (0)) := (hb_b_7.cell (p := ⟨w.heap.size, 1, none⟩) (by simp)).trans (by rw [World.cell?_alloc_at _ _ _ _ (by simp)]; rfl)
  have m_b_7_0 : w7.frozen? ⟨w.heap.size, 0, none⟩ = false := (hb_b_7.frozen (p := ⟨w.heap.size, 0, none⟩) (by simp)).trans (World.frozen?_alloc_at _ _ _ _ (by simp))
  have m_b_7_1 : w7.frozen? ⟨w.heap.size, 1, none⟩ = false := (hb_b_7.frozen (p := ⟨w.heap.size, 1, none⟩) (by simp)).trans (World.frozen?_alloc_at _ _ _ _ (by simp))
  have lt_b_7 : w.heap.size < w7.heap.size := by have := hb_b_7.size; simp at this; omega
  clear hb_b_7
  have hb_x_7 : Below (w4.heap.size + 1) (w4.alloc (.cells #[.int .i64 (budA a 0), .int .i64 (0)] 23)) w7 := (by repeat (first | exact Below.refl _ _ | refine Below.drew ?_ | refine below_drewN ?_ _ | refine Below.trans ?_ (Below.mono (by assumption) (by first | omega | (simp; omega) | (simp; done))) | refine Below.alloc ?_ (by first | omega | (simp; omega) | (simp; done)) _ | refine Below.setCell ?_ (by first | omega | (simp; omega) | (simp; done)) _))
  have k_x_7_0 : w7.cell? ⟨w4.heap.size, 0, none⟩ = some (.int .i64 (budA a 0)) := (hb_x_7.cell (p := ⟨w4.heap.size, 0, none⟩) (by simp)).trans (by rw [World.cell?_alloc_at _ _ _ _ (by simp)]; rfl)
  have k_x_7_1 : w7.cell? ⟨w4.heap.size, 1, none⟩ = some (.int .i64 (0)) := (hb_x_7.cell (p := ⟨w4.heap.size, 1, none⟩) (by simp)).trans (by rw [World.cell?_alloc_at _ _ _ _ (by simp)]; rfl)
  have m_x_7_0 : w7.frozen? ⟨w4.heap.size, 0, none⟩ = false := (hb_x_7.frozen (p := ⟨w4.heap.size, 0, none⟩) (by simp)).trans (World.frozen?_alloc_at _ _ _ _ (by simp))
  have m_x_7_1 : w7.frozen? ⟨w4.heap.size, 1, none⟩ = false := (hb_x_7.frozen (p := ⟨w4.heap.size, 1, none⟩) (by simp)).trans (World.frozen?_alloc_at _ _ _ _ (by simp))
  have lt_x_7 : w4.heap.size < w7.heap.size := by have := hb_x_7.size; simp at this; omega
  clear hb_x_7
  have hb_p_7 : Below (w5.heap.size + 1) (w5.alloc (.cells #[.int .i64 (parA a 0), .int .i64 (0 + 1)] 23)) w7 := (by repeat (first | exact Below.refl _ _ | refine Below.drew ?_ | refine below_drewN ?_ _ | refine Below.trans ?_ (Below.mono (by assumption) (by first | omega | (simp; omega) | (simp; done))) | refine Below.alloc ?_ (by first | omega | (simp; omega) | (simp; done)) _ | refine Below.setCell ?_ (by first | omega | (simp; omega) | (simp; done)) _))
  have k_p_7_0 : w7.cell? ⟨w5.heap.size, 0, none⟩ = some (.int .i64 (parA a 0)) := (hb_p_7.cell (p := ⟨w5.heap.size, 0, none⟩) (by simp)).trans (by rw [World.cell?_alloc_at _ _ _ _ (by simp)]; rfl)
  have k_p_7_1 : w7.cell? ⟨w5.heap.size, 1, none⟩ = some (.int .i64 (0 + 1)) := (hb_p_7.cell (p := ⟨w5.heap.size, 1, none⟩) (by simp)).trans (by rw [World.cell?_alloc_at _ _ _ _ (by simp)]; rfl)
  have m_p_7_0 : w7.frozen? ⟨w5.heap.size, 0, none⟩ = false := (hb_p_7.frozen (p := ⟨w5.heap.size, 0, none⟩) (by simp)).trans (World.frozen?_alloc_at _ _ _ _ (by simp))
  have m_p_7_1 : w7.frozen? ⟨w5.heap.size, 1, none⟩ = false := (hb_p_7.frozen (p := ⟨w5.heap.size, 1, none⟩) (by simp)).trans (World.frozen?_alloc_at _ _ _ _ (by simp))
  have lt_p_7 : w5.heap.size < w7.heap.size := by have := hb_p_7.size; simp at this; omega
  clear hb_p_7
  have hb_l_7 : Below (w6.heap.size + 1) (w6.alloc (.cells #[.int .i64 (0), .int .i64 (0)] 23)) w7 := (by repeat (first | exact Below.refl _ _ | refine Below.drew ?_ | refine below_drewN ?_ _ | refine Below.trans ?_ (Below.mono (by assumption) (by first | omega | (simp; omega) | (simp; done))) | refine Below.alloc ?_ (by first | omega | (simp; omega) | (simp; done)) _ | refine Below.setCell ?_ (by first | omega | (simp; omega) | (simp; done)) _))
  have k_l_7_0 : w7.cell? ⟨w6.heap.size, 0, none⟩ = some (.int .i64 (0)) := (hb_l_7.cell (p := ⟨w6.heap.size, 0, none⟩) (by simp)).trans (by rw [World.cell?_alloc_at _ _ _ _ (by simp)]; rfl)
  have k_l_7_1 : w7.cell? ⟨w6.heap.size, 1, none⟩ = some (.int .i64 (0)) := (hb_l_7.cell (p := ⟨w6.heap.size, 1, none⟩) (by simp)).trans (by rw [World.cell?_alloc_at _ _ _ _ (by simp)]; rfl)
  have m_l_7_0 : w7.frozen? ⟨w6.heap.size, 0, none⟩ = false := (hb_l_7.frozen (p := ⟨w6.heap.size, 0, none⟩) (by simp)).trans (World.frozen?_alloc_at _ _ _ _ (by simp))
  have m_l_7_1 : w7.frozen? ⟨w6.heap.size, 1, none⟩ = false := (hb_l_7.frozen (p := ⟨w6.heap.size, 1, none⟩) (by simp)).trans (World.frozen?_alloc_at _ _ _ _ (by simp))
  have lt_l_7 : w6.heap.size < w7.heap.size := by have := hb_l_7.size; simp at this; omega
  clear hb_l_7
  have hb_h_7 : Below (w6.heap.size + 1 + 1) ((w6.alloc (.cells #[.int .i64 (0), .int .i64 (0)] 23)).alloc (.cells #[.int .i64 (0), .int .i64 (0)] 23)) w7 := (by repeat (first | exact Below.refl _ _ | refine Below.drew ?_ | refine below_drewN ?_ _ | refine Below.trans ?_ (Below.mono (by assumption) (by first | omega | (simp; omega) | (simp; done))) | refine Below.alloc ?_ (by first | omega | (simp; omega) | (simp; done)) _ | refine Below.setCell ?_ (by first | omega | (simp; omega) | (simp; done)) _))
  have k_h_7_0 : w7.cell? ⟨w6.heap.size + 1, 0, none⟩ = some (.int .i64 (0)) := (hb_h_7.cell (p := ⟨w6.heap.size + 1, 0, none⟩) (by simp)).trans (by rw [World.cell?_alloc_at _ _ _ _ (by simp)]; rfl)
  have k_h_7_1 : w7.cell? ⟨w6.heap.size + 1, 1, none⟩ = some (.int .i64 (0)) := (hb_h_7.cell (p := ⟨w6.heap.size + 1, 1, none⟩) (by simp)).trans (by rw [World.cell?_alloc_at _ _ _ _ (by simp)]; rfl)
  have m_h_7_0 : w7.frozen? ⟨w6.heap.size + 1, 0, none⟩ = false := (hb_h_7.frozen (p := ⟨w6.heap.size + 1, 0, none⟩) (by simp)).trans (World.frozen?_alloc_at _ _ _ _ (by simp))
  have m_h_7_1 : w7.frozen? ⟨w6.heap.size + 1, 1, none⟩ = false := (hb_h_7.frozen (p := ⟨w6.heap.size + 1, 1, none⟩) (by simp)).trans (World.frozen?_alloc_at _ _ _ _ (by simp))
  have lt_h_7 : w6.heap.size + 1 < w7.heap.size := by have := hb_h_7.size; simp at this; omega
  clear hb_h_7
  have hb_none_7 : Below (w6.heap.size + 1 + 1 + 1) (((w6.alloc (.cells #[.int .i64 (0), .int .i64 (0)] 23)).alloc (.cells #[.int .i64 (0), .int .i64 (0)] 23)).alloc (.cells #[.int .i64 (0), .int .i64 (0)] 23)) w7 := (by repeat (first | exact Below.refl _ _ | refine Below.drew ?_ | refine below_drewN ?_ _ | refine Below.trans ?_ (Below.mono (by assumption) (by first | omega | (simp; omega) | (simp; done))) | refine Below.alloc ?_ (by first | omega | (simp; omega) | (simp; done)) _ | refine Below.setCell ?_ (by first | omega | (simp; omega) | (simp; done)) _))
  have k_none_7_0 : w7.cell? ⟨w6.heap.size + 1 + 1, 0, none⟩ = some (.int .i64 (0)) := (hb_none_7.cell (p := ⟨w6.heap.size + 1 + 1, 0, none⟩) (by simp)).trans (by rw [World.cell?_alloc_at _ _ _ _ (by simp)]; rfl)
  have k_none_7_1 : w7.cell? ⟨w6.heap.size + 1 + 1, 1, none⟩ = some (.int .i64 (0)) := (hb_none_7.cell (p := ⟨w6.heap.size + 1 + 1, 1, none⟩) (by simp)).trans (by rw [World.cell?_alloc_at _ _ _ _ (by simp)]; rfl)
  have m_none_7_0 : w7.frozen? ⟨w6.heap.size + 1 + 1, 0, none⟩ = false := (hb_none_7.frozen (p := ⟨w6.heap.size + 1 + 1, 0, none⟩) (by simp)).trans (World.frozen?_alloc_at _ _ _ _ (by simp))
  have m_none_7_1 : w7.frozen? ⟨w6.heap.size + 1 + 1, 1, none⟩ = false := (hb_none_7.frozen (p := ⟨w6.heap.size + 1 + 1, 1, none⟩) (by simp)).trans (World.frozen?_alloc_at _ _ _ _ (by simp))
  have lt_none_7 : w6.heap.size + 1 + 1 < w7.heap.size := by have := hb_none_7.size; simp at this; omega
  clear hb_none_7
  have hE7 : Errs B ev w7 := hE6.below (by repeat (first | exact Below.refl _ _ | refine Below.drew ?_ | refine below_drewN ?_ _ | refine Below.trans ?_ (Below.mono (by assumption) (by first | omega | (simp; omega) | (simp; done))) | refine Below.alloc ?_ (by first | omega | (simp; omega) | (simp; done)) _ | refine Below.setCell ?_ (by first | omega | (simp; omega) | (simp; done)) _))
  refine wp_region_behind (by kernel_rfl) (by kernel_rfl) ?_
  repeat (go_big_quiet_step (first | (go_at_call 26; exact Calls.behind (buddyOf_ok _ _ _ a0 a1 HK.out.1 HK.out.2 HM.out)) | (go_at_call 27; exact Calls.behind (parentOf_ok _ _ _ a0 a1 HK.out.1 HK.out.2 HM.out))))
  refine wpQuiet_nil ?_
  intro w8 hw'
  have hb8 := behind_out hw'
  clear hw'
  have z8 := hb8.size; try simp at z8
  have hb_b_8 : Below (w.heap.size + 1) (w.alloc (.cells #[.int .i64 (a), .int .i64 (0)] 23)) w8 := (by repeat (first | exact Below.refl _ _ | refine Below.drew ?_ | refine below_drewN ?_ _ | refine Below.trans ?_ (Below.mono (by assumption) (by first | omega | (simp; omega) | (simp; done))) | refine Below.alloc ?_ (by first | omega | (simp; omega) | (simp; done)) _ | refine Below.setCell ?_ (by first | omega | (simp; omega) | (simp; done)) _))
  have k_b_8_0 : w8.cell? ⟨w.heap.size, 0, none⟩ = some (.int .i64 (a)) := (hb_b_8.cell (p := ⟨w.heap.size, 0, none⟩) (by simp)).trans (by rw [World.cell?_alloc_at _ _ _ _ (by simp)]; rfl)
  have k_b_8_1 : w8.cell? ⟨w.heap.size, 1, none⟩ = some (.int .i64 (0)) := (hb_b_8.cell (p := ⟨w.heap.size, 1, none⟩) (by simp)).trans (by rw [World.cell?_alloc_at _ _ _ _ (by simp)]; rfl)
  have m_b_8_0 : w8.frozen? ⟨w.heap.size, 0, none⟩ = false := (hb_b_8.frozen (p := ⟨w.heap.size, 0, none⟩) (by simp)).trans (World.frozen?_alloc_at _ _ _ _ (by simp))
  have m_b_8_1 : w8.frozen? ⟨w.heap.size, 1, none⟩ = false := (hb_b_8.frozen (p := ⟨w.heap.size, 1, none⟩) (by simp)).trans (World.frozen?_alloc_at _ _ _ _ (by simp))
  have lt_b_8 : w.heap.size < w8.heap.size := by have := hb_b_8.size; simp at this; omega
  clear hb_b_8
  have hb_x_8 : Below (w4.heap.size + 1) (w4.alloc (.cells #[.int .i64 (budA a 0), .int .i64 (0)] 23)) w8 := (by repeat (first | exact Below.refl _ _ | refine Below.drew ?_ | refine below_drewN ?_ _ | refine Below.trans ?_ (Below.mono (by assumption) (by first | omega | (simp; omega) | (simp; done))) | refine Below.alloc ?_ (by first | omega | (simp; omega) | (simp; done)) _ | refine Below.setCell ?_ (by first | omega | (simp; omega) | (simp; done)) _))
  have k_x_8_0 : w8.cell? ⟨w4.heap.size, 0, none⟩ = some (.int .i64 (budA a 0)) := (hb_x_8.cell (p := ⟨w4.heap.size, 0, none⟩) (by simp)).trans (by rw [World.cell?_alloc_at _ _ _ _ (by simp)]; rfl)
  have k_x_8_1 : w8.cell? ⟨w4.heap.size, 1, none⟩ = some (.int .i64 (0)) := (hb_x_8.cell (p := ⟨w4.heap.size, 1, none⟩) (by simp)).trans (by rw [World.cell?_alloc_at _ _ _ _ (by simp)]; rfl)
  have m_x_8_0 : w8.frozen? ⟨w4.heap.size, 0, none⟩ = false := (hb_x_8.frozen (p := ⟨w4.heap.size, 0, none⟩) (by simp)).trans (World.frozen?_alloc_at _ _ _ _ (by simp))
  have m_x_8_1 : w8.frozen? ⟨w4.heap.size, 1, none⟩ = false := (hb_x_8.frozen (p := ⟨w4.heap.size, 1, none⟩) (by simp)).trans (World.frozen?_alloc_at _ _ _ _ (by simp))
  have lt_x_8 : w4.heap.size < w8.heap.size := by have := hb_x_8.size; simp at this; omega
  clear hb_x_8
  have hb_p_8 : Below (w5.heap.size + 1) (w5.alloc (.cells #[.int .i64 (parA a 0), .int .i64 (0 + 1)] 23)) w8 := (by repeat (first | exact Below.refl _ _ | refine Below.drew ?_ | refine below_drewN ?_ _ | refine Below.trans ?_ (Below.mono (by assumption) (by first | omega | (simp; omega) | (simp; done))) | refine Below.alloc ?_ (by first | omega | (simp; omega) | (simp; done)) _ | refine Below.setCell ?_ (by first | omega | (simp; omega) | (simp; done)) _))
  have k_p_8_0 : w8.cell? ⟨w5.heap.size, 0, none⟩ = some (.int .i64 (parA a 0)) := (hb_p_8.cell (p := ⟨w5.heap.size, 0, none⟩) (by simp)).trans (by rw [World.cell?_alloc_at _ _ _ _ (by simp)]; rfl)
  have k_p_8_1 : w8.cell? ⟨w5.heap.size, 1, none⟩ = some (.int .i64 (0 + 1)) := (hb_p_8.cell (p := ⟨w5.heap.size, 1, none⟩) (by simp)).trans (by rw [World.cell?_alloc_at _ _ _ _ (by simp)]; rfl)
  have m_p_8_0 : w8.frozen? ⟨w5.heap.size, 0, none⟩ = false := (hb_p_8.frozen (p := ⟨w5.heap.size, 0, none⟩) (by simp)).trans (World.frozen?_alloc_at _ _ _ _ (by simp))
  have m_p_8_1 : w8.frozen? ⟨w5.heap.size, 1, none⟩ = false := (hb_p_8.frozen (p := ⟨w5.heap.size, 1, none⟩) (by simp)).trans (World.frozen?_alloc_at _ _ _ _ (by simp))
  have lt_p_8 : w5.heap.size < w8.heap.size := by have := hb_p_8.size; simp at this; omega
  clear hb_p_8
  have hb_l_8 : Below (w6.heap.size + 1) (w6.alloc (.cells #[.int .i64 (0), .int .i64 (0)] 23)) w8 := (by repeat (first | exact Below.refl _ _ | refine Below.drew ?_ | refine below_drewN ?_ _ | refine Below.trans ?_ (Below.mono (by assumption) (by first | omega | (simp; omega) | (simp; done))) | refine Below.alloc ?_ (by first | omega | (simp; omega) | (simp; done)) _ | refine Below.setCell ?_ (by first | omega | (simp; omega) | (simp; done)) _))
  have k_l_8_0 : w8.cell? ⟨w6.heap.size, 0, none⟩ = some (.int .i64 (0)) := (hb_l_8.cell (p := ⟨w6.heap.size, 0, none⟩) (by simp)).trans (by rw [World.cell?_alloc_at _ _ _ _ (by simp)]; rfl)
  have k_l_8_1 : w8.cell? ⟨w6.heap.size, 1, none⟩ = some (.int .i64 (0)) := (hb_l_8.cell (p := ⟨w6.heap.size, 1, none⟩) (by simp)).trans (by rw [World.cell?_alloc_at _ _ _ _ (by simp)]; rfl)
  have m_l_8_0 : w8.frozen? ⟨w6.heap.size, 0, none⟩ = false := (hb_l_8.frozen (p := ⟨w6.heap.size, 0, none⟩) (by simp)).trans (World.frozen?_alloc_at _ _ _ _ (by simp))
  have m_l_8_1 : w8.frozen? ⟨w6.heap.size, 1, none⟩ = false := (hb_l_8.frozen (p := ⟨w6.heap.size, 1, none⟩) (by simp)).trans (World.frozen?_alloc_at _ _ _ _ (by simp))
  have lt_l_8 : w6.heap.size < w8.heap.size := by have := hb_l_8.size; simp at this; omega
  clear hb_l_8
  have hb_h_8 : Below (w6.heap.size + 1 + 1) ((w6.alloc (.cells #[.int .i64 (0), .int .i64 (0)] 23)).alloc (.cells #[.int .i64 (0), .int .i64 (0)] 23)) w8 := (by repeat (first | exact Below.refl _ _ | refine Below.drew ?_ | refine below_drewN ?_ _ | refine Below.trans ?_ (Below.mono (by assumption) (by first | omega | (simp; omega) | (simp; done))) | refine Below.alloc ?_ (by first | omega | (simp; omega) | (simp; done)) _ | refine Below.setCell ?_ (by first | omega | (simp; omega) | (simp; done)) _))
  have k_h_8_0 : w8.cell? ⟨w6.heap.size + 1, 0, none⟩ = some (.int .i64 (0)) := (hb_h_8.cell (p := ⟨w6.heap.size + 1, 0, none⟩) (by simp)).trans (by rw [World.cell?_alloc_at _ _ _ _ (by simp)]; rfl)
  have k_h_8_1 : w8.cell? ⟨w6.heap.size + 1, 1, none⟩ = some (.int .i64 (0)) := (hb_h_8.cell (p := ⟨w6.heap.size + 1, 1, none⟩) (by simp)).trans (by rw [World.cell?_alloc_at _ _ _ _ (by simp)]; rfl)
  have m_h_8_0 : w8.frozen? ⟨w6.heap.size + 1, 0, none⟩ = false := (hb_h_8.frozen (p := ⟨w6.heap.size + 1, 0, none⟩) (by simp)).trans (World.frozen?_alloc_at _ _ _ _ (by simp))
  have m_h_8_1 : w8.frozen? ⟨w6.heap.size + 1, 1, none⟩ = false := (hb_h_8.frozen (p := ⟨w6.heap.size + 1, 1, none⟩) (by simp)).trans (World.frozen?_alloc_at _ _ _ _ (by simp))
  have lt_h_8 : w6.heap.size + 1 < w8.heap.size := by have := hb_h_8.size; simp at this; omega
  clear hb_h_8
  have hb_none_8 : Below (w6.heap.size + 1 + 1 + 1) (((w6.alloc (.cells #[.int .i64 (0), .int .i64 (0)] 23)).alloc (.cells #[.int .i64 (0), .int .i64 (0)] 23)).alloc (.cells #[.int .i64 (0), .int .i64 (0)] 23)) w8 := (by repeat (first | exact Below.refl _ _ | refine Below.drew ?_ | refine below_drewN ?_ _ | refine Below.trans ?_ (Below.mono (by assumption) (by first | omega | (simp; omega) | (simp; done))) | refine Below.alloc ?_ (by first | omega | (simp; omega) | (simp; done)) _ | refine Below.setCell ?_ (by first | omega | (simp; omega) | (simp; done)) _))
  have k_none_8_0 : w8.cell? ⟨w6.heap.size + 1 + 1, 0, none⟩ = some (.int .i64 (0)) := (hb_none_8.cell (p := ⟨w6.heap.size + 1 + 1, 0, none⟩) (by simp)).trans (by rw [World.cell?_alloc_at _ _ _ _ (by simp)]; rfl)
  have k_none_8_1 : w8.cell? ⟨w6.heap.size + 1 + 1, 1, none⟩ = some (.int .i64 (0)) := (hb_none_8.cell (p := ⟨w6.heap.size + 1 + 1, 1, none⟩) (by simp)).trans (by rw [World.cell?_alloc_at _ _ _ _ (by simp)]; rfl)
  have m_none_8_0 : w8.frozen? ⟨w6.heap.size + 1 + 1, 0, none⟩ = false := (hb_none_8.frozen (p := ⟨w6.heap.size + 1 + 1, 0, none⟩) (by simp)).trans (World.frozen?_alloc_at _ _ _ _ (by simp))
  have m_none_8_1 : w8.frozen? ⟨w6.heap.size + 1 + 1, 1, none⟩ = false := (hb_none_8.frozen (p := ⟨w6.heap.size + 1 + 1, 1, none⟩) (by simp)).trans (World.frozen?_alloc_at _ _ _ _ (by simp))
  have lt_none_8 : w6.heap.size + 1 + 1 < w8.heap.size := by have := hb_none_8.size; simp at this; omega
  clear hb_none_8
  have hE8 : Errs B ev w8 := hE7.below (by repeat (first | exact Below.refl _ _ | refine Below.drew ?_ | refine below_drewN ?_ _ | refine Below.trans ?_ (Below.mono (by assumption) (by first | omega | (simp; omega) | (simp; done))) | refine Below.alloc ?_ (by first | omega | (simp; omega) | (simp; done)) _ | refine Below.setCell ?_ (by first | omega | (simp; omega) | (simp; done)) _))
  go_wp2_with fail
  refine (coded_err 3 _ _ hE8 (by decide) rfl).mono ?_
  rintro e w9 ⟨rfl, hb9⟩; have z9 := hb9.size; try simp at z9
  have hb_l_9 : Below (w6.heap.size + 1) (w6.alloc (.cells #[.int .i64 (0), .int .i64 (0)] 23)) w9 := (by repeat (first | exact Below.refl _ _ | refine Below.drew ?_ | refine below_drewN ?_ _ | refine Below.trans ?_ (Below.mono (by assumption) (by first | omega | (simp; omega) | (simp; done))) | refine Below.alloc ?_ (by first | omega | (simp; omega) | (simp; done)) _ | refine Below.setCell ?_ (by first | omega | (simp; omega) | (simp; done)) _))
  have k_l_9_0 : w9.cell? ⟨w6.heap.size, 0, none⟩ = some (.int .i64 (0)) := (hb_l_9.cell (p := ⟨w6.heap.size, 0, none⟩) (by simp)).trans (by rw [World.cell?_alloc_at _ _ _ _ (by simp)]; rfl)
  have k_l_9_1 : w9.cell? ⟨w6.heap.size, 1, none⟩ = some (.int .i64 (0)) := (hb_l_9.cell (p := ⟨w6.heap.size, 1, none⟩) (by simp)).trans (by rw [World.cell?_alloc_at _ _ _ _ (by simp)]; rfl)
  have m_l_9_0 : w9.frozen? ⟨w6.heap.size, 0, none⟩ = false := (hb_l_9.frozen (p := ⟨w6.heap.size, 0, none⟩) (by simp)).trans (World.frozen?_alloc_at _ _ _ _ (by simp))
  have m_l_9_1 : w9.frozen? ⟨w6.heap.size, 1, none⟩ = false := (hb_l_9.frozen (p := ⟨w6.heap.size, 1, none⟩) (by simp)).trans (World.frozen?_alloc_at _ _ _ _ (by simp))
  have lt_l_9 : w6.heap.size < w9.heap.size := by have := hb_l_9.size; simp at this; omega
  clear hb_l_9
  have hb_h_9 : Below (w6.heap.size + 1 + 1) ((w6.alloc (.cells #[.int .i64 (0), .int .i64 (0)] 23)).alloc (.cells #[.int .i64 (0), .int .i64 (0)] 23)) w9 := (by repeat (first | exact Below.refl _ _ | refine Below.drew ?_ | refine below_drewN ?_ _ | refine Below.trans ?_ (Below.mono (by assumption) (by first | omega | (simp; omega) | (simp; done))) | refine Below.alloc ?_ (by first | omega | (simp; omega) | (simp; done)) _ | refine Below.setCell ?_ (by first | omega | (simp; omega) | (simp; done)) _))
  have k_h_9_0 : w9.cell? ⟨w6.heap.size + 1, 0, none⟩ = some (.int .i64 (0)) := (hb_h_9.cell (p := ⟨w6.heap.size + 1, 0, none⟩) (by simp)).trans (by rw [World.cell?_alloc_at _ _ _ _ (by simp)]; rfl)
  have k_h_9_1 : w9.cell? ⟨w6.heap.size + 1, 1, none⟩ = some (.int .i64 (0)) := (hb_h_9.cell (p := ⟨w6.heap.size + 1, 1, none⟩) (by simp)).trans (by rw [World.cell?_alloc_at _ _ _ _ (by simp)]; rfl)
  have m_h_9_0 : w9.frozen? ⟨w6.heap.size + 1, 0, none⟩ = false := (hb_h_9.frozen (p := ⟨w6.heap.size + 1, 0, none⟩) (by simp)).trans (World.frozen?_alloc_at _ _ _ _ (by simp))
  have m_h_9_1 : w9.frozen? ⟨w6.heap.size + 1, 1, none⟩ = false := (hb_h_9.frozen (p := ⟨w6.heap.size + 1, 1, none⟩) (by simp)).trans (World.frozen?_alloc_at _ _ _ _ (by simp))
  have lt_h_9 : w6.heap.size + 1 < w9.heap.size := by have := hb_h_9.size; simp at this; omega
  clear hb_h_9
  have hb_none_9 : Below (w6.heap.size + 1 + 1 + 1) (((w6.alloc (.cells #[.int .i64 (0), .int .i64 (0)] 23)).alloc (.cells #[.int .i64 (0), .int .i64 (0)] 23)).alloc (.cells #[.int .i64 (0), .int .i64 (0)] 23)) w9 := (by repeat (first | exact Below.refl _ _ | refine Below.drew ?_ | refine below_drewN ?_ _ | refine Below.trans ?_ (Below.mono (by assumption) (by first | omega | (simp; omega) | (simp; done))) | refine Below.alloc ?_ (by first | omega | (simp; omega) | (simp; done)) _ | refine Below.setCell ?_ (by first | omega | (simp; omega) | (simp; done)) _))
  have k_none_9_0 : w9.cell? ⟨w6.heap.size + 1 + 1, 0, none⟩ = some (.int .i64 (0)) := (hb_none_9.cell (p := ⟨w6.heap.size + 1 + 1, 0, none⟩) (by simp)).trans (by rw [World.cell?_alloc_at _ _ _ _ (by simp)]; rfl)
  have k_none_9_1 : w9.cell? ⟨w6.heap.size + 1 + 1, 1, none⟩ = some (.int .i64 (0)) := (hb_none_9.cell (p := ⟨w6.heap.size + 1 + 1, 1, none⟩) (by simp)).trans (by rw [World.cell?_alloc_at _ _ _ _ (by simp)]; rfl)
  have m_none_9_0 : w9.frozen? ⟨w6.heap.size + 1 + 1, 0, none⟩ = false := (hb_none_9.frozen (p := ⟨w6.heap.size + 1 + 1, 0, none⟩) (by simp)).trans (World.frozen?_alloc_at _ _ _ _ (by simp))
  have m_none_9_1 : w9.frozen? ⟨w6.heap.size + 1 + 1, 1, none⟩ = false := (hb_none_9.frozen (p := ⟨w6.heap.size + 1 + 1, 1, none⟩) (by simp)).trans (World.frozen?_alloc_at _ _ _ _ (by simp))
  have lt_none_9 : w6.heap.size + 1 + 1 < w9.heap.size := by have := hb_none_9.size; simp at this; omega
  clear hb_none_9
  go_wp2
  go_ret
  exact ⟨rfl, (by repeat (first | exact Below.refl _ _ | refine Below.drew ?_ | refine below_drewN ?_ _ | refine Below.trans ?_ (Below.mono (by assumption) (by first | omega | (simp; omega) | (simp; done))) | refine Below.alloc ?_ (by first | omega | (simp; omega) | (simp; done)) _ | refine Below.setCell ?_ (by first | omega | (simp; omega) | (simp; done)) _))⟩
set_option maxHeartbeats 4000000 in
set_option maxRecDepth 100000 in
theorem framesBlocks_mid {B : Nat} {ev : Nat → Addr} (a k n : Int) (w : World) (hE : Errs B ev w) (hc : aloneE a k = 0) (k1 : 1 ≤ k) (k5 : k ≤ 5) :
    Calls Tryd.prog 6 #[.agg #[.int .i64 a, .int .i64 k], .int .i64 n] w fun e w' => e = .returned (.bool true) ∧ Below w.heap.size w w' := by
  have eb := eqB
  have nb := neqB
  have gb := guardB
  have hB := hE.size
  obtain ⟨a0, a1, _, _, hm⟩ := aloneE_zero hc
  have HM := Lib.hid hm; have HC := Lib.hid hc
  clear hm
  have HU : Hid (upE a k = 0) := upE_mk hc (by omega)
  have HD : Hid (downE a k = 0) := downE_mk hc (by omega)
  have HK : Hid (0 ≤ k ∧ k ≤ 5) := ⟨by omega, k5⟩
  have HL := Lib.hid (low_call a0 k1 hc)
  have hk6 : (k == 6) = false := by simp; omega
  have hk0 : (k == 0) = false := by simp; omega
  clear hc
  go_enter Tryd.func6, Tryd.ntmps6
  go_wp2_with fail
  refine (halved_yes _ (hE.c.below (by repeat (first | exact Below.refl _ _ | refine Below.drew ?_ | refine below_drewN ?_ _ | refine Below.trans ?_ (Below.mono (by assumption) (by first | omega | (simp; omega) | (simp; done))) | refine Below.alloc ?_ (by first | omega | (simp; omega) | (simp; done)) _ | refine Below.setCell ?_ (by first | omega | (simp; omega) | (simp; done)) _)))).mono ?_
  rintro e w1 ⟨rfl, hb1⟩; have z1 := hb1.size; try simp at z1
  have hb_b_1 : Below (w.heap.size + 1) (w.alloc (.cells #[.int .i64 (a), .int .i64 (k)] 23)) w1 := (by repeat (first | exact Below.refl _ _ | refine Below.drew ?_ | refine below_drewN ?_ _ | refine Below.trans ?_ (Below.mono (by assumption) (by first | omega | (simp; omega) | (simp; done))) | refine Below.alloc ?_ (by first | omega | (simp; omega) | (simp; done)) _ | refine Below.setCell ?_ (by first | omega | (simp; omega) | (simp; done)) _))
  have k_b_1_0 : w1.cell? ⟨w.heap.size, 0, none⟩ = some (.int .i64 (a)) := (hb_b_1.cell (p := ⟨w.heap.size, 0, none⟩) (by simp)).trans (by rw [World.cell?_alloc_at _ _ _ _ (by simp)]; rfl)
  have k_b_1_1 : w1.cell? ⟨w.heap.size, 1, none⟩ = some (.int .i64 (k)) := (hb_b_1.cell (p := ⟨w.heap.size, 1, none⟩) (by simp)).trans (by rw [World.cell?_alloc_at _ _ _ _ (by simp)]; rfl)
  have m_b_1_0 : w1.frozen? ⟨w.heap.size, 0, none⟩ = false := (hb_b_1.frozen (p := ⟨w.heap.size, 0, none⟩) (by simp)).trans (World.frozen?_alloc_at _ _ _ _ (by simp))
  have m_b_1_1 : w1.frozen? ⟨w.heap.size, 1, none⟩ = false := (hb_b_1.frozen (p := ⟨w.heap.size, 1, none⟩) (by simp)).trans (World.frozen?_alloc_at _ _ _ _ (by simp))
  have lt_b_1 : w.heap.size < w1.heap.size := by have := hb_b_1.size; simp at this; omega
  clear hb_b_1
  have hE1 : Errs B ev w1 := hE.below (by repeat (first | exact Below.refl _ _ | refine Below.drew ?_ | refine below_drewN ?_ _ | refine Below.trans ?_ (Below.mono (by assumption) (by first | omega | (simp; omega) | (simp; done))) | refine Below.alloc ?_ (by first | omega | (simp; omega) | (simp; done)) _ | refine Below.setCell ?_ (by first | omega | (simp; omega) | (simp; done)) _))
  go_wp2_with fail
  refine wp_region_behind (by kernel_rfl) (by kernel_rfl) ?_
  repeat (go_big_quiet_step (first | (go_at_call 23; exact Calls.behind (check_any _ _ _ _ (hE1.c.below (Below.mono (Behind.h _) hE1.size)))) | (go_at_call 24; exact Calls.behind (blockError_any _ _ _ _)) | (go_at_call 17; exact Calls.behind (coded_at _ _ _ (hE1.below (Below.mono (Behind.h _) hE1.size)) (checkE_le _ _ _) rfl))))
  refine wpQuiet_nil ?_
  intro w2 hw'
  have hb2 := behind_out hw'
  clear hw'
  have z2 := hb2.size; try simp at z2
  have hE2 : Errs B ev w2 := hE1.go hb2
  have hb_b_2 : Below (w.heap.size + 1) (w.alloc (.cells #[.int .i64 (a), .int .i64 (k)] 23)) w2 := (by repeat (first | exact Below.refl _ _ | refine Below.drew ?_ | refine below_drewN ?_ _ | refine Below.trans ?_ (Below.mono (by assumption) (by first | omega | (simp; omega) | (simp; done))) | refine Below.alloc ?_ (by first | omega | (simp; omega) | (simp; done)) _ | refine Below.setCell ?_ (by first | omega | (simp; omega) | (simp; done)) _))
  have k_b_2_0 : w2.cell? ⟨w.heap.size, 0, none⟩ = some (.int .i64 (a)) := (hb_b_2.cell (p := ⟨w.heap.size, 0, none⟩) (by simp)).trans (by rw [World.cell?_alloc_at _ _ _ _ (by simp)]; rfl)
  have k_b_2_1 : w2.cell? ⟨w.heap.size, 1, none⟩ = some (.int .i64 (k)) := (hb_b_2.cell (p := ⟨w.heap.size, 1, none⟩) (by simp)).trans (by rw [World.cell?_alloc_at _ _ _ _ (by simp)]; rfl)
  have m_b_2_0 : w2.frozen? ⟨w.heap.size, 0, none⟩ = false := (hb_b_2.frozen (p := ⟨w.heap.size, 0, none⟩) (by simp)).trans (World.frozen?_alloc_at _ _ _ _ (by simp))
  have m_b_2_1 : w2.frozen? ⟨w.heap.size, 1, none⟩ = false := (hb_b_2.frozen (p := ⟨w.heap.size, 1, none⟩) (by simp)).trans (World.frozen?_alloc_at _ _ _ _ (by simp))
  have lt_b_2 : w.heap.size < w2.heap.size := by have := hb_b_2.size; simp at this; omega
  clear hb_b_2
  go_wp2_with fail
  refine (aloneError_any _ _ _).mono ?_
  rintro e w3 ⟨rfl, hb3⟩; have z3 := hb3.size; try simp at z3
  have hb_b_3 : Below (w.heap.size + 1) (w.alloc (.cells #[.int .i64 (a), .int .i64 (k)] 23)) w3 := (by repeat (first | exact Below.refl _ _ | refine Below.drew ?_ | refine below_drewN ?_ _ | refine Below.trans ?_ (Below.mono (by assumption) (by first | omega | (simp; omega) | (simp; done))) | refine Below.alloc ?_ (by first | omega | (simp; omega) | (simp; done)) _ | refine Below.setCell ?_ (by first | omega | (simp; omega) | (simp; done)) _))
  have k_b_3_0 : w3.cell? ⟨w.heap.size, 0, none⟩ = some (.int .i64 (a)) := (hb_b_3.cell (p := ⟨w.heap.size, 0, none⟩) (by simp)).trans (by rw [World.cell?_alloc_at _ _ _ _ (by simp)]; rfl)
  have k_b_3_1 : w3.cell? ⟨w.heap.size, 1, none⟩ = some (.int .i64 (k)) := (hb_b_3.cell (p := ⟨w.heap.size, 1, none⟩) (by simp)).trans (by rw [World.cell?_alloc_at _ _ _ _ (by simp)]; rfl)
  have m_b_3_0 : w3.frozen? ⟨w.heap.size, 0, none⟩ = false := (hb_b_3.frozen (p := ⟨w.heap.size, 0, none⟩) (by simp)).trans (World.frozen?_alloc_at _ _ _ _ (by simp))
  have m_b_3_1 : w3.frozen? ⟨w.heap.size, 1, none⟩ = false := (hb_b_3.frozen (p := ⟨w.heap.size, 1, none⟩) (by simp)).trans (World.frozen?_alloc_at _ _ _ _ (by simp))
  have lt_b_3 : w.heap.size < w3.heap.size := by have := hb_b_3.size; simp at this; omega
  clear hb_b_3
  have hE3 : Errs B ev w3 := hE2.go hb3
  rw [HC.out]
  go_wp2_with fail
  refine (buddy_ok a k _ hE3.c HU.out).mono ?_
  rintro e w4 ⟨rfl, hb4⟩; have z4 := hb4.size; try simp at z4
  have hb_b_4 : Below (w.heap.size + 1) (w.alloc (.cells #[.int .i64 (a), .int .i64 (k)] 23)) w4 := (by repeat (first | exact Below.refl _ _ | refine Below.drew ?_ | refine below_drewN ?_ _ | refine Below.trans ?_ (Below.mono (by assumption) (by first | omega | (simp; omega) | (simp; done))) | refine Below.alloc ?_ (by first | omega | (simp; omega) | (simp; done)) _ | refine Below.setCell ?_ (by first | omega | (simp; omega) | (simp; done)) _))
  have k_b_4_0 : w4.cell? ⟨w.heap.size, 0, none⟩ = some (.int .i64 (a)) := (hb_b_4.cell (p := ⟨w.heap.size, 0, none⟩) (by simp)).trans (by rw [World.cell?_alloc_at _ _ _ _ (by simp)]; rfl)
  have k_b_4_1 : w4.cell? ⟨w.heap.size, 1, none⟩ = some (.int .i64 (k)) := (hb_b_4.cell (p := ⟨w.heap.size, 1, none⟩) (by simp)).trans (by rw [World.cell?_alloc_at _ _ _ _ (by simp)]; rfl)
  have m_b_4_0 : w4.frozen? ⟨w.heap.size, 0, none⟩ = false := (hb_b_4.frozen (p := ⟨w.heap.size, 0, none⟩) (by simp)).trans (World.frozen?_alloc_at _ _ _ _ (by simp))
  have m_b_4_1 : w4.frozen? ⟨w.heap.size, 1, none⟩ = false := (hb_b_4.frozen (p := ⟨w.heap.size, 1, none⟩) (by simp)).trans (World.frozen?_alloc_at _ _ _ _ (by simp))
  have lt_b_4 : w.heap.size < w4.heap.size := by have := hb_b_4.size; simp at this; omega
  clear hb_b_4
  have hE4 : Errs B ev w4 := hE3.go hb4
  go_wp2_with fail
  refine (parent_ok a k _ (hE4.c.below (by repeat (first | exact Below.refl _ _ | refine Below.drew ?_ | refine below_drewN ?_ _ | refine Below.trans ?_ (Below.mono (by assumption) (by first | omega | (simp; omega) | (simp; done))) | refine Below.alloc ?_ (by first | omega | (simp; omega) | (simp; done)) _ | refine Below.setCell ?_ (by first | omega | (simp; omega) | (simp; done)) _))) HU.out).mono ?_
  rintro e w5 ⟨rfl, hb5⟩; have z5 := hb5.size; try simp at z5
  have hb_b_5 : Below (w.heap.size + 1) (w.alloc (.cells #[.int .i64 (a), .int .i64 (k)] 23)) w5 := (by repeat (first | exact Below.refl _ _ | refine Below.drew ?_ | refine below_drewN ?_ _ | refine Below.trans ?_ (Below.mono (by assumption) (by first | omega | (simp; omega) | (simp; done))) | refine Below.alloc ?_ (by first | omega | (simp; omega) | (simp; done)) _ | refine Below.setCell ?_ (by first | omega | (simp; omega) | (simp; done)) _))
  have k_b_5_0 : w5.cell? ⟨w.heap.size, 0, none⟩ = some (.int .i64 (a)) := (hb_b_5.cell (p := ⟨w.heap.size, 0, none⟩) (by simp)).trans (by rw [World.cell?_alloc_at _ _ _ _ (by simp)]; rfl)
  have k_b_5_1 : w5.cell? ⟨w.heap.size, 1, none⟩ = some (.int .i64 (k)) := (hb_b_5.cell (p := ⟨w.heap.size, 1, none⟩) (by simp)).trans (by rw [World.cell?_alloc_at _ _ _ _ (by simp)]; rfl)
  have m_b_5_0 : w5.frozen? ⟨w.heap.size, 0, none⟩ = false := (hb_b_5.frozen (p := ⟨w.heap.size, 0, none⟩) (by simp)).trans (World.frozen?_alloc_at _ _ _ _ (by simp))
  have m_b_5_1 : w5.frozen? ⟨w.heap.size, 1, none⟩ = false := (hb_b_5.frozen (p := ⟨w.heap.size, 1, none⟩) (by simp)).trans (World.frozen?_alloc_at _ _ _ _ (by simp))
  have lt_b_5 : w.heap.size < w5.heap.size := by have := hb_b_5.size; simp at this; omega
  clear hb_b_5
  have hb_x_5 : Below (w4.heap.size + 1) (w4.alloc (.cells #[.int .i64 (budA a k), .int .i64 (k)] 23)) w5 := (by repeat (first | exact Below.refl _ _ | refine Below.drew ?_ | refine below_drewN ?_ _ | refine Below.trans ?_ (Below.mono (by assumption) (by first | omega | (simp; omega) | (simp; done))) | refine Below.alloc ?_ (by first | omega | (simp; omega) | (simp; done)) _ | refine Below.setCell ?_ (by first | omega | (simp; omega) | (simp; done)) _))
  have k_x_5_0 : w5.cell? ⟨w4.heap.size, 0, none⟩ = some (.int .i64 (budA a k)) := (hb_x_5.cell (p := ⟨w4.heap.size, 0, none⟩) (by simp)).trans (by rw [World.cell?_alloc_at _ _ _ _ (by simp)]; rfl)
  have k_x_5_1 : w5.cell? ⟨w4.heap.size, 1, none⟩ = some (.int .i64 (k)) := (hb_x_5.cell (p := ⟨w4.heap.size, 1, none⟩) (by simp)).trans (by rw [World.cell?_alloc_at _ _ _ _ (by simp)]; rfl)
  have m_x_5_0 : w5.frozen? ⟨w4.heap.size, 0, none⟩ = false := (hb_x_5.frozen (p := ⟨w4.heap.size, 0, none⟩) (by simp)).trans (World.frozen?_alloc_at _ _ _ _ (by simp))
  have m_x_5_1 : w5.frozen? ⟨w4.heap.size, 1, none⟩ = false := (hb_x_5.frozen (p := ⟨w4.heap.size, 1, none⟩) (by simp)).trans (World.frozen?_alloc_at _ _ _ _ (by simp))
  have lt_x_5 : w4.heap.size < w5.heap.size := by have := hb_x_5.size; simp at this; omega
  clear hb_x_5
  have hE5 : Errs B ev w5 := hE4.below (by repeat (first | exact Below.refl _ _ | refine Below.drew ?_ | refine below_drewN ?_ _ | refine Below.trans ?_ (Below.mono (by assumption) (by first | omega | (simp; omega) | (simp; done))) | refine Below.alloc ?_ (by first | omega | (simp; omega) | (simp; done)) _ | refine Below.setCell ?_ (by first | omega | (simp; omega) | (simp; done)) _))
  go_wp2_with fail
  refine (halves_ok a k _ (hE5.c.below (by repeat (first | exact Below.refl _ _ | refine Below.drew ?_ | refine below_drewN ?_ _ | refine Below.trans ?_ (Below.mono (by assumption) (by first | omega | (simp; omega) | (simp; done))) | refine Below.alloc ?_ (by first | omega | (simp; omega) | (simp; done)) _ | refine Below.setCell ?_ (by first | omega | (simp; omega) | (simp; done)) _))) HD.out).mono ?_
  rintro e w6 ⟨rfl, hb6⟩; have z6 := hb6.size; try simp at z6
  have hb_b_6 : Below (w.heap.size + 1) (w.alloc (.cells #[.int .i64 (a), .int .i64 (k)] 23)) w6 := (by repeat (first | exact Below.refl _ _ | refine Below.drew ?_ | refine below_drewN ?_ _ | refine Below.trans ?_ (Below.mono (by assumption) (by first | omega | (simp; omega) | (simp; done))) | refine Below.alloc ?_ (by first | omega | (simp; omega) | (simp; done)) _ | refine Below.setCell ?_ (by first | omega | (simp; omega) | (simp; done)) _))
  have k_b_6_0 : w6.cell? ⟨w.heap.size, 0, none⟩ = some (.int .i64 (a)) := (hb_b_6.cell (p := ⟨w.heap.size, 0, none⟩) (by simp)).trans (by rw [World.cell?_alloc_at _ _ _ _ (by simp)]; rfl)
  have k_b_6_1 : w6.cell? ⟨w.heap.size, 1, none⟩ = some (.int .i64 (k)) := (hb_b_6.cell (p := ⟨w.heap.size, 1, none⟩) (by simp)).trans (by rw [World.cell?_alloc_at _ _ _ _ (by simp)]; rfl)
  have m_b_6_0 : w6.frozen? ⟨w.heap.size, 0, none⟩ = false := (hb_b_6.frozen (p := ⟨w.heap.size, 0, none⟩) (by simp)).trans (World.frozen?_alloc_at _ _ _ _ (by simp))
  have m_b_6_1 : w6.frozen? ⟨w.heap.size, 1, none⟩ = false := (hb_b_6.frozen (p := ⟨w.heap.size, 1, none⟩) (by simp)).trans (World.frozen?_alloc_at _ _ _ _ (by simp))
  have lt_b_6 : w.heap.size < w6.heap.size := by have := hb_b_6.size; simp at this; omega
  clear hb_b_6
  have hb_x_6 : Below (w4.heap.size + 1) (w4.alloc (.cells #[.int .i64 (budA a k), .int .i64 (k)] 23)) w6 := (by repeat (first | exact Below.refl _ _ | refine Below.drew ?_ | refine below_drewN ?_ _ | refine Below.trans ?_ (Below.mono (by assumption) (by first | omega | (simp; omega) | (simp; done))) | refine Below.alloc ?_ (by first | omega | (simp; omega) | (simp; done)) _ | refine Below.setCell ?_ (by first | omega | (simp; omega) | (simp; done)) _))
  have k_x_6_0 : w6.cell? ⟨w4.heap.size, 0, none⟩ = some (.int .i64 (budA a k)) := (hb_x_6.cell (p := ⟨w4.heap.size, 0, none⟩) (by simp)).trans (by rw [World.cell?_alloc_at _ _ _ _ (by simp)]; rfl)
  have k_x_6_1 : w6.cell? ⟨w4.heap.size, 1, none⟩ = some (.int .i64 (k)) := (hb_x_6.cell (p := ⟨w4.heap.size, 1, none⟩) (by simp)).trans (by rw [World.cell?_alloc_at _ _ _ _ (by simp)]; rfl)
  have m_x_6_0 : w6.frozen? ⟨w4.heap.size, 0, none⟩ = false := (hb_x_6.frozen (p := ⟨w4.heap.size, 0, none⟩) (by simp)).trans (World.frozen?_alloc_at _ _ _ _ (by simp))
  have m_x_6_1 : w6.frozen? ⟨w4.heap.size, 1, none⟩ = false := (hb_x_6.frozen (p := ⟨w4.heap.size, 1, none⟩) (by simp)).trans (World.frozen?_alloc_at _ _ _ _ (by simp))
  have lt_x_6 : w4.heap.size < w6.heap.size := by have := hb_x_6.size; simp at this; omega
  clear hb_x_6
  have hb_p_6 : Below (w5.heap.size + 1) (w5.alloc (.cells #[.int .i64 (parA a k), .int .i64 (k + 1)] 23)) w6 := (by repeat (first | exact Below.refl _ _ | refine Below.drew ?_ | refine below_drewN ?_ _ | refine Below.trans ?_ (Below.mono (by assumption) (by first | omega | (simp; omega) | (simp; done))) | refine Below.alloc ?_ (by first | omega | (simp; omega) | (simp; done)) _ | refine Below.setCell ?_ (by first | omega | (simp; omega) | (simp; done)) _))
  have k_p_6_0 : w6.cell? ⟨w5.heap.size, 0, none⟩ = some (.int .i64 (parA a k)) := (hb_p_6.cell (p := ⟨w5.heap.size, 0, none⟩) (by simp)).trans (by rw [World.cell?_alloc_at _ _ _ _ (by simp)]; rfl)
  have k_p_6_1 : w6.cell? ⟨w5.heap.size, 1, none⟩ = some (.int .i64 (k + 1)) := (hb_p_6.cell (p := ⟨w5.heap.size, 1, none⟩) (by simp)).trans (by rw [World.cell?_alloc_at _ _ _ _ (by simp)]; rfl)
  have m_p_6_0 : w6.frozen? ⟨w5.heap.size, 0, none⟩ = false := (hb_p_6.frozen (p := ⟨w5.heap.size, 0, none⟩) (by simp)).trans (World.frozen?_alloc_at _ _ _ _ (by simp))
  have m_p_6_1 : w6.frozen? ⟨w5.heap.size, 1, none⟩ = false := (hb_p_6.frozen (p := ⟨w5.heap.size, 1, none⟩) (by simp)).trans (World.frozen?_alloc_at _ _ _ _ (by simp))
  have lt_p_6 : w5.heap.size < w6.heap.size := by have := hb_p_6.size; simp at this; omega
  clear hb_p_6
  have hE6 : Errs B ev w6 := hE5.below (by repeat (first | exact Below.refl _ _ | refine Below.drew ?_ | refine below_drewN ?_ _ | refine Below.trans ?_ (Below.mono (by assumption) (by first | omega | (simp; omega) | (simp; done))) | refine Below.alloc ?_ (by first | omega | (simp; omega) | (simp; done)) _ | refine Below.setCell ?_ (by first | omega | (simp; omega) | (simp; done)) _))
  go_wp2_with fail
  obtain ⟨w7, hw7⟩ : ∃ w7, w7 = ((w6.alloc (.cells #[.int .i64 (a), .int .i64 (k - 1)] 23)).alloc (.cells #[.int .i64 (a + sz (k - 1)), .int .i64 (k - 1)] 23)).alloc (.cells #[.int .i64 (0), .int .i64 (0)] 23) := ⟨_, rfl⟩
  rw [← hw7]
  have hb7 : Below (((w6.alloc (.cells #[.int .i64 (a), .int .i64 (k - 1)] 23)).alloc (.cells #[.int .i64 (a + sz (k - 1)), .int .i64 (k - 1)] 23)).alloc (.cells #[.int .i64 (0), .int .i64 (0)] 23)).heap.size (((w6.alloc (.cells #[.int .i64 (a), .int .i64 (k - 1)] 23)).alloc (.cells #[.int .i64 (a + sz (k - 1)), .int .i64 (k - 1)] 23)).alloc (.cells #[.int .i64 (0), .int .i64 (0)] 23)) w7 := by rw [hw7]; exact Below.refl _ _
  have z7 := hb7.size; try simp at z7
  clear hw7
  have hb_b_7 : Below (w.heap.size + 1) (w.alloc (.cells #[.int .i64 (a), .int .i64 (k)] 23)) w7 := (by repeat (first | exact Below.refl _ _ | refine Below.drew ?_ | refine below_drewN ?_ _ | refine Below.trans ?_ (Below.mono (by assumption) (by first | omega | (simp; omega) | (simp; done))) | refine Below.alloc ?_ (by first | omega | (simp; omega) | (simp; done)) _ | refine Below.setCell ?_ (by first | omega | (simp; omega) | (simp; done)) _))
  have k_b_7_0 : w7.cell? ⟨w.heap.size, 0, none⟩ = some (.int .i64 (a)) := (hb_b_7.cell (p := ⟨w.heap.size, 0, none⟩) (by simp)).trans (by rw [World.cell?_alloc_at _ _ _ _ (by simp)]; rfl)
  have k_b_7_1 : w7.cell? ⟨w.heap.size, 1, none⟩ = some (.int .i64 (k)) := (hb_b_7.cell (p := ⟨w.heap.size, 1, none⟩) (by simp)).trans (by rw [World.cell?_alloc_at _ _ _ _ (by simp)]; rfl)
  have m_b_7_0 : w7.frozen? ⟨w.heap.size, 0, none⟩ = false := (hb_b_7.frozen (p := ⟨w.heap.size, 0, none⟩) (by simp)).trans (World.frozen?_alloc_at _ _ _ _ (by simp))
  have m_b_7_1 : w7.frozen? ⟨w.heap.size, 1, none⟩ = false := (hb_b_7.frozen (p := ⟨w.heap.size, 1, none⟩) (by simp)).trans (World.frozen?_alloc_at _ _ _ _ (by simp))
  have lt_b_7 : w.heap.size < w7.heap.size := by have := hb_b_7.size; simp at this; omega
  clear hb_b_7
  have hb_x_7 : Below (w4.heap.size + 1) (w4.alloc (.cells #[.int .i64 (budA a k), .int .i64 (k)] 23)) w7 := (by repeat (first | exact Below.refl _ _ | refine Below.drew ?_ | refine below_drewN ?_ _ | refine Below.trans ?_ (Below.mono (by assumption) (by first | omega | (simp; omega) | (simp; done))) | refine Below.alloc ?_ (by first | omega | (simp; omega) | (simp; done)) _ | refine Below.setCell ?_ (by first | omega | (simp; omega) | (simp; done)) _))
  have k_x_7_0 : w7.cell? ⟨w4.heap.size, 0, none⟩ = some (.int .i64 (budA a k)) := (hb_x_7.cell (p := ⟨w4.heap.size, 0, none⟩) (by simp)).trans (by rw [World.cell?_alloc_at _ _ _ _ (by simp)]; rfl)
  have k_x_7_1 : w7.cell? ⟨w4.heap.size, 1, none⟩ = some (.int .i64 (k)) := (hb_x_7.cell (p := ⟨w4.heap.size, 1, none⟩) (by simp)).trans (by rw [World.cell?_alloc_at _ _ _ _ (by simp)]; rfl)
  have m_x_7_0 : w7.frozen? ⟨w4.heap.size, 0, none⟩ = false := (hb_x_7.frozen (p := ⟨w4.heap.size, 0, none⟩) (by simp)).trans (World.frozen?_alloc_at _ _ _ _ (by simp))
  have m_x_7_1 : w7.frozen? ⟨w4.heap.size, 1, none⟩ = false := (hb_x_7.frozen (p := ⟨w4.heap.size, 1, none⟩) (by simp)).trans (World.frozen?_alloc_at _ _ _ _ (by simp))
  have lt_x_7 : w4.heap.size < w7.heap.size := by have := hb_x_7.size; simp at this; omega
  clear hb_x_7
  have hb_p_7 : Below (w5.heap.size + 1) (w5.alloc (.cells #[.int .i64 (parA a k), .int .i64 (k + 1)] 23)) w7 := (by repeat (first | exact Below.refl _ _ | refine Below.drew ?_ | refine below_drewN ?_ _ | refine Below.trans ?_ (Below.mono (by assumption) (by first | omega | (simp; omega) | (simp; done))) | refine Below.alloc ?_ (by first | omega | (simp; omega) | (simp; done)) _ | refine Below.setCell ?_ (by first | omega | (simp; omega) | (simp; done)) _))
  have k_p_7_0 : w7.cell? ⟨w5.heap.size, 0, none⟩ = some (.int .i64 (parA a k)) := (hb_p_7.cell (p := ⟨w5.heap.size, 0, none⟩) (by simp)).trans (by rw [World.cell?_alloc_at _ _ _ _ (by simp)]; rfl)
  have k_p_7_1 : w7.cell? ⟨w5.heap.size, 1, none⟩ = some (.int .i64 (k + 1)) := (hb_p_7.cell (p := ⟨w5.heap.size, 1, none⟩) (by simp)).trans (by rw [World.cell?_alloc_at _ _ _ _ (by simp)]; rfl)
  have m_p_7_0 : w7.frozen? ⟨w5.heap.size, 0, none⟩ = false := (hb_p_7.frozen (p := ⟨w5.heap.size, 0, none⟩) (by simp)).trans (World.frozen?_alloc_at _ _ _ _ (by simp))
  have m_p_7_1 : w7.frozen? ⟨w5.heap.size, 1, none⟩ = false := (hb_p_7.frozen (p := ⟨w5.heap.size, 1, none⟩) (by simp)).trans (World.frozen?_alloc_at _ _ _ _ (by simp))
  have lt_p_7 : w5.heap.size < w7.heap.size := by have := hb_p_7.size; simp at this; omega
  clear hb_p_7
  have hb_l_7 : Below (w6.heap.size + 1) (w6.alloc (.cells #[.int .i64 (a), .int .i64 (k - 1)] 23)) w7 := (by repeat (first | exact Below.refl _ _ | refine Below.drew ?_ | refine below_drewN ?_ _ | refine Below.trans ?_ (Below.mono (by assumption) (by first | omega | (simp; omega) | (simp; done))) | refine Below.alloc ?_ (by first | omega | (simp; omega) | (simp; done)) _ | refine Below.setCell ?_ (by first | omega | (simp; omega) | (simp; done)) _))
  have k_l_7_0 : w7.cell? ⟨w6.heap.size, 0, none⟩ = some (.int .i64 (a)) := (hb_l_7.cell (p := ⟨w6.heap.size, 0, none⟩) (by simp)).trans (by rw [World.cell?_alloc_at _ _ _ _ (by simp)]; rfl)
  have k_l_7_1 : w7.cell? ⟨w6.heap.size, 1, none⟩ = some (.int .i64 (k - 1)) := (hb_l_7.cell (p := ⟨w6.heap.size, 1, none⟩) (by simp)).trans (by rw [World.cell?_alloc_at _ _ _ _ (by simp)]; rfl)
  have m_l_7_0 : w7.frozen? ⟨w6.heap.size, 0, none⟩ = false := (hb_l_7.frozen (p := ⟨w6.heap.size, 0, none⟩) (by simp)).trans (World.frozen?_alloc_at _ _ _ _ (by simp))
  have m_l_7_1 : w7.frozen? ⟨w6.heap.size, 1, none⟩ = false := (hb_l_7.frozen (p := ⟨w6.heap.size, 1, none⟩) (by simp)).trans (World.frozen?_alloc_at _ _ _ _ (by simp))
  have lt_l_7 : w6.heap.size < w7.heap.size := by have := hb_l_7.size; simp at this; omega
  clear hb_l_7
  have hb_h_7 : Below (w6.heap.size + 1 + 1) ((w6.alloc (.cells #[.int .i64 (a), .int .i64 (k - 1)] 23)).alloc (.cells #[.int .i64 (a + sz (k - 1)), .int .i64 (k - 1)] 23)) w7 := (by repeat (first | exact Below.refl _ _ | refine Below.drew ?_ | refine below_drewN ?_ _ | refine Below.trans ?_ (Below.mono (by assumption) (by first | omega | (simp; omega) | (simp; done))) | refine Below.alloc ?_ (by first | omega | (simp; omega) | (simp; done)) _ | refine Below.setCell ?_ (by first | omega | (simp; omega) | (simp; done)) _))
  have k_h_7_0 : w7.cell? ⟨w6.heap.size + 1, 0, none⟩ = some (.int .i64 (a + sz (k - 1))) := (hb_h_7.cell (p := ⟨w6.heap.size + 1, 0, none⟩) (by simp)).trans (by rw [World.cell?_alloc_at _ _ _ _ (by simp)]; rfl)
  have k_h_7_1 : w7.cell? ⟨w6.heap.size + 1, 1, none⟩ = some (.int .i64 (k - 1)) := (hb_h_7.cell (p := ⟨w6.heap.size + 1, 1, none⟩) (by simp)).trans (by rw [World.cell?_alloc_at _ _ _ _ (by simp)]; rfl)
  have m_h_7_0 : w7.frozen? ⟨w6.heap.size + 1, 0, none⟩ = false := (hb_h_7.frozen (p := ⟨w6.heap.size + 1, 0, none⟩) (by simp)).trans (World.frozen?_alloc_at _ _ _ _ (by simp))
  have m_h_7_1 : w7.frozen? ⟨w6.heap.size + 1, 1, none⟩ = false := (hb_h_7.frozen (p := ⟨w6.heap.size + 1, 1, none⟩) (by simp)).trans (World.frozen?_alloc_at _ _ _ _ (by simp))
  have lt_h_7 : w6.heap.size + 1 < w7.heap.size := by have := hb_h_7.size; simp at this; omega
  clear hb_h_7
  have hb_none_7 : Below (w6.heap.size + 1 + 1 + 1) (((w6.alloc (.cells #[.int .i64 (a), .int .i64 (k - 1)] 23)).alloc (.cells #[.int .i64 (a + sz (k - 1)), .int .i64 (k - 1)] 23)).alloc (.cells #[.int .i64 (0), .int .i64 (0)] 23)) w7 := (by repeat (first | exact Below.refl _ _ | refine Below.drew ?_ | refine below_drewN ?_ _ | refine Below.trans ?_ (Below.mono (by assumption) (by first | omega | (simp; omega) | (simp; done))) | refine Below.alloc ?_ (by first | omega | (simp; omega) | (simp; done)) _ | refine Below.setCell ?_ (by first | omega | (simp; omega) | (simp; done)) _))
  have k_none_7_0 : w7.cell? ⟨w6.heap.size + 1 + 1, 0, none⟩ = some (.int .i64 (0)) := (hb_none_7.cell (p := ⟨w6.heap.size + 1 + 1, 0, none⟩) (by simp)).trans (by rw [World.cell?_alloc_at _ _ _ _ (by simp)]; rfl)
  have k_none_7_1 : w7.cell? ⟨w6.heap.size + 1 + 1, 1, none⟩ = some (.int .i64 (0)) := (hb_none_7.cell (p := ⟨w6.heap.size + 1 + 1, 1, none⟩) (by simp)).trans (by rw [World.cell?_alloc_at _ _ _ _ (by simp)]; rfl)
  have m_none_7_0 : w7.frozen? ⟨w6.heap.size + 1 + 1, 0, none⟩ = false := (hb_none_7.frozen (p := ⟨w6.heap.size + 1 + 1, 0, none⟩) (by simp)).trans (World.frozen?_alloc_at _ _ _ _ (by simp))
  have m_none_7_1 : w7.frozen? ⟨w6.heap.size + 1 + 1, 1, none⟩ = false := (hb_none_7.frozen (p := ⟨w6.heap.size + 1 + 1, 1, none⟩) (by simp)).trans (World.frozen?_alloc_at _ _ _ _ (by simp))
  have lt_none_7 : w6.heap.size + 1 + 1 < w7.heap.size := by have := hb_none_7.size; simp at this; omega
  clear hb_none_7
  have hE7 : Errs B ev w7 := hE6.below (by repeat (first | exact Below.refl _ _ | refine Below.drew ?_ | refine below_drewN ?_ _ | refine Below.trans ?_ (Below.mono (by assumption) (by first | omega | (simp; omega) | (simp; done))) | refine Below.alloc ?_ (by first | omega | (simp; omega) | (simp; done)) _ | refine Below.setCell ?_ (by first | omega | (simp; omega) | (simp; done)) _))
  refine wp_region_behind (by kernel_rfl) (by kernel_rfl) ?_
  repeat (go_big_quiet_step (first | (go_at_call 26; exact Calls.behind (buddyOf_ok _ _ _ a0 a1 HK.out.1 HK.out.2 HM.out)) | (go_at_call 27; exact Calls.behind (parentOf_ok _ _ _ a0 a1 HK.out.1 HK.out.2 HM.out))))
  refine wpQuiet_nil ?_
  intro w8 hw'
  have hb8 := behind_out hw'
  clear hw'
  have z8 := hb8.size; try simp at z8
  have hb_b_8 : Below (w.heap.size + 1) (w.alloc (.cells #[.int .i64 (a), .int .i64 (k)] 23)) w8 := (by repeat (first | exact Below.refl _ _ | refine Below.drew ?_ | refine below_drewN ?_ _ | refine Below.trans ?_ (Below.mono (by assumption) (by first | omega | (simp; omega) | (simp; done))) | refine Below.alloc ?_ (by first | omega | (simp; omega) | (simp; done)) _ | refine Below.setCell ?_ (by first | omega | (simp; omega) | (simp; done)) _))
  have k_b_8_0 : w8.cell? ⟨w.heap.size, 0, none⟩ = some (.int .i64 (a)) := (hb_b_8.cell (p := ⟨w.heap.size, 0, none⟩) (by simp)).trans (by rw [World.cell?_alloc_at _ _ _ _ (by simp)]; rfl)
  have k_b_8_1 : w8.cell? ⟨w.heap.size, 1, none⟩ = some (.int .i64 (k)) := (hb_b_8.cell (p := ⟨w.heap.size, 1, none⟩) (by simp)).trans (by rw [World.cell?_alloc_at _ _ _ _ (by simp)]; rfl)
  have m_b_8_0 : w8.frozen? ⟨w.heap.size, 0, none⟩ = false := (hb_b_8.frozen (p := ⟨w.heap.size, 0, none⟩) (by simp)).trans (World.frozen?_alloc_at _ _ _ _ (by simp))
  have m_b_8_1 : w8.frozen? ⟨w.heap.size, 1, none⟩ = false := (hb_b_8.frozen (p := ⟨w.heap.size, 1, none⟩) (by simp)).trans (World.frozen?_alloc_at _ _ _ _ (by simp))
  have lt_b_8 : w.heap.size < w8.heap.size := by have := hb_b_8.size; simp at this; omega
  clear hb_b_8
  have hb_x_8 : Below (w4.heap.size + 1) (w4.alloc (.cells #[.int .i64 (budA a k), .int .i64 (k)] 23)) w8 := (by repeat (first | exact Below.refl _ _ | refine Below.drew ?_ | refine below_drewN ?_ _ | refine Below.trans ?_ (Below.mono (by assumption) (by first | omega | (simp; omega) | (simp; done))) | refine Below.alloc ?_ (by first | omega | (simp; omega) | (simp; done)) _ | refine Below.setCell ?_ (by first | omega | (simp; omega) | (simp; done)) _))
  have k_x_8_0 : w8.cell? ⟨w4.heap.size, 0, none⟩ = some (.int .i64 (budA a k)) := (hb_x_8.cell (p := ⟨w4.heap.size, 0, none⟩) (by simp)).trans (by rw [World.cell?_alloc_at _ _ _ _ (by simp)]; rfl)
  have k_x_8_1 : w8.cell? ⟨w4.heap.size, 1, none⟩ = some (.int .i64 (k)) := (hb_x_8.cell (p := ⟨w4.heap.size, 1, none⟩) (by simp)).trans (by rw [World.cell?_alloc_at _ _ _ _ (by simp)]; rfl)
  have m_x_8_0 : w8.frozen? ⟨w4.heap.size, 0, none⟩ = false := (hb_x_8.frozen (p := ⟨w4.heap.size, 0, none⟩) (by simp)).trans (World.frozen?_alloc_at _ _ _ _ (by simp))
  have m_x_8_1 : w8.frozen? ⟨w4.heap.size, 1, none⟩ = false := (hb_x_8.frozen (p := ⟨w4.heap.size, 1, none⟩) (by simp)).trans (World.frozen?_alloc_at _ _ _ _ (by simp))
  have lt_x_8 : w4.heap.size < w8.heap.size := by have := hb_x_8.size; simp at this; omega
  clear hb_x_8
  have hb_p_8 : Below (w5.heap.size + 1) (w5.alloc (.cells #[.int .i64 (parA a k), .int .i64 (k + 1)] 23)) w8 := (by repeat (first | exact Below.refl _ _ | refine Below.drew ?_ | refine below_drewN ?_ _ | refine Below.trans ?_ (Below.mono (by assumption) (by first | omega | (simp; omega) | (simp; done))) | refine Below.alloc ?_ (by first | omega | (simp; omega) | (simp; done)) _ | refine Below.setCell ?_ (by first | omega | (simp; omega) | (simp; done)) _))
  have k_p_8_0 : w8.cell? ⟨w5.heap.size, 0, none⟩ = some (.int .i64 (parA a k)) := (hb_p_8.cell (p := ⟨w5.heap.size, 0, none⟩) (by simp)).trans (by rw [World.cell?_alloc_at _ _ _ _ (by simp)]; rfl)
  have k_p_8_1 : w8.cell? ⟨w5.heap.size, 1, none⟩ = some (.int .i64 (k + 1)) := (hb_p_8.cell (p := ⟨w5.heap.size, 1, none⟩) (by simp)).trans (by rw [World.cell?_alloc_at _ _ _ _ (by simp)]; rfl)
  have m_p_8_0 : w8.frozen? ⟨w5.heap.size, 0, none⟩ = false := (hb_p_8.frozen (p := ⟨w5.heap.size, 0, none⟩) (by simp)).trans (World.frozen?_alloc_at _ _ _ _ (by simp))
  have m_p_8_1 : w8.frozen? ⟨w5.heap.size, 1, none⟩ = false := (hb_p_8.frozen (p := ⟨w5.heap.size, 1, none⟩) (by simp)).trans (World.frozen?_alloc_at _ _ _ _ (by simp))
  have lt_p_8 : w5.heap.size < w8.heap.size := by have := hb_p_8.size; simp at this; omega
  clear hb_p_8
  have hb_l_8 : Below (w6.heap.size + 1) (w6.alloc (.cells #[.int .i64 (a), .int .i64 (k - 1)] 23)) w8 := (by repeat (first | exact Below.refl _ _ | refine Below.drew ?_ | refine below_drewN ?_ _ | refine Below.trans ?_ (Below.mono (by assumption) (by first | omega | (simp; omega) | (simp; done))) | refine Below.alloc ?_ (by first | omega | (simp; omega) | (simp; done)) _ | refine Below.setCell ?_ (by first | omega | (simp; omega) | (simp; done)) _))
  have k_l_8_0 : w8.cell? ⟨w6.heap.size, 0, none⟩ = some (.int .i64 (a)) := (hb_l_8.cell (p := ⟨w6.heap.size, 0, none⟩) (by simp)).trans (by rw [World.cell?_alloc_at _ _ _ _ (by simp)]; rfl)
  have k_l_8_1 : w8.cell? ⟨w6.heap.size, 1, none⟩ = some (.int .i64 (k - 1)) := (hb_l_8.cell (p := ⟨w6.heap.size, 1, none⟩) (by simp)).trans (by rw [World.cell?_alloc_at _ _ _ _ (by simp)]; rfl)
  have m_l_8_0 : w8.frozen? ⟨w6.heap.size, 0, none⟩ = false := (hb_l_8.frozen (p := ⟨w6.heap.size, 0, none⟩) (by simp)).trans (World.frozen?_alloc_at _ _ _ _ (by simp))
  have m_l_8_1 : w8.frozen? ⟨w6.heap.size, 1, none⟩ = false := (hb_l_8.frozen (p := ⟨w6.heap.size, 1, none⟩) (by simp)).trans (World.frozen?_alloc_at _ _ _ _ (by simp))
  have lt_l_8 : w6.heap.size < w8.heap.size := by have := hb_l_8.size; simp at this; omega
  clear hb_l_8
  have hb_h_8 : Below (w6.heap.size + 1 + 1) ((w6.alloc (.cells #[.int .i64 (a), .int .i64 (k - 1)] 23)).alloc (.cells #[.int .i64 (a + sz (k - 1)), .int .i64 (k - 1)] 23)) w8 := (by repeat (first | exact Below.refl _ _ | refine Below.drew ?_ | refine below_drewN ?_ _ | refine Below.trans ?_ (Below.mono (by assumption) (by first | omega | (simp; omega) | (simp; done))) | refine Below.alloc ?_ (by first | omega | (simp; omega) | (simp; done)) _ | refine Below.setCell ?_ (by first | omega | (simp; omega) | (simp; done)) _))
  have k_h_8_0 : w8.cell? ⟨w6.heap.size + 1, 0, none⟩ = some (.int .i64 (a + sz (k - 1))) := (hb_h_8.cell (p := ⟨w6.heap.size + 1, 0, none⟩) (by simp)).trans (by rw [World.cell?_alloc_at _ _ _ _ (by simp)]; rfl)
  have k_h_8_1 : w8.cell? ⟨w6.heap.size + 1, 1, none⟩ = some (.int .i64 (k - 1)) := (hb_h_8.cell (p := ⟨w6.heap.size + 1, 1, none⟩) (by simp)).trans (by rw [World.cell?_alloc_at _ _ _ _ (by simp)]; rfl)
  have m_h_8_0 : w8.frozen? ⟨w6.heap.size + 1, 0, none⟩ = false := (hb_h_8.frozen (p := ⟨w6.heap.size + 1, 0, none⟩) (by simp)).trans (World.frozen?_alloc_at _ _ _ _ (by simp))
  have m_h_8_1 : w8.frozen? ⟨w6.heap.size + 1, 1, none⟩ = false := (hb_h_8.frozen (p := ⟨w6.heap.size + 1, 1, none⟩) (by simp)).trans (World.frozen?_alloc_at _ _ _ _ (by simp))
  have lt_h_8 : w6.heap.size + 1 < w8.heap.size := by have := hb_h_8.size; simp at this; omega
  clear hb_h_8
  have hb_none_8 : Below (w6.heap.size + 1 + 1 + 1) (((w6.alloc (.cells #[.int .i64 (a), .int .i64 (k - 1)] 23)).alloc (.cells #[.int .i64 (a + sz (k - 1)), .int .i64 (k - 1)] 23)).alloc (.cells #[.int .i64 (0), .int .i64 (0)] 23)) w8 := (by repeat (first | exact Below.refl _ _ | refine Below.drew ?_ | refine below_drewN ?_ _ | refine Below.trans ?_ (Below.mono (by assumption) (by first | omega | (simp; omega) | (simp; done))) | refine Below.alloc ?_ (by first | omega | (simp; omega) | (simp; done)) _ | refine Below.setCell ?_ (by first | omega | (simp; omega) | (simp; done)) _))
  have k_none_8_0 : w8.cell? ⟨w6.heap.size + 1 + 1, 0, none⟩ = some (.int .i64 (0)) := (hb_none_8.cell (p := ⟨w6.heap.size + 1 + 1, 0, none⟩) (by simp)).trans (by rw [World.cell?_alloc_at _ _ _ _ (by simp)]; rfl)
  have k_none_8_1 : w8.cell? ⟨w6.heap.size + 1 + 1, 1, none⟩ = some (.int .i64 (0)) := (hb_none_8.cell (p := ⟨w6.heap.size + 1 + 1, 1, none⟩) (by simp)).trans (by rw [World.cell?_alloc_at _ _ _ _ (by simp)]; rfl)
  have m_none_8_0 : w8.frozen? ⟨w6.heap.size + 1 + 1, 0, none⟩ = false := (hb_none_8.frozen (p := ⟨w6.heap.size + 1 + 1, 0, none⟩) (by simp)).trans (World.frozen?_alloc_at _ _ _ _ (by simp))
  have m_none_8_1 : w8.frozen? ⟨w6.heap.size + 1 + 1, 1, none⟩ = false := (hb_none_8.frozen (p := ⟨w6.heap.size + 1 + 1, 1, none⟩) (by simp)).trans (World.frozen?_alloc_at _ _ _ _ (by simp))
  have lt_none_8 : w6.heap.size + 1 + 1 < w8.heap.size := by have := hb_none_8.size; simp at this; omega
  clear hb_none_8
  have hE8 : Errs B ev w8 := hE7.below (by repeat (first | exact Below.refl _ _ | refine Below.drew ?_ | refine below_drewN ?_ _ | refine Below.trans ?_ (Below.mono (by assumption) (by first | omega | (simp; omega) | (simp; done))) | refine Below.alloc ?_ (by first | omega | (simp; omega) | (simp; done)) _ | refine Below.setCell ?_ (by first | omega | (simp; omega) | (simp; done)) _))
  go_wp2_with fail
  obtain ⟨w9, hw9⟩ : ∃ w9, w9 = w8.alloc (.cells #[.int .i64 (a), .int .i64 (k - 1)] 23) := ⟨_, rfl⟩
  rw [← hw9]
  have hb9 : Below (w8.alloc (.cells #[.int .i64 (a), .int .i64 (k - 1)] 23)).heap.size (w8.alloc (.cells #[.int .i64 (a), .int .i64 (k - 1)] 23)) w9 := by rw [hw9]; exact Below.refl _ _
  have z9 := hb9.size; try simp at z9
  clear hw9
  have hb_l_9 : Below (w6.heap.size + 1) (w6.alloc (.cells #[.int .i64 (a), .int .i64 (k - 1)] 23)) w9 := (by repeat (first | exact Below.refl _ _ | refine Below.drew ?_ | refine below_drewN ?_ _ | refine Below.trans ?_ (Below.mono (by assumption) (by first | omega | (simp; omega) | (simp; done))) | refine Below.alloc ?_ (by first | omega | (simp; omega) | (simp; done)) _ | refine Below.setCell ?_ (by first | omega | (simp; omega) | (simp; done)) _))
  have k_l_9_0 : w9.cell? ⟨w6.heap.size, 0, none⟩ = some (.int .i64 (a)) := (hb_l_9.cell (p := ⟨w6.heap.size, 0, none⟩) (by simp)).trans (by rw [World.cell?_alloc_at _ _ _ _ (by simp)]; rfl)
  have k_l_9_1 : w9.cell? ⟨w6.heap.size, 1, none⟩ = some (.int .i64 (k - 1)) := (hb_l_9.cell (p := ⟨w6.heap.size, 1, none⟩) (by simp)).trans (by rw [World.cell?_alloc_at _ _ _ _ (by simp)]; rfl)
  have m_l_9_0 : w9.frozen? ⟨w6.heap.size, 0, none⟩ = false := (hb_l_9.frozen (p := ⟨w6.heap.size, 0, none⟩) (by simp)).trans (World.frozen?_alloc_at _ _ _ _ (by simp))
  have m_l_9_1 : w9.frozen? ⟨w6.heap.size, 1, none⟩ = false := (hb_l_9.frozen (p := ⟨w6.heap.size, 1, none⟩) (by simp)).trans (World.frozen?_alloc_at _ _ _ _ (by simp))
  have lt_l_9 : w6.heap.size < w9.heap.size := by have := hb_l_9.size; simp at this; omega
  clear hb_l_9
  have hb_h_9 : Below (w6.heap.size + 1 + 1) ((w6.alloc (.cells #[.int .i64 (a), .int .i64 (k - 1)] 23)).alloc (.cells #[.int .i64 (a + sz (k - 1)), .int .i64 (k - 1)] 23)) w9 := (by repeat (first | exact Below.refl _ _ | refine Below.drew ?_ | refine below_drewN ?_ _ | refine Below.trans ?_ (Below.mono (by assumption) (by first | omega | (simp; omega) | (simp; done))) | refine Below.alloc ?_ (by first | omega | (simp; omega) | (simp; done)) _ | refine Below.setCell ?_ (by first | omega | (simp; omega) | (simp; done)) _))
  have k_h_9_0 : w9.cell? ⟨w6.heap.size + 1, 0, none⟩ = some (.int .i64 (a + sz (k - 1))) := (hb_h_9.cell (p := ⟨w6.heap.size + 1, 0, none⟩) (by simp)).trans (by rw [World.cell?_alloc_at _ _ _ _ (by simp)]; rfl)
  have k_h_9_1 : w9.cell? ⟨w6.heap.size + 1, 1, none⟩ = some (.int .i64 (k - 1)) := (hb_h_9.cell (p := ⟨w6.heap.size + 1, 1, none⟩) (by simp)).trans (by rw [World.cell?_alloc_at _ _ _ _ (by simp)]; rfl)
  have m_h_9_0 : w9.frozen? ⟨w6.heap.size + 1, 0, none⟩ = false := (hb_h_9.frozen (p := ⟨w6.heap.size + 1, 0, none⟩) (by simp)).trans (World.frozen?_alloc_at _ _ _ _ (by simp))
  have m_h_9_1 : w9.frozen? ⟨w6.heap.size + 1, 1, none⟩ = false := (hb_h_9.frozen (p := ⟨w6.heap.size + 1, 1, none⟩) (by simp)).trans (World.frozen?_alloc_at _ _ _ _ (by simp))
  have lt_h_9 : w6.heap.size + 1 < w9.heap.size := by have := hb_h_9.size; simp at this; omega
  clear hb_h_9
  have hb_low_9 : Below (w8.heap.size + 1) (w8.alloc (.cells #[.int .i64 (a), .int .i64 (k - 1)] 23)) w9 := (by repeat (first | exact Below.refl _ _ | refine Below.drew ?_ | refine below_drewN ?_ _ | refine Below.trans ?_ (Below.mono (by assumption) (by first | omega | (simp; omega) | (simp; done))) | refine Below.alloc ?_ (by first | omega | (simp; omega) | (simp; done)) _ | refine Below.setCell ?_ (by first | omega | (simp; omega) | (simp; done)) _))
  have k_low_9_0 : w9.cell? ⟨w8.heap.size, 0, none⟩ = some (.int .i64 (a)) := (hb_low_9.cell (p := ⟨w8.heap.size, 0, none⟩) (by simp)).trans (by rw [World.cell?_alloc_at _ _ _ _ (by simp)]; rfl)
  have k_low_9_1 : w9.cell? ⟨w8.heap.size, 1, none⟩ = some (.int .i64 (k - 1)) := (hb_low_9.cell (p := ⟨w8.heap.size, 1, none⟩) (by simp)).trans (by rw [World.cell?_alloc_at _ _ _ _ (by simp)]; rfl)
  have m_low_9_0 : w9.frozen? ⟨w8.heap.size, 0, none⟩ = false := (hb_low_9.frozen (p := ⟨w8.heap.size, 0, none⟩) (by simp)).trans (World.frozen?_alloc_at _ _ _ _ (by simp))
  have m_low_9_1 : w9.frozen? ⟨w8.heap.size, 1, none⟩ = false := (hb_low_9.frozen (p := ⟨w8.heap.size, 1, none⟩) (by simp)).trans (World.frozen?_alloc_at _ _ _ _ (by simp))
  have lt_low_9 : w8.heap.size < w9.heap.size := by have := hb_low_9.size; simp at this; omega
  clear hb_low_9
  refine wp_region_behind (by kernel_rfl) (by kernel_rfl) ?_
  repeat (go_big_quiet_step (first | (go_at_call 26; exact Calls.behind (HL.out _))))
  refine wpQuiet_nil ?_
  intro w10 hw'
  have hb10 := behind_out hw'
  clear hw'
  have z10 := hb10.size; try simp at z10
  go_wp2
  go_ret
  exact ⟨rfl, (by repeat (first | exact Below.refl _ _ | refine Below.drew ?_ | refine below_drewN ?_ _ | refine Below.trans ?_ (Below.mono (by assumption) (by first | omega | (simp; omega) | (simp; done))) | refine Below.alloc ?_ (by first | omega | (simp; omega) | (simp; done)) _ | refine Below.setCell ?_ (by first | omega | (simp; omega) | (simp; done)) _))⟩

theorem framesBlocks_walk {B : Nat} {ev : Nat → Addr} (a k n : Int) (w : World) (hE : Errs B ev w) :
    Calls Tryd.prog 6 #[.agg #[.int .i64 a, .int .i64 k], .int .i64 n] w fun e w' => e = .returned (.bool true) ∧ Below w.heap.size w w' := by
  rcases hc : aloneE a k with _ | c
  · obtain ⟨_, _, k0, k6, _⟩ := aloneE_zero hc
    by_cases h6 : k = 6
    · subst h6; exact framesBlocks_six a n w hE hc
    by_cases h0 : k = 0
    · subst h0; exact framesBlocks_zero a n w hE hc
    · exact framesBlocks_mid a k n w hE hc (by omega) (by omega)
  · exact framesBlocks_bad a k n c w hE hc
end Go.Proofs.YtcooflachcimbaaDoor
