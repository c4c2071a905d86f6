/- The law Names by its walk: the names' numbers, and each error's own number. -/
import Derived.Test.YtcooflachcimbaaDoorCodeF
import Derived.Test.YtcooflachcimbaaDoorEq
import Derived.BigQuiet
namespace Go.Proofs.YtcooflachcimbaaDoor
open Go.RowKit
set_option linter.unusedSimpArgs false

set_option maxHeartbeats 1000000 in
/-- SameInts of two slices that hold the same seventeen numbers -/
theorem ints_yes (g g' : Nat) (w : World) (hg : g < w.heap.size) (hg' : g' < w.heap.size) (hc : ∀ j, j < 17 → ∃ x : Int, w.cell? ⟨g, j, none⟩ = some (.int .i64 x) ∧ w.cell? ⟨g', j, none⟩ = some (.int .i64 x)) :
    Calls Tryd.prog 15 #[.slice (some ⟨g, 0, none⟩) 17 17, .slice (some ⟨g', 0, none⟩) 17 17] w fun e w' => e = .returned (.bool true) ∧ Below w.heap.size w w' := by
  have C1 := Lib.hid hc
  clear hc
  go_enter Tryd.func15, Tryd.ntmps15
  go_wp2_with fail
  go_loopw [5] (fun i wr => ∃ j : Nat, j ≤ 17 ∧ i = .int .i64 j ∧ Below w.heap.size w wr) (fun i _ => 17 - (intOf i).toNat)
  case atStart => exact ⟨0, Nat.zero_le _, rfl, Below.refl _ _⟩
  case round =>
    obtain ⟨j, hj, rfl, hbel⟩ := hrel
    by_cases hlt : j < 17
    · obtain ⟨x, p1, q1⟩ := C1.out j hlt
      have hli : (j : Int) < 17 := by omega
      have r1 : wr.cell? ⟨g, j, none⟩ = some (.int .i64 x) := by rw [hbel.cell (p := ⟨g, j, none⟩) hg]; exact p1
      have r3 : wr.cell? ⟨g', j, none⟩ = some (.int .i64 x) := by rw [hbel.cell (p := ⟨g', j, none⟩) hg']; exact q1
      clear p1 q1
      go_wp2
      go_quiet (fail)
      go_wp2
      go_roundw
      case rel => exact ⟨j + 1, by omega, by go_num, below_drewN hbel _⟩
      case measure => simp [intOf]; omega
    · have hli : ¬ (j : Int) < 17 := by omega
      go_wp2
      go_ret
      exact ⟨rfl, hbel⟩

theorem heap_new (w : World) (o : Obj) : (w.alloc o).heap[w.heap.size]? = some o := by
  show (w.heap.push o)[w.heap.size]? = some o
  simp

theorem new_any (d : ByteArray) (w : World) : Calls Tryd.prog 18 #[.string d] w fun e w' => e = .returned (.iface 80 (.pointer (some ⟨w.heap.size, 0, none⟩))) ∧ w' = w.alloc (.cells #[.string d] 82) := by
  go_enter Tryd.func18, Tryd.ntmps18
  go_wp2
  go_ret
  exact ⟨rfl, rfl⟩

theorem names_ints (w : World) : ∀ j, j < 17 → ∃ x : Int, ((w.alloc (.cells #[.int .i64 64, .int .i64 256, .int .i64 6, .int .i64 4, .int .i64 8, .int .i64 64, .int .i64 4, .int .i64 4, .int .i64 16, .int .i64 8, .int .i64 16, .int .i64 12, .int .i64 600, .int .i64 40, .int .i64 2000, .int .i64 100, .int .i64 16] 3)).alloc (.cells #[.int .i64 64, .int .i64 256, .int .i64 6, .int .i64 4, .int .i64 8, .int .i64 64, .int .i64 4, .int .i64 4, .int .i64 16, .int .i64 8, .int .i64 16, .int .i64 12, .int .i64 600, .int .i64 40, .int .i64 2000, .int .i64 100, .int .i64 16] 3)).cell? ⟨w.heap.size, j, none⟩ = some (.int .i64 x) ∧ ((w.alloc (.cells #[.int .i64 64, .int .i64 256, .int .i64 6, .int .i64 4, .int .i64 8, .int .i64 64, .int .i64 4, .int .i64 4, .int .i64 16, .int .i64 8, .int .i64 16, .int .i64 12, .int .i64 600, .int .i64 40, .int .i64 2000, .int .i64 100, .int .i64 16] 3)).alloc (.cells #[.int .i64 64, .int .i64 256, .int .i64 6, .int .i64 4, .int .i64 8, .int .i64 64, .int .i64 4, .int .i64 4, .int .i64 16, .int .i64 8, .int .i64 16, .int .i64 12, .int .i64 600, .int .i64 40, .int .i64 2000, .int .i64 100, .int .i64 16] 3)).cell? ⟨w.heap.size + 1, j, none⟩ = some (.int .i64 x) := by
  intro j hj
  have a : ((w.alloc (.cells #[.int .i64 64, .int .i64 256, .int .i64 6, .int .i64 4, .int .i64 8, .int .i64 64, .int .i64 4, .int .i64 4, .int .i64 16, .int .i64 8, .int .i64 16, .int .i64 12, .int .i64 600, .int .i64 40, .int .i64 2000, .int .i64 100, .int .i64 16] 3)).alloc (.cells #[.int .i64 64, .int .i64 256, .int .i64 6, .int .i64 4, .int .i64 8, .int .i64 64, .int .i64 4, .int .i64 4, .int .i64 16, .int .i64 8, .int .i64 16, .int .i64 12, .int .i64 600, .int .i64 40, .int .i64 2000, .int .i64 100, .int .i64 16] 3)).cell? ⟨w.heap.size, j, none⟩ = (w.alloc (.cells #[.int .i64 64, .int .i64 256, .int .i64 6, .int .i64 4, .int .i64 8, .int .i64 64, .int .i64 4, .int .i64 4, .int .i64 16, .int .i64 8, .int .i64 16, .int .i64 12, .int .i64 600, .int .i64 40, .int .i64 2000, .int .i64 100, .int .i64 16] 3)).cell? ⟨w.heap.size, j, none⟩ := World.cell?_alloc_lt _ _ ⟨w.heap.size, j, none⟩ (by simp)
  have c : (w.alloc (.cells #[.int .i64 64, .int .i64 256, .int .i64 6, .int .i64 4, .int .i64 8, .int .i64 64, .int .i64 4, .int .i64 4, .int .i64 16, .int .i64 8, .int .i64 16, .int .i64 12, .int .i64 600, .int .i64 40, .int .i64 2000, .int .i64 100, .int .i64 16] 3)).cell? ⟨w.heap.size, j, none⟩ = _ := World.cell?_alloc_at _ _ _ _ rfl
  have b : ((w.alloc (.cells #[.int .i64 64, .int .i64 256, .int .i64 6, .int .i64 4, .int .i64 8, .int .i64 64, .int .i64 4, .int .i64 4, .int .i64 16, .int .i64 8, .int .i64 16, .int .i64 12, .int .i64 600, .int .i64 40, .int .i64 2000, .int .i64 100, .int .i64 16] 3)).alloc (.cells #[.int .i64 64, .int .i64 256, .int .i64 6, .int .i64 4, .int .i64 8, .int .i64 64, .int .i64 4, .int .i64 4, .int .i64 16, .int .i64 8, .int .i64 16, .int .i64 12, .int .i64 600, .int .i64 40, .int .i64 2000, .int .i64 100, .int .i64 16] 3)).cell? ⟨w.heap.size + 1, j, none⟩ = _ := World.cell?_alloc_at _ _ _ _ (by simp)
  rw [a, c, b]
  clear a b c
  match j, hj with
  | 0, _ => exact ⟨64, rfl, rfl⟩
  | 1, _ => exact ⟨256, rfl, rfl⟩
  | 2, _ => exact ⟨6, rfl, rfl⟩
  | 3, _ => exact ⟨4, rfl, rfl⟩
  | 4, _ => exact ⟨8, rfl, rfl⟩
  | 5, _ => exact ⟨64, rfl, rfl⟩
  | 6, _ => exact ⟨4, rfl, rfl⟩
  | 7, _ => exact ⟨4, rfl, rfl⟩
  | 8, _ => exact ⟨16, rfl, rfl⟩
  | 9, _ => exact ⟨8, rfl, rfl⟩
  | 10, _ => exact ⟨16, rfl, rfl⟩
  | 11, _ => exact ⟨12, rfl, rfl⟩
  | 12, _ => exact ⟨600, rfl, rfl⟩
  | 13, _ => exact ⟨40, rfl, rfl⟩
  | 14, _ => exact ⟨2000, rfl, rfl⟩
  | 15, _ => exact ⟨100, rfl, rfl⟩
  | 16, _ => exact ⟨16, rfl, rfl⟩
  | n + 17, h => exact absurd h (by omega)

set_option maxHeartbeats 2000000 in
theorem names_walk {ev : Nat → Addr} (w : World) (hE : Errs w.heap.size ev w) :
    Calls Tryd.prog 4 #[] w fun e w' => e = .returned (.bool true) ∧ Below w.heap.size w w' := by
  obtain ⟨B, hBdef⟩ : ∃ B, B = w.heap.size := ⟨_, rfl⟩
  rw [← hBdef] at hE
  have hB := hE.size
  have si := ints_yes w.heap.size (w.heap.size + 1) ((w.alloc (.cells #[.int .i64 64, .int .i64 256, .int .i64 6, .int .i64 4, .int .i64 8, .int .i64 64, .int .i64 4, .int .i64 4, .int .i64 16, .int .i64 8, .int .i64 16, .int .i64 12, .int .i64 600, .int .i64 40, .int .i64 2000, .int .i64 100, .int .i64 16] 3)).alloc (.cells #[.int .i64 64, .int .i64 256, .int .i64 6, .int .i64 4, .int .i64 8, .int .i64 64, .int .i64 4, .int .i64 4, .int .i64 16, .int .i64 8, .int .i64 16, .int .i64 12, .int .i64 600, .int .i64 40, .int .i64 2000, .int .i64 100, .int .i64 16] 3)) (by simp; omega) (by simp) (names_ints w)
  have SI := Lib.hid si
  clear si
  go_enter Tryd.func4, Tryd.ntmps4
  go_wp2_with fail
  refine SI.out.mono ?_
  rintro e w1 ⟨rfl, hb1⟩; obtain ⟨c1, f1⟩ := bcell hb1; have z1 := hb1.size; try simp at z1 c1 f1
  have hb1' : Below w.heap.size w w1 := (by repeat (first | exact Below.refl _ _ | refine Below.drew ?_ | refine below_drewN ?_ _ | refine Below.trans ?_ (Below.mono (by assumption) (by first | omega | (simp; omega) | (simp; done))) | refine Below.alloc ?_ (by first | omega | (simp; omega) | (simp; done)) _ | refine Below.setCell ?_ (by first | omega | (simp; omega) | (simp; done)) _))
  have hE1 : Errs B ev w1 := hE.below (hb1'.mono hB)
  have g1 := hE1.cell 1 (by decide) (by decide)
  have g2 := hE1.cell 2 (by decide) (by decide)
  have g3 := hE1.cell 3 (by decide) (by decide)
  have g4 := hE1.cell 4 (by decide) (by decide)
  have g5 := hE1.cell 5 (by decide) (by decide)
  have g6 := hE1.cell 6 (by decide) (by decide)
  have g7 := hE1.cell 7 (by decide) (by decide)
  have g8 := hE1.cell 8 (by decide) (by decide)
  have g9 := hE1.cell 9 (by decide) (by decide)
  have g10 := hE1.cell 10 (by decide) (by decide)
  simp only [errG, errV] at g1 g2 g3 g4 g5 g6 g7 g8 g9 g10
  clear c1 f1 SI
  have CC := Lib.hid (ten_cells ev w1)
  go_wp2
  go_loopw [4] (fun i wr => ∃ j : Nat, j ≤ 10 ∧ i = .int .i64 j ∧ Below (w1.heap.size + 1) (w1.alloc (.cells #[.iface 80 (.pointer (some (ev 1))), .iface 80 (.pointer (some (ev 2))), .iface 80 (.pointer (some (ev 3))), .iface 80 (.pointer (some (ev 4))), .iface 80 (.pointer (some (ev 5))), .iface 80 (.pointer (some (ev 6))), .iface 80 (.pointer (some (ev 7))), .iface 80 (.pointer (some (ev 8))), .iface 80 (.pointer (some (ev 9))), .iface 80 (.pointer (some (ev 10)))] 26)) wr) (fun i _ => 10 - (intOf i).toNat)
  case atStart => exact ⟨0, Nat.zero_le _, rfl, Below.refl _ _⟩
  case round =>
    obtain ⟨j, hj, rfl, hbel⟩ := hrel
    have zr := hbel.size
    simp at zr
    have hbw : Below w.heap.size w wr := Below.trans (by exact (by repeat (first | exact Below.refl _ _ | refine Below.drew ?_ | refine below_drewN ?_ _ | refine Below.trans ?_ (Below.mono (by assumption) (by first | omega | (simp; omega) | (simp; done))) | refine Below.alloc ?_ (by first | omega | (simp; omega) | (simp; done)) _ | refine Below.setCell ?_ (by first | omega | (simp; omega) | (simp; done)) _))) (hbel.mono (by omega))
    have hEr : Errs B ev wr := hE.below (hbw.mono hB)
    by_cases hlt : j < 10
    · have hli : (j : Int) < 10 := by omega
      have r1 : wr.cell? ⟨w1.heap.size, j, none⟩ = some (.iface 80 (.pointer (some (ev (j + 1))))) := by rw [hbel.cell (p := ⟨w1.heap.size, j, none⟩) (by simp)]; exact CC.out j hlt
      have cf := code_fault (B := B) (ev := ev) (j + 1) wr.heap.size 7 (wr.alloc (.cells #[.int .i64 7, .iface 80 (.pointer (some (ev (j + 1))))] 39)) (hEr.below (by repeat (first | exact Below.refl _ _ | refine Below.drew ?_ | refine below_drewN ?_ _ | refine Below.trans ?_ (Below.mono (by assumption) (by first | omega | (simp; omega) | (simp; done))) | refine Below.alloc ?_ (by first | omega | (simp; omega) | (simp; done)) _ | refine Below.setCell ?_ (by first | omega | (simp; omega) | (simp; done)) _))) (by omega) (by omega) (by simp) (by rw [World.cell?_alloc_at _ _ _ _ rfl]; rfl) (by rw [World.cell?_alloc_at _ _ _ _ rfl]; rfl)
      rw [show (((j + 1 : Nat)) : Int) = (j : Int) + 1 from by omega] at cf
      have CF := Lib.hid cf
      clear cf
      go_wp2_with fail
      refine CF.out.mono ?_
      rintro e w2 ⟨rfl, hb2⟩; have z2 := hb2.size; try simp at z2
      have r2 : w2.cell? ⟨w1.heap.size, j, none⟩ = some (.iface 80 (.pointer (some (ev (j + 1))))) := by
        rw [hb2.cell (p := ⟨w1.heap.size, j, none⟩) (by simp; omega), World.cell?_alloc_lt _ _ ⟨w1.heap.size, j, none⟩ (by simp; omega)]; exact r1
      have hbw2 : Below (w1.heap.size + 1) wr w2 := Below.trans (by exact (by repeat (first | exact Below.refl _ _ | refine Below.drew ?_ | refine below_drewN ?_ _ | refine Below.trans ?_ (Below.mono (by assumption) (by first | omega | (simp; omega) | (simp; done))) | refine Below.alloc ?_ (by first | omega | (simp; omega) | (simp; done)) _ | refine Below.setCell ?_ (by first | omega | (simp; omega) | (simp; done)) _))) (hb2.mono (by simp; omega))
      have hE2 : Errs B ev w2 := hEr.below (hbw2.mono (by omega))
      clear r1 CF
      go_wp2_with fail
      refine (coded_at (j + 1) _ _ (hE2.below (by repeat (first | exact Below.refl _ _ | refine Below.drew ?_ | refine below_drewN ?_ _ | refine Below.trans ?_ (Below.mono (by assumption) (by first | omega | (simp; omega) | (simp; done))) | refine Below.alloc ?_ (by first | omega | (simp; omega) | (simp; done)) _ | refine Below.setCell ?_ (by first | omega | (simp; omega) | (simp; done)) _))) (by omega) (by first | go_num | omega | simp)).mono ?_
      rintro e w3 ⟨rfl, hb3⟩; have z3 := hb3.size; try simp at z3
      go_wp2
      go_roundw
      case rel => exact ⟨j + 1, by omega, by go_num, hbel.trans (by exact Below.trans hbw2 (by exact (by repeat (first | exact Below.refl _ _ | refine Below.drew ?_ | refine below_drewN ?_ _ | refine Below.trans ?_ (Below.mono (by assumption) (by first | omega | (simp; omega) | (simp; done))) | refine Below.alloc ?_ (by first | omega | (simp; omega) | (simp; done)) _ | refine Below.setCell ?_ (by first | omega | (simp; omega) | (simp; done)) _))))⟩
      case measure => simp [intOf]; omega
    · have hli : ¬ (j : Int) < 10 := by omega
      go_wp2_with fail
      refine (new_any _ _).mono ?_
      rintro e w4 ⟨rfl, rfl⟩
      go_wp2_with fail
      refine (code_fresh (B := B) (ev := ev) ⟨_, 0, none⟩ #[.string ⟨#[97, 110, 111, 116, 104, 101, 114, 32, 111, 110, 101]⟩] 82 _ (hEr.below (by repeat (first | exact Below.refl _ _ | refine Below.drew ?_ | refine below_drewN ?_ _ | refine Below.trans ?_ (Below.mono (by assumption) (by first | omega | (simp; omega) | (simp; done))) | refine Below.alloc ?_ (by first | omega | (simp; omega) | (simp; done)) _ | refine Below.setCell ?_ (by first | omega | (simp; omega) | (simp; done)) _))) (by simp; omega) (heap_new _ _) (by simp)).mono ?_
      rintro e w5 ⟨rfl, hb5⟩; have z5 := hb5.size; try simp at z5
      have hbw5 : Below w.heap.size w w5 := Below.trans hbw (Below.trans (by exact (by repeat (first | exact Below.refl _ _ | refine Below.drew ?_ | refine below_drewN ?_ _ | refine Below.trans ?_ (Below.mono (by assumption) (by first | omega | (simp; omega) | (simp; done))) | refine Below.alloc ?_ (by first | omega | (simp; omega) | (simp; done)) _ | refine Below.setCell ?_ (by first | omega | (simp; omega) | (simp; done)) _))) (hb5.mono (by simp; omega)))
      have hE5 : Errs B ev w5 := hE.below (hbw5.mono hB)
      go_wp2_with fail
      refine (coded_at 0 0 _ (hE5.below (by repeat (first | exact Below.refl _ _ | refine Below.drew ?_ | refine below_drewN ?_ _ | refine Below.trans ?_ (Below.mono (by assumption) (by first | omega | (simp; omega) | (simp; done))) | refine Below.alloc ?_ (by first | omega | (simp; omega) | (simp; done)) _ | refine Below.setCell ?_ (by first | omega | (simp; omega) | (simp; done)) _))) (by omega) rfl).mono ?_
      rintro e w6 ⟨rfl, hb6⟩; have z6 := hb6.size; try simp at z6
      go_wp2
      go_ret
      exact ⟨rfl, hbw5.trans (by exact (by repeat (first | exact Below.refl _ _ | refine Below.drew ?_ | refine below_drewN ?_ _ | refine Below.trans ?_ (Below.mono (by assumption) (by first | omega | (simp; omega) | (simp; done))) | refine Below.alloc ?_ (by first | omega | (simp; omega) | (simp; done)) _ | refine Below.setCell ?_ (by first | omega | (simp; omega) | (simp; done)) _)))⟩
end Go.Proofs.YtcooflachcimbaaDoor
