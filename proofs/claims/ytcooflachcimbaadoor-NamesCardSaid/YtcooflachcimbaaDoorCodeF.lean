/- plain.Code at a *api.Fault that wraps an error of package api, and at another error. -/
import Derived.Test.YtcooflachcimbaaDoorWrapF
import Derived.LoopTactic
namespace Go.Proofs.YtcooflachcimbaaDoor
open Go.RowKit
set_option linter.unusedSimpArgs false

/-- errors.Is between a Fault that wraps an error of package api, and such an error -/
theorem is_fault {B : Nat} {ev : Nat → Addr} (i j pb : Nat) (w : World) (hE : Errs B ev w) (i1 : 1 ≤ i) (i2 : i ≤ 10) (j1 : 1 ≤ j) (j2 : j ≤ 10) (h1 : w.cell? ⟨pb, 1, none⟩ = some (.iface 80 (.pointer (some (ev i))))) :
    Calls Tryd.prog 47 #[.iface 37 (.pointer (some ⟨pb, 0, none⟩)), .iface 80 (.pointer (some (ev j)))] w fun e w' => e = .returned (.bool (decide (i = j))) ∧ w = w' := by
  by_cases h : i = j
  · subst h
    rw [decide_eq_true rfl]
    exact is_fault_same _ _ w h1
  · rw [decide_eq_false h]
    obtain ⟨ca, ta, ha⟩ := hE.row i i1 i2
    obtain ⟨cb, tb, hb⟩ := hE.row j j1 j2
    exact is_fault_other _ _ _ ca cb ta tb w h1 (fun e => h (hE.inj i j i1 i2 j1 j2 e)) ha hb

/-- errors.Is between an error that package api does not have, and one that it has -/
theorem is_fresh {B : Nat} {ev : Nat → Addr} (j : Nat) (a : Addr) (ca : Array Value) (ta : TypeId) (w : World) (hE : Errs B ev w) (j1 : 1 ≤ j) (j2 : j ≤ 10) (hB : B ≤ a.block) (ha : w.heap[a.block]? = some (.cells ca ta (0, 0))) :
    Calls Tryd.prog 47 #[.iface 80 (.pointer (some a)), .iface 80 (.pointer (some (ev j)))] w fun e w' => e = .returned (.bool false) ∧ w = w' := by
  obtain ⟨cb, tb, hb⟩ := hE.row j j1 j2
  have hl := hE.lt j j1 j2
  exact is_other _ _ ca cb ta tb w (fun e => by rw [e] at hB; omega) ha hb

/-- Code's world at its loop -/
def tenW (ev : Nat → Addr) (w : World) : World := w.alloc (.cells #[.iface 80 (.pointer (some (ev 1))), .iface 80 (.pointer (some (ev 2))), .iface 80 (.pointer (some (ev 3))), .iface 80 (.pointer (some (ev 4))), .iface 80 (.pointer (some (ev 5))), .iface 80 (.pointer (some (ev 6))), .iface 80 (.pointer (some (ev 7))), .iface 80 (.pointer (some (ev 8))), .iface 80 (.pointer (some (ev 9))), .iface 80 (.pointer (some (ev 10)))] 26)
theorem ten_cells (ev : Nat → Addr) (w1 : World) : ∀ k, k < 10 → (w1.alloc (.cells #[.iface 80 (.pointer (some (ev 1))), .iface 80 (.pointer (some (ev 2))), .iface 80 (.pointer (some (ev 3))), .iface 80 (.pointer (some (ev 4))), .iface 80 (.pointer (some (ev 5))), .iface 80 (.pointer (some (ev 6))), .iface 80 (.pointer (some (ev 7))), .iface 80 (.pointer (some (ev 8))), .iface 80 (.pointer (some (ev 9))), .iface 80 (.pointer (some (ev 10)))] 26)).cell? ⟨w1.heap.size, k, none⟩ = some (.iface 80 (.pointer (some (ev (k + 1))))) := by
  intro k hk
  rw [World.cell?_alloc_at _ _ _ _ rfl]
  match k, hk with
  | 0, _ => rfl
  | 1, _ => rfl
  | 2, _ => rfl
  | 3, _ => rfl
  | 4, _ => rfl
  | 5, _ => rfl
  | 6, _ => rfl
  | 7, _ => rfl
  | 8, _ => rfl
  | 9, _ => rfl

set_option maxHeartbeats 2000000 in
theorem code_fault {B : Nat} {ev : Nat → Addr} (i pb : Nat) (m : Int) (w : World) (hE : Errs B ev w) (i1 : 1 ≤ i) (i2 : i ≤ 10) (hpb : pb < w.heap.size)
    (p0 : w.cell? ⟨pb, 0, none⟩ = some (.int .i64 m)) (p1 : w.cell? ⟨pb, 1, none⟩ = some (.iface 80 (.pointer (some (ev i))))) :
    Calls Tryd.prog 16 #[.iface 37 (.pointer (some ⟨pb, 0, none⟩))] w fun e w' => e = .returned (.tuple #[.int .i64 i, .int .i64 m]) ∧ Below w.heap.size w w' := by
  have hB := hE.size
  have hit := as_hit (B := B) (ev := ev) ⟨pb, 0, none⟩ ⟨w.heap.size, 0, none⟩ (.pointer none) (w.alloc (.cells #[.pointer none] 37)) (hE.below (by repeat (first | exact Below.refl _ _ | refine Below.drew ?_ | refine below_drewN ?_ _ | refine Below.trans ?_ (Below.mono (by assumption) (by first | omega | (simp; omega) | (simp; done))) | refine Below.alloc ?_ (by first | omega | (simp; omega) | (simp; done)) _ | refine Below.setCell ?_ (by first | omega | (simp; omega) | (simp; done)) _))) (by rw [World.cell?_alloc_at _ _ _ _ (by simp)]; rfl) (World.frozen?_alloc_at _ _ _ _ (by simp))
  have HIT := Lib.hid hit
  clear hit
  go_enter Tryd.func16, Tryd.ntmps16
  go_wp2_with fail
  refine HIT.out.mono ?_
  rintro e w1 ⟨rfl, hb1, t1⟩
  have hb1' : Below w.heap.size w w1 := Below.trans (by exact (by repeat (first | exact Below.refl _ _ | refine Below.drew ?_ | refine below_drewN ?_ _ | refine Below.trans ?_ (Below.mono (by assumption) (by first | omega | (simp; omega) | (simp; done))) | refine Below.alloc ?_ (by first | omega | (simp; omega) | (simp; done)) _ | refine Below.setCell ?_ (by first | omega | (simp; omega) | (simp; done)) _))) hb1
  have z1 := hb1'.size
  have q0 : w1.cell? ⟨pb, 0, none⟩ = some (.int .i64 m) := (hb1'.cell (p := ⟨pb, 0, none⟩) hpb).trans p0
  have q1 : w1.cell? ⟨pb, 1, none⟩ = some (.iface 80 (.pointer (some (ev i)))) := (hb1'.cell (p := ⟨pb, 1, none⟩) hpb).trans p1
  have tl1 : w.heap.size < w1.heap.size := by
    rcases Nat.lt_or_ge w.heap.size w1.heap.size with h | h
    · exact h
    · simp [World.cell?, Array.getElem?_eq_none h] at t1
  clear hb1 p0 p1 HIT
  have hE1 : Errs B ev w1 := hE.below (hb1'.mono hB)
  have g1 := hE1.cell 1 (by decide) (by decide)
  have g2 := hE1.cell 2 (by decide) (by decide)
  have g3 := hE1.cell 3 (by decide) (by decide)
  have g4 := hE1.cell 4 (by decide) (by decide)
  have g5 := hE1.cell 5 (by decide) (by decide)
  have g6 := hE1.cell 6 (by decide) (by decide)
  have g7 := hE1.cell 7 (by decide) (by decide)
  have g8 := hE1.cell 8 (by decide) (by decide)
  have g9 := hE1.cell 9 (by decide) (by decide)
  have g10 := hE1.cell 10 (by decide) (by decide)
  simp only [errG, errV] at g1 g2 g3 g4 g5 g6 g7 g8 g9 g10
  have CC := Lib.hid (ten_cells ev w1)
  have Q1 : (w1.alloc (.cells #[.iface 80 (.pointer (some (ev 1))), .iface 80 (.pointer (some (ev 2))), .iface 80 (.pointer (some (ev 3))), .iface 80 (.pointer (some (ev 4))), .iface 80 (.pointer (some (ev 5))), .iface 80 (.pointer (some (ev 6))), .iface 80 (.pointer (some (ev 7))), .iface 80 (.pointer (some (ev 8))), .iface 80 (.pointer (some (ev 9))), .iface 80 (.pointer (some (ev 10)))] 26)).cell? ⟨pb, 1, none⟩ = some (.iface 80 (.pointer (some (ev i)))) := by
    rw [World.cell?_alloc_lt _ _ ⟨pb, 1, none⟩ (by simp; omega)]; exact q1
  have QQ := Lib.hid Q1
  clear Q1 q1
  go_wp2
  go_loop [3, 28] (fun a s => ∃ k : Nat, k < i ∧ s = .int .i64 k ∧ a = .int .i64 m) (fun _ s => i - (intOf s).toNat)
  case atStart => exact ⟨0, by omega, rfl, rfl⟩
  case round =>
    obtain ⟨k, hk, rfl, rfl⟩ := hrel
    have hck := CC.out k (by omega)
    have hki : (k : Int) < 10 := by omega
    by_cases hlt : k + 1 < i
    · have hd : decide (i = k + 1) = false := decide_eq_false (by omega)
      have isK := is_fault i (k + 1) pb (w1.alloc (.cells #[.iface 80 (.pointer (some (ev 1))), .iface 80 (.pointer (some (ev 2))), .iface 80 (.pointer (some (ev 3))), .iface 80 (.pointer (some (ev 4))), .iface 80 (.pointer (some (ev 5))), .iface 80 (.pointer (some (ev 6))), .iface 80 (.pointer (some (ev 7))), .iface 80 (.pointer (some (ev 8))), .iface 80 (.pointer (some (ev 9))), .iface 80 (.pointer (some (ev 10)))] 26)) (hE1.below (by repeat (first | exact Below.refl _ _ | refine Below.drew ?_ | refine below_drewN ?_ _ | refine Below.trans ?_ (Below.mono (by assumption) (by first | omega | (simp; omega) | (simp; done))) | refine Below.alloc ?_ (by first | omega | (simp; omega) | (simp; done)) _ | refine Below.setCell ?_ (by first | omega | (simp; omega) | (simp; done)) _))) i1 i2 (by omega) (by omega) QQ.out
      rw [hd] at isK
      have IK := Lib.hid isK
      clear isK hd
      go_wp2_with (go_at_call 47; refine IK.out.mono ?_; rintro e w' ⟨rfl, rfl⟩)
      go_round
      case rel => exact ⟨k + 1, by omega, by go_num, rfl⟩
      case measure => simp [intOf]; omega
    · have hd : decide (i = k + 1) = true := decide_eq_true (by omega)
      have isK := is_fault i (k + 1) pb (w1.alloc (.cells #[.iface 80 (.pointer (some (ev 1))), .iface 80 (.pointer (some (ev 2))), .iface 80 (.pointer (some (ev 3))), .iface 80 (.pointer (some (ev 4))), .iface 80 (.pointer (some (ev 5))), .iface 80 (.pointer (some (ev 6))), .iface 80 (.pointer (some (ev 7))), .iface 80 (.pointer (some (ev 8))), .iface 80 (.pointer (some (ev 9))), .iface 80 (.pointer (some (ev 10)))] 26)) (hE1.below (by repeat (first | exact Below.refl _ _ | refine Below.drew ?_ | refine below_drewN ?_ _ | refine Below.trans ?_ (Below.mono (by assumption) (by first | omega | (simp; omega) | (simp; done))) | refine Below.alloc ?_ (by first | omega | (simp; omega) | (simp; done)) _ | refine Below.setCell ?_ (by first | omega | (simp; omega) | (simp; done)) _))) i1 i2 (by omega) (by omega) QQ.out
      rw [hd] at isK
      have IK := Lib.hid isK
      clear isK hd
      go_wp2_with (go_at_call 47; refine IK.out.mono ?_; rintro e w' ⟨rfl, rfl⟩)
      go_ret2
      have e1 : i = k + 1 := by omega
      exact ⟨by rw [show (i : Int) = (k : Int) + 1 from by omega]; rfl, (by repeat (first | exact Below.refl _ _ | refine Below.drew ?_ | refine below_drewN ?_ _ | refine Below.trans ?_ (Below.mono (by assumption) (by first | omega | (simp; omega) | (simp; done))) | refine Below.alloc ?_ (by first | omega | (simp; omega) | (simp; done)) _ | refine Below.setCell ?_ (by first | omega | (simp; omega) | (simp; done)) _))⟩

set_option maxHeartbeats 2000000 in
theorem code_fresh {B : Nat} {ev : Nat → Addr} (a : Addr) (ca : Array Value) (ta : TypeId) (w : World) (hE : Errs B ev w) (hBa : B ≤ a.block) (ha : w.heap[a.block]? = some (.cells ca ta (0, 0))) (hal : a.block < w.heap.size) :
    Calls Tryd.prog 16 #[.iface 80 (.pointer (some a))] w fun e w' => e = .returned (.tuple #[.int .i64 (-1), .int .i64 (-1)]) ∧ Below w.heap.size w w' := by
  have hB := hE.size
  have HA := Lib.hid ha
  clear ha
  go_enter Tryd.func16, Tryd.ntmps16
  go_wp2_with fail
  refine (as_miss _ _ _ (hE.below (by repeat (first | exact Below.refl _ _ | refine Below.drew ?_ | refine below_drewN ?_ _ | refine Below.trans ?_ (Below.mono (by assumption) (by first | omega | (simp; omega) | (simp; done))) | refine Below.alloc ?_ (by first | omega | (simp; omega) | (simp; done)) _ | refine Below.setCell ?_ (by first | omega | (simp; omega) | (simp; done)) _)))).mono ?_
  rintro e w1 ⟨rfl, hb1⟩; obtain ⟨c1, f1⟩ := bcell hb1; have z1 := hb1.size; try simp at z1 c1 f1
  have hE1 : Errs B ev w1 := hE.below (by repeat (first | exact Below.refl _ _ | refine Below.drew ?_ | refine below_drewN ?_ _ | refine Below.trans ?_ (Below.mono (by assumption) (by first | omega | (simp; omega) | (simp; done))) | refine Below.alloc ?_ (by first | omega | (simp; omega) | (simp; done)) _ | refine Below.setCell ?_ (by first | omega | (simp; omega) | (simp; done)) _))
  have hb1' : Below w.heap.size w w1 := (by repeat (first | exact Below.refl _ _ | refine Below.drew ?_ | refine below_drewN ?_ _ | refine Below.trans ?_ (Below.mono (by assumption) (by first | omega | (simp; omega) | (simp; done))) | refine Below.alloc ?_ (by first | omega | (simp; omega) | (simp; done)) _ | refine Below.setCell ?_ (by first | omega | (simp; omega) | (simp; done)) _))
  have g1 := hE1.cell 1 (by decide) (by decide)
  have g2 := hE1.cell 2 (by decide) (by decide)
  have g3 := hE1.cell 3 (by decide) (by decide)
  have g4 := hE1.cell 4 (by decide) (by decide)
  have g5 := hE1.cell 5 (by decide) (by decide)
  have g6 := hE1.cell 6 (by decide) (by decide)
  have g7 := hE1.cell 7 (by decide) (by decide)
  have g8 := hE1.cell 8 (by decide) (by decide)
  have g9 := hE1.cell 9 (by decide) (by decide)
  have g10 := hE1.cell 10 (by decide) (by decide)
  simp only [errG, errV] at g1 g2 g3 g4 g5 g6 g7 g8 g9 g10
  clear c1 f1
  have CC := Lib.hid (ten_cells ev w1)
  have hA2 : (w1.alloc (.cells #[.iface 80 (.pointer (some (ev 1))), .iface 80 (.pointer (some (ev 2))), .iface 80 (.pointer (some (ev 3))), .iface 80 (.pointer (some (ev 4))), .iface 80 (.pointer (some (ev 5))), .iface 80 (.pointer (some (ev 6))), .iface 80 (.pointer (some (ev 7))), .iface 80 (.pointer (some (ev 8))), .iface 80 (.pointer (some (ev 9))), .iface 80 (.pointer (some (ev 10)))] 26)).heap[a.block]? = some (.cells ca ta (0, 0)) := by
    have : Below w.heap.size w (w1.alloc (.cells #[.iface 80 (.pointer (some (ev 1))), .iface 80 (.pointer (some (ev 2))), .iface 80 (.pointer (some (ev 3))), .iface 80 (.pointer (some (ev 4))), .iface 80 (.pointer (some (ev 5))), .iface 80 (.pointer (some (ev 6))), .iface 80 (.pointer (some (ev 7))), .iface 80 (.pointer (some (ev 8))), .iface 80 (.pointer (some (ev 9))), .iface 80 (.pointer (some (ev 10)))] 26)) := hb1'.alloc (by omega) _
    rw [this.block _ hal]; exact HA.out
  have AA := Lib.hid hA2
  clear hA2 HA
  go_wp2
  go_loop [3, 28] (fun a s => ∃ k : Nat, k ≤ 10 ∧ s = .int .i64 k ∧ a = .int .i64 (-1)) (fun _ s => 10 - (intOf s).toNat)
  case atStart => exact ⟨0, by omega, rfl, rfl⟩
  case round =>
    obtain ⟨k, hk, rfl, rfl⟩ := hrel
    by_cases hlt : k < 10
    · have hck := CC.out k hlt
      have hki : (k : Int) < 10 := by omega
      have isK := is_fresh (k + 1) a ca ta (w1.alloc (.cells #[.iface 80 (.pointer (some (ev 1))), .iface 80 (.pointer (some (ev 2))), .iface 80 (.pointer (some (ev 3))), .iface 80 (.pointer (some (ev 4))), .iface 80 (.pointer (some (ev 5))), .iface 80 (.pointer (some (ev 6))), .iface 80 (.pointer (some (ev 7))), .iface 80 (.pointer (some (ev 8))), .iface 80 (.pointer (some (ev 9))), .iface 80 (.pointer (some (ev 10)))] 26)) (hE1.below (by repeat (first | exact Below.refl _ _ | refine Below.drew ?_ | refine below_drewN ?_ _ | refine Below.trans ?_ (Below.mono (by assumption) (by first | omega | (simp; omega) | (simp; done))) | refine Below.alloc ?_ (by first | omega | (simp; omega) | (simp; done)) _ | refine Below.setCell ?_ (by first | omega | (simp; omega) | (simp; done)) _))) (by omega) (by omega) hBa AA.out
      have IK := Lib.hid isK
      clear isK
      go_wp2_with (go_at_call 47; refine IK.out.mono ?_; rintro e w' ⟨rfl, rfl⟩)
      go_round
      case rel => exact ⟨k + 1, by omega, by go_num, rfl⟩
      case measure => simp [intOf]; omega
    · have hki : ¬ (k : Int) < 10 := by omega
      go_wp2
      go_ret2
      exact ⟨rfl, (by repeat (first | exact Below.refl _ _ | refine Below.drew ?_ | refine below_drewN ?_ _ | refine Below.trans ?_ (Below.mono (by assumption) (by first | omega | (simp; omega) | (simp; done))) | refine Below.alloc ?_ (by first | omega | (simp; omega) | (simp; done)) _ | refine Below.setCell ?_ (by first | omega | (simp; omega) | (simp; done)) _))⟩
end Go.Proofs.YtcooflachcimbaaDoor
