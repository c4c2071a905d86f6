/- plain.Code and coded by their contracts: the number of each error of package api. -/
import Derived.Test.YtigginpcokfihaaGreatDoorWrap
import Derived.Outline
import Derived.LoopTactic
namespace Go.Proofs.YtigginpcokfihaaGreatDoor
open Go.RowKit
set_option linter.unusedSimpArgs false

theorem code_nil (w : World) : Calls Tryz.prog 33 #[.nilIface] w fun e w' => e = .returned (.tuple #[.int .i64 0, .int .i64 (-1)]) ∧ w = w' := by
  go_enter Tryz.func33, Tryz.ntmps33
  go_wp2
  go_ret2
  exact ⟨rfl, rfl⟩

/-- errors.Is between two errors of package api -/
theorem is_sent {B : Nat} {ev : Nat → Addr} (i j : Nat) (w : World) (hE : Errs B ev w) (i1 : 1 ≤ i) (i2 : i ≤ 10) (j1 : 1 ≤ j) (j2 : j ≤ 10) :
    Calls Tryz.prog 63 #[.iface 199 (.pointer (some (ev i))), .iface 199 (.pointer (some (ev j)))] w fun e w' => e = .returned (.bool (decide (i = j))) ∧ w = w' := by
  by_cases h : i = j
  · subst h
    rw [decide_eq_true rfl]
    exact is_same _ w
  · rw [decide_eq_false h]
    obtain ⟨ca, ta, ha⟩ := hE.row i i1 i2
    obtain ⟨cb, tb, hb⟩ := hE.row j j1 j2
    exact is_other _ _ ca cb ta tb w (fun e => h (hE.inj i j i1 i2 j1 j2 e)) ha hb

set_option maxHeartbeats 1000000 in
theorem code_sent {B : Nat} {ev : Nat → Addr} (i : Nat) (w : World) (hE : Errs B ev w) (i1 : 1 ≤ i) (i2 : i ≤ 10) :
    Calls Tryz.prog 33 #[.iface 199 (.pointer (some (ev i)))] w fun e w' => e = .returned (.tuple #[.int .i64 i, .int .i64 (-1)]) ∧ Below w.heap.size w w' := by
  have hB := hE.size
  go_enter Tryz.func33, Tryz.ntmps33
  go_wp2_with fail
  refine (as_miss _ _ _ (hE.below (by repeat (first | exact Below.refl _ _ | refine Below.drew ?_ | refine below_drewN ?_ _ | refine Below.trans ?_ (Below.mono (by assumption) (by first | omega | (simp; omega) | (simp; done))) | refine Below.alloc ?_ (by first | omega | (simp; omega) | (simp; done)) _ | refine Below.setCell ?_ (by first | omega | (simp; omega) | (simp; done)) _)))).mono ?_
  rintro e w1 ⟨rfl, hb1⟩; obtain ⟨c1, f1⟩ := bcell hb1; have z1 := hb1.size; try simp at z1 c1 f1
  have hE1 : Errs B ev w1 := hE.below (by repeat (first | exact Below.refl _ _ | refine Below.drew ?_ | refine below_drewN ?_ _ | refine Below.trans ?_ (Below.mono (by assumption) (by first | omega | (simp; omega) | (simp; done))) | refine Below.alloc ?_ (by first | omega | (simp; omega) | (simp; done)) _ | refine Below.setCell ?_ (by first | omega | (simp; omega) | (simp; done)) _))
  have g1 := hE1.cell 1 (by decide) (by decide)
  have g2 := hE1.cell 2 (by decide) (by decide)
  have g3 := hE1.cell 3 (by decide) (by decide)
  have g4 := hE1.cell 4 (by decide) (by decide)
  have g5 := hE1.cell 5 (by decide) (by decide)
  have g6 := hE1.cell 6 (by decide) (by decide)
  have g7 := hE1.cell 7 (by decide) (by decide)
  have g8 := hE1.cell 8 (by decide) (by decide)
  have g9 := hE1.cell 9 (by decide) (by decide)
  have g10 := hE1.cell 10 (by decide) (by decide)
  simp only [errG, errV] at g1 g2 g3 g4 g5 g6 g7 g8 g9 g10
  clear c1 f1
  have cells : ∀ k, k < 10 → (w1.alloc (.cells #[.iface 199 (.pointer (some (ev 1))), .iface 199 (.pointer (some (ev 2))), .iface 199 (.pointer (some (ev 3))), .iface 199 (.pointer (some (ev 4))), .iface 199 (.pointer (some (ev 5))), .iface 199 (.pointer (some (ev 6))), .iface 199 (.pointer (some (ev 7))), .iface 199 (.pointer (some (ev 8))), .iface 199 (.pointer (some (ev 9))), .iface 199 (.pointer (some (ev 10)))] 33)).cell? ⟨w1.heap.size, k, none⟩ = some (.iface 199 (.pointer (some (ev (k + 1))))) := by
    intro k hk
    rw [World.cell?_alloc_at _ _ _ _ rfl]
    match k, hk with
    | 0, _ => rfl
    | 1, _ => rfl
    | 2, _ => rfl
    | 3, _ => rfl
    | 4, _ => rfl
    | 5, _ => rfl
    | 6, _ => rfl
    | 7, _ => rfl
    | 8, _ => rfl
    | 9, _ => rfl
  have CC := Lib.hid cells
  clear cells
  go_wp2
  go_loop [3, 28] (fun a s => ∃ k : Nat, k < i ∧ s = .int .i64 k ∧ a = .int .i64 (-1)) (fun _ s => i - (intOf s).toNat)
  case atStart => exact ⟨0, by omega, rfl, rfl⟩
  case round =>
    obtain ⟨k, hk, rfl, rfl⟩ := hrel
    have hck := CC.out k (by omega)
    have hki : (k : Int) < 10 := by omega
    by_cases hlt : k + 1 < i
    · have hd : decide (i = k + 1) = false := decide_eq_false (by omega)
      have isK := is_sent i (k + 1) (w1.alloc (.cells #[.iface 199 (.pointer (some (ev 1))), .iface 199 (.pointer (some (ev 2))), .iface 199 (.pointer (some (ev 3))), .iface 199 (.pointer (some (ev 4))), .iface 199 (.pointer (some (ev 5))), .iface 199 (.pointer (some (ev 6))), .iface 199 (.pointer (some (ev 7))), .iface 199 (.pointer (some (ev 8))), .iface 199 (.pointer (some (ev 9))), .iface 199 (.pointer (some (ev 10)))] 33)) (hE1.below (by repeat (first | exact Below.refl _ _ | refine Below.drew ?_ | refine below_drewN ?_ _ | refine Below.trans ?_ (Below.mono (by assumption) (by first | omega | (simp; omega) | (simp; done))) | refine Below.alloc ?_ (by first | omega | (simp; omega) | (simp; done)) _ | refine Below.setCell ?_ (by first | omega | (simp; omega) | (simp; done)) _))) i1 i2 (by omega) (by omega)
      rw [hd] at isK
      have IK := Lib.hid isK
      clear isK hd
      go_wp2_with (go_at_call 63; refine IK.out.mono ?_; rintro e w' ⟨rfl, rfl⟩)
      go_round
      case rel => exact ⟨k + 1, by omega, by go_num, rfl⟩
      case measure => simp [intOf]; omega
    · have hd : decide (i = k + 1) = true := decide_eq_true (by omega)
      have isK := is_sent i (k + 1) (w1.alloc (.cells #[.iface 199 (.pointer (some (ev 1))), .iface 199 (.pointer (some (ev 2))), .iface 199 (.pointer (some (ev 3))), .iface 199 (.pointer (some (ev 4))), .iface 199 (.pointer (some (ev 5))), .iface 199 (.pointer (some (ev 6))), .iface 199 (.pointer (some (ev 7))), .iface 199 (.pointer (some (ev 8))), .iface 199 (.pointer (some (ev 9))), .iface 199 (.pointer (some (ev 10)))] 33)) (hE1.below (by repeat (first | exact Below.refl _ _ | refine Below.drew ?_ | refine below_drewN ?_ _ | refine Below.trans ?_ (Below.mono (by assumption) (by first | omega | (simp; omega) | (simp; done))) | refine Below.alloc ?_ (by first | omega | (simp; omega) | (simp; done)) _ | refine Below.setCell ?_ (by first | omega | (simp; omega) | (simp; done)) _))) i1 i2 (by omega) (by omega)
      rw [hd] at isK
      have IK := Lib.hid isK
      clear isK hd
      go_wp2_with (go_at_call 63; refine IK.out.mono ?_; rintro e w' ⟨rfl, rfl⟩)
      go_ret2
      have e1 : i = k + 1 := by omega
      exact ⟨by rw [show (i : Int) = (k : Int) + 1 from by omega]; rfl, (by repeat (first | exact Below.refl _ _ | refine Below.drew ?_ | refine below_drewN ?_ _ | refine Below.trans ?_ (Below.mono (by assumption) (by first | omega | (simp; omega) | (simp; done))) | refine Below.alloc ?_ (by first | omega | (simp; omega) | (simp; done)) _ | refine Below.setCell ?_ (by first | omega | (simp; omega) | (simp; done)) _))⟩

theorem code_any {B : Nat} {ev : Nat → Addr} (i : Nat) (w : World) (hE : Errs B ev w) (i2 : i ≤ 10) :
    Calls Tryz.prog 33 #[errV ev i] w fun e w' => e = .returned (.tuple #[.int .i64 i, .int .i64 (-1)]) ∧ Below w.heap.size w w' := by
  rcases i with _ | i
  · exact (code_nil w).mono fun e w' ⟨h1, h2⟩ => ⟨h1, by rw [← h2]; exact Below.refl _ _⟩
  · exact code_sent (i + 1) w hE (by omega) i2

/-- coded: is an error of that number, without a place? -/
theorem coded_any {B : Nat} {ev : Nat → Addr} (i : Nat) (n : Int) (w : World) (hE : Errs B ev w) (i2 : i ≤ 10) :
    Calls Tryz.prog 12 #[errV ev i, .int .i64 n] w fun e w' => e = .returned (.bool (decide ((i : Int) = n))) ∧ Below w.heap.size w w' := by
  obtain ⟨m, hm⟩ : ∃ m : Int, m = (i : Int) := ⟨_, rfl⟩
  have cc := code_any i w hE i2
  rw [← hm] at cc
  have CC := Lib.hid cc
  clear cc
  rw [← hm]
  clear hm
  generalize errV ev i = x at CC
  by_cases h : m = n
  · rw [decide_eq_true h]
    have hd : (m == n) = true := by simpa using h
    clear h
    go_enter Tryz.func12, Tryz.ntmps12
    go_wp2_with fail
    refine CC.out.mono ?_
    rintro e w1 ⟨rfl, hb1⟩; obtain ⟨c1, f1⟩ := bcell hb1; have z1 := hb1.size; try simp at z1 c1 f1
    go_wp2
    go_ret
    exact ⟨rfl, (by repeat (first | exact Below.refl _ _ | refine Below.drew ?_ | refine below_drewN ?_ _ | refine Below.trans ?_ (Below.mono (by assumption) (by first | omega | (simp; omega) | (simp; done))) | refine Below.alloc ?_ (by first | omega | (simp; omega) | (simp; done)) _ | refine Below.setCell ?_ (by first | omega | (simp; omega) | (simp; done)) _))⟩
  · rw [decide_eq_false h]
    have hd : (m == n) = false := by simpa using h
    clear h
    go_enter Tryz.func12, Tryz.ntmps12
    go_wp2_with fail
    refine CC.out.mono ?_
    rintro e w1 ⟨rfl, hb1⟩; obtain ⟨c1, f1⟩ := bcell hb1; have z1 := hb1.size; try simp at z1 c1 f1
    go_wp2
    go_ret
    exact ⟨rfl, (by repeat (first | exact Below.refl _ _ | refine Below.drew ?_ | refine below_drewN ?_ _ | refine Below.trans ?_ (Below.mono (by assumption) (by first | omega | (simp; omega) | (simp; done))) | refine Below.alloc ?_ (by first | omega | (simp; omega) | (simp; done)) _ | refine Below.setCell ?_ (by first | omega | (simp; omega) | (simp; done)) _))⟩
theorem coded_at {B : Nat} {ev : Nat → Addr} (i : Nat) (n : Int) (w : World) (hE : Errs B ev w) (i2 : i ≤ 10) (h : (i : Int) = n) :
    Calls Tryz.prog 12 #[errV ev i, .int .i64 n] w fun e w' => e = .returned (.bool true) ∧ Below w.heap.size w w' := by
  have := coded_any i n w hE i2
  rwa [decide_eq_true h] at this
theorem Errs.go {B : Nat} {ev : Nat → Addr} {w w' : World} (h : Errs B ev w) (hb : Below w.heap.size w w') : Errs B ev w' := h.below (hb.mono h.size)
theorem ErrC.go {B : Nat} {ev : Nat → Addr} {w w' : World} (h : ErrC B ev w) (hb : Below w.heap.size w w') : ErrC B ev w' := h.below (hb.mono h.size)
theorem ErrD.go {B : Nat} {ev : Nat → Addr} {w w' : World} (h : ErrD B ev w) (hb : Below w.heap.size w w') : ErrD B ev w' := h.below (hb.mono h.size)
end Go.Proofs.YtigginpcokfihaaGreatDoor
