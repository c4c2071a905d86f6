/- Package magazine: New, hand, swap by their contracts. -/
import Derived.Test.YtcokmiidgdmdlaaGreatDoorDB
namespace Go.Proofs.YtcokmiidgdmdlaaGreatDoor
open Go.RowKit Go.Maps
set_option linter.unusedSimpArgs false
set_option linter.unusedVariables false

section
variable {X Y S : List Nat} {B : Nat} {ev : Nat → Addr} {w w' : World} {pd pc pz gh e : Nat} {mn lw hi : Int} {O : List (List Int)} {v vp : Value} {A : SA} {V : HV} {U : List Value} {d : De} {c : Ca}
def nilH : Value × Value := (.slice none 0 0, .slice none 0 0)
set_option maxHeartbeats 1000000 in
set_option maxRecDepth 100000 in
theorem dnew_ok (pc : Nat) (n : Nat) (w : World) (n1 : 1 ≤ n) (n4 : n ≤ 4) :
    Calls Tryz.prog 32 #[.pointer (some ⟨pc, 0, none⟩), .int .i64 n] w fun r w' => r = .returned (.tuple #[.pointer (some ⟨w.heap.size + 1, 0, none⟩), .nilIface]) ∧ w' = (w.alloc (.cells (handL (List.replicate n nilH)).toArray 157)).alloc (.cells #[.pointer (some ⟨pc, 0, none⟩), .slice (some ⟨w.heap.size, 0, none⟩) n n, .slice none 0 0] 152) := by
  have h : n = 1 ∨ n = 2 ∨ n = 3 ∨ n = 4 := by omega
  have em : madeCells (Value.agg #[.slice none 0 0, .slice none 0 0]).cells (n * 2) = (handL (List.replicate n nilH)).toArray := by rcases h with rfl | rfl | rfl | rfl <;> kernel_rfl
  have MK : ∀ W : World, (Instr.makeSlice 150 (.int .i64 (n : Nat)) (.int .i64 (n : Nat))).run Tryz.prog W = .ok (.slice (some ⟨W.heap.size, 0, none⟩) n n) (W.alloc (.cells (handL (List.replicate n nilH)).toArray 157)) := fun W => by
    obtain ⟨i0, hi0, hz0, hzs, hzb⟩ := info_parts (P := Tryz.prog) (e := 157) (z := .agg #[.slice none 0 0, .slice none 0 0]) (size := 2) (bytes := 48) (by kernel_rfl)
    have := run_make (P := Tryz.prog) W 150 157 i0 _ Tryz.underlying150 hi0 hz0 .i64 .i64 (n : Nat) (n : Nat) (by omega) (Int.le_refl _) (by rw [hzb]; omega) (by omega)
    rw [this, hzs, ← em]
    simp only [Int.toNat_natCast]
  rcases h with rfl | rfl | rfl | rfl
  · have MK' : (Instr.makeSlice 150 (.int .i64 1) (.int .i64 1)).run Tryz.prog w = .ok (.slice (some ⟨w.heap.size, 0, none⟩) 1 1) (w.alloc (.cells (handL (List.replicate 1 nilH)).toArray 157)) := MK w
    clear MK em
    go_enter Tryz.func32, Tryz.ntmps32
    go_wp2
    go_ret2
    exact ⟨rfl, rfl⟩
  · have MK' : (Instr.makeSlice 150 (.int .i64 2) (.int .i64 2)).run Tryz.prog w = .ok (.slice (some ⟨w.heap.size, 0, none⟩) 2 2) (w.alloc (.cells (handL (List.replicate 2 nilH)).toArray 157)) := MK w
    clear MK em
    go_enter Tryz.func32, Tryz.ntmps32
    go_wp2
    go_ret2
    exact ⟨rfl, rfl⟩
  · have MK' : (Instr.makeSlice 150 (.int .i64 3) (.int .i64 3)).run Tryz.prog w = .ok (.slice (some ⟨w.heap.size, 0, none⟩) 3 3) (w.alloc (.cells (handL (List.replicate 3 nilH)).toArray 157)) := MK w
    clear MK em
    go_enter Tryz.func32, Tryz.ntmps32
    go_wp2
    go_ret2
    exact ⟨rfl, rfl⟩
  · have MK' : (Instr.makeSlice 150 (.int .i64 4) (.int .i64 4)).run Tryz.prog w = .ok (.slice (some ⟨w.heap.size, 0, none⟩) 4 4) (w.alloc (.cells (handL (List.replicate 4 nilH)).toArray 157)) := MK w
    clear MK em
    go_enter Tryz.func32, Tryz.ntmps32
    go_wp2
    go_ret2
    exact ⟨rfl, rfl⟩
set_option maxHeartbeats 1000000 in
theorem dnew_err (pc : Nat) (n : Int) (w : World) (hE : ErrC B ev w) (hn : n < 1 ∨ 4 < n) :
    Calls Tryz.prog 32 #[.pointer (some ⟨pc, 0, none⟩), .int .i64 n] w fun r w' => r = .returned (.tuple #[.pointer none, errV ev 2]) ∧ Below w.heap.size w w' := by
  have r2 := hE.c2
  have e1 : errV ev 2 = .iface 291 (.pointer (some (ev 2))) := rfl
  have l2 := Nat.lt_of_lt_of_le hE.l2 hE.size
  rw [e1] at r2 ⊢
  clear hE
  by_cases h1 : n < 1
  · have d1 : decide (n < 1) = true := decide_eq_true h1
    go_enter Tryz.func32, Tryz.ntmps32
    go_wp2_with fail
    go_quiet (fail)
    go_wp2
    go_ret2
    exact ⟨rfl, (by repeat (first | exact Below.refl _ _ | refine Below.drew ?_ | refine below_drewN ?_ _ | refine Below.trans ?_ (Below.mono (by assumption) (by first | omega | (simp; omega) | (simp; done))) | refine Below.alloc ?_ (by first | omega | (simp; omega) | (simp; done)) _ | refine Below.setCell ?_ (by first | omega | (simp; omega) | (simp; done)) _))⟩
  · have d1 : decide (n < 1) = false := decide_eq_false h1
    have d2 : decide (4 < n) = true := decide_eq_true (by omega)
    go_enter Tryz.func32, Tryz.ntmps32
    go_wp2_with fail
    go_quiet (fail)
    go_wp2
    go_ret2
    exact ⟨rfl, (by repeat (first | exact Below.refl _ _ | refine Below.drew ?_ | refine below_drewN ?_ _ | refine Below.trans ?_ (Below.mono (by assumption) (by first | omega | (simp; omega) | (simp; done))) | refine Below.alloc ?_ (by first | omega | (simp; omega) | (simp; done)) _ | refine Below.setCell ?_ (by first | omega | (simp; omega) | (simp; done)) _))⟩
set_option maxHeartbeats 1000000 in
theorem dnew_nil (n : Int) (w : World) (hE : ErrC B ev w) :
    Calls Tryz.prog 32 #[.pointer none, .int .i64 n] w fun r w' => r = .returned (.tuple #[.pointer none, errV ev 3]) ∧ Below w.heap.size w w' := by
  have r2 := hE.c3
  have e1 : errV ev 3 = .iface 291 (.pointer (some (ev 3))) := rfl
  have l2 := Nat.lt_of_lt_of_le hE.l3 hE.size
  rw [e1] at r2 ⊢
  clear hE
  go_enter Tryz.func32, Tryz.ntmps32
  go_wp2_with fail
  go_quiet (fail)
  go_wp2
  go_ret2
  exact ⟨rfl, (by repeat (first | exact Below.refl _ _ | refine Below.drew ?_ | refine below_drewN ?_ _ | refine Below.trans ?_ (Below.mono (by assumption) (by first | omega | (simp; omega) | (simp; done))) | refine Below.alloc ?_ (by first | omega | (simp; omega) | (simp; done)) _ | refine Below.setCell ?_ (by first | omega | (simp; omega) | (simp; done)) _))⟩
set_option maxHeartbeats 1000000 in
theorem dhand_ok (h : CD B w X pd pc pz gh mn lw hi O e v A V vp U d) (k : Nat) (hk : k < d.H.length) :
    Calls Tryz.prog 85 #[.pointer (some ⟨pd, 0, none⟩), .int .i64 k] w fun r w' => r = .returned (.tuple #[.pointer (some ⟨gh, k * 2, none⟩), .nilIface]) ∧ w' = w := by
  have c0 := h.de.d.c 0 _ rfl; have c1 := h.de.d.c 1 _ rfl; have cl := h.de.d.lt
  obtain ⟨n, hn⟩ : ∃ n, n = d.H.length := ⟨_, rfl⟩
  rw [← hn] at c1 hk
  have h0 : decide ((k : Int) < 0) = false := decide_eq_false (by omega)
  have h1 : decide ((n : Int) ≤ k) = false := decide_eq_false (by omega)
  have h2 : (k : Int) < n := by omega
  clear h hn
  go_enter Tryz.func85, Tryz.ntmps85
  go_wp2
  go_ret2
  exact ⟨rfl, rfl⟩
set_option maxHeartbeats 1000000 in
theorem dhand_err (hE : ErrC B ev w) (h : CD B w X pd pc pz gh mn lw hi O e v A V vp U d) (k : Int) (hk : k < 0 ∨ (d.H.length : Int) ≤ k) :
    Calls Tryz.prog 85 #[.pointer (some ⟨pd, 0, none⟩), .int .i64 k] w fun r w' => r = .returned (.tuple #[.pointer none, errV ev 2]) ∧ Below w.heap.size w w' := by
  have c0 := h.de.d.c 0 _ rfl; have c1 := h.de.d.c 1 _ rfl; have cl := h.de.d.lt
  obtain ⟨n, hn⟩ : ∃ n, n = d.H.length := ⟨_, rfl⟩
  rw [← hn] at c1 hk
  have r2 := hE.c2
  have e1 : errV ev 2 = .iface 291 (.pointer (some (ev 2))) := rfl
  have l2 := Nat.lt_of_lt_of_le hE.l2 hE.size
  rw [e1] at r2 ⊢
  clear h hn hE
  by_cases h1 : k < 0
  · have d1 : decide (k < 0) = true := decide_eq_true h1
    go_enter Tryz.func85, Tryz.ntmps85
    go_wp2_with fail
    go_quiet (fail)
    go_wp2
    go_ret2
    exact ⟨rfl, (by repeat (first | exact Below.refl _ _ | refine Below.drew ?_ | refine below_drewN ?_ _ | refine Below.trans ?_ (Below.mono (by assumption) (by first | omega | (simp; omega) | (simp; done))) | refine Below.alloc ?_ (by first | omega | (simp; omega) | (simp; done)) _ | refine Below.setCell ?_ (by first | omega | (simp; omega) | (simp; done)) _))⟩
  · have d1 : decide (k < 0) = false := decide_eq_false h1
    have d2 : decide ((n : Int) ≤ k) = true := decide_eq_true (by omega)
    go_enter Tryz.func85, Tryz.ntmps85
    go_wp2_with fail
    go_quiet (fail)
    go_wp2
    go_ret2
    exact ⟨rfl, (by repeat (first | exact Below.refl _ _ | refine Below.drew ?_ | refine below_drewN ?_ _ | refine Below.trans ?_ (Below.mono (by assumption) (by first | omega | (simp; omega) | (simp; done))) | refine Below.alloc ?_ (by first | omega | (simp; omega) | (simp; done)) _ | refine Below.setCell ?_ (by first | omega | (simp; omega) | (simp; done)) _))⟩
set_option maxHeartbeats 2000000 in
theorem dswap_ok (g o : Nat) (p p' : Option Addr) (n n' k k' : Nat) (a b : Value) (ha : a = .slice p n k) (hb : b = .slice p' n' k') (w : World) (h0 : w.cell? ⟨g, o, none⟩ = some a) (h1 : w.cell? ⟨g, o + 1, none⟩ = some b) (f0 : w.frozen? ⟨g, o, none⟩ = false) (f1 : w.frozen? ⟨g, o + 1, none⟩ = false) (hl : g < w.heap.size) :
    Calls Tryz.prog 86 #[.pointer (some ⟨g, o, none⟩)] w fun r w' => r = .returned (.tuple #[]) ∧ w' = ((w.setCell ⟨g, o, none⟩ b).setCell ⟨g, o + 1, none⟩ a).drew := by
  subst ha hb
  go_enter Tryz.func86, Tryz.ntmps86
  go_wp2_with fail
  go_region
  exact bodyPost_end (v := .tuple #[]) (by simp [results, Tryz.results86, go_sem]) rfl ⟨rfl, rfl⟩
end
end Go.Proofs.YtcokmiidgdmdlaaGreatDoor
