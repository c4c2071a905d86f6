/- The document's buddy: a new one; its free pages. -/
import Derived.Test.YtcooflachcimbaaDoorRefT
import Derived.Test.YtcooflachcimbaaDoorCovB
namespace Go.Proofs.YtcooflachcimbaaDoor
open Go.RowKit
set_option linter.unusedSimpArgs false

set_option maxHeartbeats 1000000 in
theorem newBuddy_ok {X : List Nat} (n : Int) (w : World) (n1 : 1 ≤ n) (n2 : n ≤ 256) (hX : ∀ x ∈ X, x < w.heap.size) :
    Calls Tryd.prog 39 #[.int .i64 n] w fun e w' => ∃ pm v, e = .returned (.pointer (some ⟨pm, 0, none⟩)) ∧ RBud (pm :: X) w' pm n v (.slice none 0 0) (covL 0 n) [] ∧ w.heap.size ≤ pm ∧ Below w.heap.size w w' := by
  have HC := Lib.hid (coverOf_ok 0 n w (by omega) (by omega) (by omega))
  have HX := Lib.hid hX
  clear hX
  go_enter Tryd.func39, Tryd.ntmps39
  go_wp2_with fail
  refine HC.out.mono ?_
  rintro e w1 ⟨v, rfl, ho⟩
  have z1 := ho.2.size
  have hb1 := ho.2
  have row := RowX.of ho HX.out
  obtain ⟨t1, t2, t3, rfl⟩ := ho.isSlice
  have HR := Lib.hid row
  clear row ho HC
  go_wp2
  go_ret
  refine ⟨_, .slice t1 t2 t3, rfl, ⟨by simp, by simp, ?_, ?_, ?_, ?_, ?_, ?_, .inl ⟨rfl, rfl⟩⟩, z1, (by repeat (first | exact Below.refl _ _ | refine Below.drew ?_ | refine below_drewN ?_ _ | refine Below.trans ?_ (Below.mono (by assumption) (by first | omega | (simp; omega) | (simp; done))) | refine Below.alloc ?_ (by first | omega | (simp; omega) | (simp; done)) _ | refine Below.setCell ?_ (by first | omega | (simp; omega) | (simp; done)) _))⟩
  · rw [World.cell?_alloc_at _ _ _ _ (by simp)]; rfl
  · rw [World.cell?_alloc_at _ _ _ _ (by simp)]; rfl
  · rw [World.cell?_alloc_at _ _ _ _ (by simp)]; rfl
  · exact World.frozen?_alloc_at _ _ _ _ (by simp)
  · exact World.frozen?_alloc_at _ _ _ _ (by simp)
  · exact (HR.out.more (Y := w1.heap.size :: X) (fun y hy => by simp at hy; rcases hy with rfl | hy; (· right; omega); (· left; exact hy))).keep ((Keep.refl [] _).alloc _) (fun s hs => by cases hs)

theorem sumL_take {F : List (Int × Int)} {i : Nat} {z : Int × Int} (h : F[i]? = some z) : sumL (F.take (i + 1)) = sumL (F.take i) + sz z.2 := by
  rw [List.take_add_one, h]
  show sumL (F.take i ++ [z]) = _
  rw [sumL_append]
  simp [sumL]
theorem sumL_take_le (F : List (Int × Int)) (i : Nat) : 0 ≤ sumL (F.take i) ∧ sumL (F.take i) ≤ sumL F := by
  have h := sumL_append (F.take i) (F.drop i)
  rw [List.take_append_drop] at h
  have := sumL_nonneg (F.take i)
  have := sumL_nonneg (F.drop i)
  omega

set_option maxHeartbeats 1000000 in
theorem freePages_ok {X : List Nat} (pm : Nat) (n : Int) (vF vT : Value) (F T : List (Int × Int)) (w : World) (h : RBud X w pm n vF vT F T) (hI : Inv n F T) :
    Calls Tryd.prog 61 #[.pointer (some ⟨pm, 0, none⟩)] w fun e w' => e = .returned (.int .i64 (sumL F)) ∧ Below w.heap.size w w' := by
  have c1 := h.c1; have lp := h.lt
  have lF := hI.lenF
  have sF := hI.sumF
  have n2 := hI.n2
  have HI := Lib.hid hI
  have h' : ∃ p cap, vF = .slice p F.length cap ∧ Hid (∀ j a k, F[j]? = some (a, k) → ∃ g, p = some ⟨g, 0, none⟩ ∧ g < w.heap.size ∧ w.cell? ⟨g, j * 2 + 1, none⟩ = some (.int .i64 k)) := by
    rcases h.rF with ⟨rfl, rfl⟩ | ⟨g, cap, rfl, _, _, _, hg, hc⟩
    · exact ⟨none, 0, rfl, fun j a k hj => by simp at hj⟩
    · exact ⟨_, cap, rfl, fun j a k hj => ⟨g, rfl, hg, (hc j a k hj).2⟩⟩
  obtain ⟨p, cap, rfl, HP0⟩ := h'
  obtain ⟨N, hN⟩ : ∃ N, N = F.length := ⟨_, rfl⟩
  have HN := Lib.hid hN
  rw [← hN] at lF c1
  clear h hI hN
  go_enter Tryd.func61, Tryd.ntmps61
  go_wp2_with fail
  go_loopw [3, 4] (fun sv iv wr => ∃ i : Nat, i ≤ N ∧ iv = .int .i64 i ∧ sv = .int .i64 (sumL (F.take i)) ∧ Below w.heap.size w wr) (fun _ iv _ => N - (intOf iv).toNat)
  case atStart => exact ⟨0, Nat.zero_le _, by go_num, by simp [sumL], Below.refl _ _⟩
  case round =>
    obtain ⟨i, hi, rfl, rfl, hbel⟩ := hrel
    have hsb := sumL_take_le F i
    have zr := hbel.size
    have cr := (hbel.cell (p := ⟨pm, 1, none⟩) lp).trans c1
    have lpr : pm < wr.heap.size := by omega
    by_cases hlt : i < N
    · obtain ⟨y, hy⟩ : ∃ y, F[i]? = some y := ⟨F[i]'(by rw [← HN.out]; exact hlt), List.getElem?_eq_getElem _⟩
      obtain ⟨a, k⟩ := y
      obtain ⟨g, rfl, hg, r2'⟩ := HP0.out i a k hy
      have r2 := (hbel.cell (p := ⟨g, i * 2 + 1, none⟩) hg).trans r2'
      have gr : g < wr.heap.size := by omega
      have hst := sumL_take hy
      have hrg := HI.out.rngF (List.mem_of_getElem? hy)
      have hsb2 := sumL_take_le F (i + 1)
      simp only at hrg hst
      obtain ⟨s1, s2⟩ := sz_bd hrg.2.2.1 hrg.2.2.2
      have PA := Lib.hid (fun w => pages_any k w hrg.2.2.1 (by omega))
      have ST := Lib.hid hst
      clear hy hst r2'
      go_wp2_with (go_at_call 21; refine (PA.out _).mono ?_; rintro e w' ⟨rfl, rfl⟩)
      go_roundw
      case rel => exact ⟨i + 1, by omega, by go_num, by rw [ST.out], hbel⟩
      case measure => simp [intOf]; omega
    · have ei : i = N := by omega
      have hfin : sumL (F.take i) = sumL F := by rw [ei, HN.out, List.take_length]
      have HF := Lib.hid hfin
      clear hfin ei
      go_wp2
      go_ret
      exact ⟨by simp [HF.out], hbel⟩
end Go.Proofs.YtcooflachcimbaaDoor
