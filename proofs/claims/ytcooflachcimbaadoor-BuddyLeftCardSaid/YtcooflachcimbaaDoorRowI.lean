/- A slice of ints that came in: what it reads as. -/
import Derived.Test.YtcooflachcimbaaDoorKeep
import Derived.Test.YtcooflachcimbaaDoorChecked
import Derived.ChangeSlices
namespace Go.Proofs.YtcooflachcimbaaDoor
open Go.RowKit Go.ChangeShapes

/-- a slice of ints that came in: what it reads as -/
def RowI (w : World) (v : Value) (xs : List Int) : Prop :=
  ∃ p cap, v = .slice p xs.length cap ∧ ∀ j x, xs[j]? = some x → ∃ g off, p = some ⟨g, off, none⟩ ∧ g < w.heap.size ∧ w.cell? ⟨g, off + j, none⟩ = some (.int .i64 x) ∧ -9223372036854775808 ≤ x ∧ x ≤ 9223372036854775807

theorem cells_int : Tryd.prog.cellsOf 3 = 1 := by kernel_rfl
theorem rowI_of {H : Type} {enc : TypeId × Value → H} {W : World} {base : Nat} {spare : Nat → Bool} {held : Bool} {fuel : Nat} {v : Value} {x : DataW H × List MemPlace}
    (h : DataW.trod enc Tryd.prog W base spare held fuel 32 [v] = some x) : ∃ xs, RowI W v xs := by
  rcases open_ints Tryd.underlying32 Tryd.underlying3 cells_int h with ⟨hcs, _⟩ | ⟨a, len, cap, zs, hcs, _, hl, hm, hz, _, hcell, hwz⟩
  · have e : v = .slice none 0 0 := by simpa using hcs
    exact ⟨[], none, 0, e, fun j x hj => by simp at hj⟩
  · have e : v = .slice (some a) len cap := by simpa using hcs
    have hlz : len ≤ zs.length := by
      rw [hz]
      split <;> omega
    refine ⟨zs.take len, some a, cap, ?_, fun j x hj => ?_⟩
    · rw [e, List.length_take, Nat.min_eq_left hlz]
    · have hjl : j < len := by
        have := (List.getElem?_eq_some_iff.1 hj).1
        rw [List.length_take] at this; omega
      rw [List.getElem?_take_of_lt hjl] at hj
      obtain ⟨b, off, spot⟩ := a
      have h0 := hcell 0 (by omega)
      have hspot : spot = none := by simpa [Addr.add] using World.cell?_spot h0
      subst hspot
      have hx : zs.getD j 0 = x := by rw [List.getD_eq_getElem?_getD, hj]; rfl
      have hc := hcell j (by omega)
      rw [hx] at hc
      have hc' : W.cell? ⟨b, off + j, none⟩ = some (.int .i64 x) := by
        rw [← hc]
        unfold Addr.add
        split
        · rename_i e0; rw [e0]; rfl
        · rfl
      have hw := hwz x (List.mem_of_getElem? hj)
      refine ⟨b, off, rfl, ?_, hc', ?_⟩
      · rcases Nat.lt_or_ge b W.heap.size with q | q
        · exact q
        · simp [World.cell?, Array.getElem?_eq_none q] at hc'
      · simp [Lit.wf, IntKind.min, IntKind.max, IntKind.signed, IntKind.bits] at hw
        omega
end Go.Proofs.YtcooflachcimbaaDoor
