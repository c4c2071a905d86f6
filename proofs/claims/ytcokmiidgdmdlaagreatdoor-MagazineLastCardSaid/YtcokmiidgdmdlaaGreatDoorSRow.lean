/- A row of cells known whole: stores into it. -/
import Derived.Test.YtcokmiidgdmdlaaGreatDoorMem
import Derived.Shelf.Spec.SlicesInsertGrow
namespace Go.Proofs.YtcokmiidgdmdlaaGreatDoor
open Go.RowKit
set_option linter.unusedSimpArgs false
set_option linter.unusedVariables false

/-- block g holds the cells cs, all of them -/
def Row1 (w : World) (g : Nat) (e : TypeId) (cs : List Value) : Prop := ∃ cur : Array Value, w.heap[g]? = some (.cells cur e (0, 0)) ∧ cur.toList = cs
theorem Row1.lt {w : World} {g : Nat} {e : TypeId} {cs : List Value} (h : Row1 w g e cs) : g < w.heap.size := by
  obtain ⟨cur, h1, _⟩ := h
  rcases Nat.lt_or_ge g w.heap.size with q | q
  · exact q
  · rw [Array.getElem?_eq_none q] at h1; cases h1
theorem Row1.keep {S : List Nat} {w w' : World} {g : Nat} {e : TypeId} {cs : List Value} (h : Row1 w g e cs) (k : Keep S w w') (hg : g ∉ S) : Row1 w' g e cs := by
  have hl := h.lt
  obtain ⟨cur, h1, h2⟩ := h
  exact ⟨cur, (k.block g hl hg).trans h1, h2⟩
theorem Row1.loc {w : World} {g : Nat} {e : TypeId} {cs : List Value} (h : Row1 w g e cs) : LocN w g cs := by
  have hl := h.lt
  obtain ⟨cur, h1, rfl⟩ := h
  refine ⟨hl, fun j u hj => ?_, fun j hj => ?_⟩
  · simp only [World.cell?, h1]
    simpa using hj
  · simp only [World.frozen?, h1]
    simp
theorem Row1.drew {w : World} {g : Nat} {e : TypeId} {cs : List Value} (h : Row1 w g e cs) : Row1 w.drew g e cs := h
theorem Row1.set {w : World} {g : Nat} {e : TypeId} {cs : List Value} (h : Row1 w g e cs) (o : Nat) (v : Value) : Row1 (w.setCell ⟨g, o, none⟩ v) g e (cs.set o v) := by
  obtain ⟨cur, h1, rfl⟩ := h
  refine ⟨cur.setIfInBounds o v, ?_, by simp⟩
  simp only [World.setCell, Array.getElem?_modify, h1]
  simp
theorem Row1.sets {g : Nat} {e : TypeId} : ∀ (vs : List Value) {w : World} {cs : List Value} (o : Nat), Row1 w g e cs → o + vs.length ≤ cs.length → Row1 (w.setCells g o vs) g e (cs.take o ++ vs ++ cs.drop (o + vs.length))
  | [], w, cs, o, h, hl => by simpa [World.setCells] using h
  | v :: r, w, cs, o, h, hl => by
    have := Row1.sets r (o + 1) (h.set o v) (by simp at hl ⊢; omega)
    rw [World.setCells]
    have e1 : (cs.set o v).take (o + 1) ++ r ++ (cs.set o v).drop (o + 1 + r.length) = cs.take o ++ v :: r ++ cs.drop (o + (r.length + 1)) := by
      simp at hl
      apply List.ext_getElem?
      intro i
      simp only [List.getElem?_append, List.length_append, List.length_take, List.length_set, List.length_cons, List.getElem?_take, List.getElem?_set, List.getElem?_drop, List.getElem?_cons]
      rcases Nat.lt_trichotomy i o with q | q | q
      · simp [show i < o + 1 by omega, show i < min (o + 1) cs.length + r.length by omega, show i < min (o + 1) cs.length by omega, show i < min o cs.length + (r.length + 1) by omega, show i < min o cs.length by omega, q, show o ≠ i by omega]
      · subst q
        simp [show i < min (i + 1) cs.length + r.length by omega, show i < min (i + 1) cs.length by omega, show ¬ i < min i cs.length by omega, show i < min i cs.length + (r.length + 1) by omega, show i < cs.length by omega, show i - min i cs.length = 0 by omega]
      · by_cases q2 : i < o + 1 + r.length
        · have a1 : i < min (o + 1) cs.length + r.length := by omega
          have a2 : ¬ i < min (o + 1) cs.length := by omega
          have a3 : i < min o cs.length + (r.length + 1) := by omega
          have a4 : ¬ i < min o cs.length := by omega
          have a5 : ¬ (i - min o cs.length = 0) := by omega
          simp only [a1, a2, a3, a4, a5, if_true, if_false]
          rw [show i - min (o + 1) cs.length = i - min o cs.length - 1 by omega]
        · have a1 : ¬ i < min (o + 1) cs.length + r.length := by omega
          have a3 : ¬ i < min o cs.length + (r.length + 1) := by omega
          have a5 : ¬ (o = o + 1 + r.length + (i - (min (o + 1) cs.length + r.length))) := by omega
          simp only [a1, a3, a5, if_false]
          rw [show o + 1 + r.length + (i - (min (o + 1) cs.length + r.length)) = o + (r.length + 1) + (i - (min o cs.length + (r.length + 1))) by omega]
    rw [e1] at this
    simpa using this
theorem keep_sets {g : Nat} : ∀ (vs : List Value) {S : List Nat} {w0 w : World} (o : Nat), Keep S w0 w → (g ∈ S ∨ w0.heap.size ≤ g) → Keep S w0 (w.setCells g o vs)
  | [], S, w0, w, o, k, h => k
  | v :: r, S, w0, w, o, k, h => keep_sets r (o + 1) (k.setCell (p := ⟨g, o, none⟩) h v) h
theorem Row1.own {w : World} {B g : Nat} {e : TypeId} {cs : List Value} (h : Row1 w g e cs) (hB : B ≤ g) {n : Nat} (hn : n ≤ cs.length) (hm : cs.length ≤ maxLen) : w.ownsRow B e 1 (.slice (some ⟨g, 0, none⟩) n cs.length) n (cs.take n) := by
  obtain ⟨cur, h1, rfl⟩ := h
  refine ⟨by rw [List.length_take]; omega, .inr ⟨g, _, cur, rfl, hB, h1, hn, hm, by simp, by simp⟩⟩
theorem own_row1 {w : World} {B g n cap : Nat} {e : TypeId} {us : List Value} (h : w.ownsRow B e 1 (.slice (some ⟨g, 0, none⟩) n cap) n us) : ∃ rest, Row1 w g e (us ++ rest) ∧ (us ++ rest).length = cap ∧ us.length = n ∧ n ≤ cap ∧ cap ≤ maxLen ∧ B ≤ g := by
  obtain ⟨hl, h⟩ := h
  rcases h with ⟨h, _⟩ | ⟨g', cap', cur, h, hB, h1, h2, h3, h4, h5⟩
  · cases h
  · injection h with e1 e2 e3
    injection e1 with e1
    injection e1 with e1
    subst e1 e3
    simp only [Nat.mul_one] at *
    refine ⟨cur.toList.drop n, ⟨cur, h1, by rw [← h5, List.take_append_drop]⟩, ?_, hl, h2, h3, hB⟩
    rw [← h5, List.take_append_drop]; simpa using h4
theorem own_nil {w : World} {B : Nat} {e : TypeId} {n k : Nat} {us : List Value} (h : w.ownsRow B e 1 (.slice none n k) n us) : n = 0 ∧ k = 0 ∧ us = [] := by
  obtain ⟨hl, h⟩ := h
  rcases h with ⟨h, h0⟩ | ⟨g', cap', cur, h, _⟩
  · injection h with _ _ e3
    subst h0
    exact ⟨rfl, e3, by simpa using hl⟩
  · cases h
end Go.Proofs.YtcokmiidgdmdlaaGreatDoor
