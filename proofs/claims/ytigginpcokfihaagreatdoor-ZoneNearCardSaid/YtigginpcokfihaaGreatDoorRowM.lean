/- Slices of blocks that are written: cells and marks; a store of a whole block; what slices.DeleteFunc does to a list, plainly. -/
import Derived.Test.YtigginpcokfihaaGreatDoorRow
import Derived.Test.YtigginpcokfihaaGreatDoorKeep
namespace Go.Proofs.YtigginpcokfihaaGreatDoor
open Go.RowKit

/-- the cells of block g read as these blocks of pages, and may be written -/
def Row2 (w : World) (g : Nat) (l : List (Int × Int)) : Prop :=
  ∀ j a k, l[j]? = some (a, k) → (w.cell? ⟨g, j * 2, none⟩ = some (.int .i64 a) ∧ w.cell? ⟨g, j * 2 + 1, none⟩ = some (.int .i64 k)) ∧ w.frozen? ⟨g, j * 2, none⟩ = false ∧ w.frozen? ⟨g, j * 2 + 1, none⟩ = false

theorem frozen_of_block {w : World} {g : Nat} {cur : Array Value} {e : TypeId} (h : w.heap[g]? = some (.cells cur e (0, 0))) (o : Nat) : w.frozen? ⟨g, o, none⟩ = false := by
  simp [World.frozen?, h]
theorem OwnB.mrow {w w' : World} {v : Value} {l : List (Int × Int)} (h : OwnB w w' v l) :
    (v = .slice none 0 0 ∧ l = []) ∨ ∃ g cap, v = .slice (some ⟨g, 0, none⟩) l.length cap ∧ w.heap.size ≤ g ∧ g < w'.heap.size ∧ l.length ≤ cap ∧ Row2 w' g l := by
  obtain ⟨ho, _⟩ := h
  have ho' := ho
  obtain ⟨_, h2⟩ := ho
  rcases h2 with ⟨rfl, h3⟩ | ⟨g, cap, cur, rfl, hg, hh, hcap, _⟩
  · refine .inl ⟨rfl, ?_⟩
    cases l with
    | nil => rfl
    | cons b r => simp at h3
  · refine .inr ⟨g, cap, rfl, hg, (ho'.lt g rfl).2, hcap, fun j a k hj => ?_⟩
    have hlt : j < l.length := (List.getElem?_eq_some_iff.1 hj).1
    obtain ⟨e1, e2⟩ := encB_get l j a k hj
    refine ⟨?_, frozen_of_block hh _, frozen_of_block hh _⟩
    rw [ho'.cellAt (j * 2) (by omega), ho'.cellAt (j * 2 + 1) (by omega)]
    exact ⟨e1, e2⟩
theorem Row2.keep {S : List Nat} {w w' : World} {g : Nat} {l : List (Int × Int)} (h : Row2 w g l) (k : Keep S w w') (hg : g < w.heap.size) (hn : g ∉ S) : Row2 w' g l := fun j a b hj => by
  rw [k.cell hg hn, k.cell hg hn, k.frozen hg hn, k.frozen hg hn]
  exact h j a b hj
theorem Row2.rowB {N : Nat} {w : World} {g cap : Nat} {l : List (Int × Int)} (h : Row2 w g l) (hl : l.length ≤ maxLen) (hg : g < N) (hN : N ≤ w.heap.size) : RowB N w (.slice (some ⟨g, 0, none⟩) l.length cap) l :=
  .inr ⟨g, cap, rfl, hl, hg, hN, fun j a k hj => (h j a k hj).1⟩
theorem set_cell_other {w : World} {g o o' : Nat} (u : Value) (h : o ≠ o') : (w.setCell ⟨g, o, none⟩ u).cell? ⟨g, o', none⟩ = w.cell? ⟨g, o', none⟩ := by
  simp only [World.cell?, World.setCell, Array.getElem?_modify]
  simp
  cases w.heap[g]? with
  | none => rfl
  | some ob => cases ob <;> simp [h]
theorem set_cell_far {w : World} {g o b o' : Nat} (u : Value) (h : g ≠ b) : (w.setCell ⟨g, o, none⟩ u).cell? ⟨b, o', none⟩ = w.cell? ⟨b, o', none⟩ := by
  simp only [World.cell?, World.setCell, Array.getElem?_modify, if_neg h]
theorem set_cell_same {w : World} {g o : Nat} {x : Value} (u : Value) (h : w.cell? ⟨g, o, none⟩ = some x) : (w.setCell ⟨g, o, none⟩ u).cell? ⟨g, o, none⟩ = some u := by
  simp only [World.cell?, World.setCell, Array.getElem?_modify] at *
  cases e : w.heap[g]? with
  | none => rw [e] at h; simp at h
  | some ob =>
    rw [e] at h
    cases ob with
    | cells cs t r =>
      simp at h ⊢
      have : o < cs.size := by
        rcases Nat.lt_or_ge o cs.size with q | q
        · exact q
        · rw [Array.getElem?_eq_none q] at h; cases h
      simp [this]
    | _ => simp at h
theorem set_frozen {w : World} {g o : Nat} (u : Value) (b o' : Nat) : (w.setCell ⟨g, o, none⟩ u).frozen? ⟨b, o', none⟩ = w.frozen? ⟨b, o', none⟩ := by
  simp only [World.frozen?, World.setCell, Array.getElem?_modify]
  by_cases h : g = b
  · subst h
    simp
    cases w.heap[g]? with
    | none => rfl
    | some ob => cases ob <;> simp
  · simp [h]
/-- a store of a whole block of pages -/
theorem Row2.set {w : World} {g : Nat} {l : List (Int × Int)} (h : Row2 w g l) {i : Nat} (hi : i < l.length) (a k : Int) :
    Row2 ((w.setCell ⟨g, i * 2, none⟩ (.int .i64 a)).setCell ⟨g, i * 2 + 1, none⟩ (.int .i64 k)) g (l.set i (a, k)) := by
  intro j x y hj
  obtain ⟨x0, hx0⟩ : ∃ p, l[i]? = some p := ⟨l[i], List.getElem?_eq_getElem _⟩
  obtain ⟨p0, p1⟩ := x0
  obtain ⟨⟨q1, q2⟩, q3, q4⟩ := h i p0 p1 hx0
  by_cases e : i = j
  · subst e
    rw [List.getElem?_set_self hi] at hj
    simp at hj
    obtain ⟨rfl, rfl⟩ := hj
    refine ⟨⟨?_, ?_⟩, ?_, ?_⟩
    · rw [set_cell_other _ (by omega), set_cell_same _ q1]
    · rw [set_cell_same (x := .int .i64 p1) _ (by rw [set_cell_other _ (by omega)]; exact q2)]
    · rw [set_frozen, set_frozen]; exact q3
    · rw [set_frozen, set_frozen]; exact q4
  · rw [List.getElem?_set_ne e] at hj
    obtain ⟨⟨r1, r2⟩, r3, r4⟩ := h j x y hj
    refine ⟨⟨?_, ?_⟩, ?_, ?_⟩
    · rw [set_cell_other _ (by omega), set_cell_other _ (by omega)]; exact r1
    · rw [set_cell_other _ (by omega), set_cell_other _ (by omega)]; exact r2
    · rw [set_frozen, set_frozen]; exact r3
    · rw [set_frozen, set_frozen]; exact r4

/-- the state of slices.DeleteFunc over F behind j of its elements: i are kept -/
structure DelInv (p : Int × Int → Bool) (F : List (Int × Int)) (i j : Nat) (L : List (Int × Int)) : Prop where
  len : L.length = F.length
  lt : i < j
  le : j ≤ F.length
  low : L.take i = (F.take j).filter fun x => !p x
  high : L.drop j = F.drop j

theorem DelInv.start {p : Int × Int → Bool} {F : List (Int × Int)} {i : Nat} {z : Int × Int} (hz : F[i]? = some z) (hp : p z = true) (hall : ∀ x ∈ F.take i, p x = false) : DelInv p F i (i + 1) F := by
  refine ⟨rfl, by omega, (List.getElem?_eq_some_iff.1 hz).1, ?_, rfl⟩
  rw [List.take_add_one, hz, List.filter_append]
  simp [hp]
  exact (List.filter_eq_self.2 fun x hx => by simp [hall x hx]).symm
theorem DelInv.at {p : Int × Int → Bool} {F L : List (Int × Int)} {i j : Nat} (h : DelInv p F i j L) (m : Nat) (hm : j ≤ m) : L[m]? = F[m]? := by
  have := congrArg (fun l => l[m - j]?) h.high
  simp only [List.getElem?_drop] at this
  rwa [show j + (m - j) = m by omega] at this
theorem DelInv.skip {p : Int × Int → Bool} {F L : List (Int × Int)} {i j : Nat} {z : Int × Int} (h : DelInv p F i j L) (hz : F[j]? = some z) (hp : p z = true) : DelInv p F i (j + 1) L := by
  have hl := h.len; have hj := (List.getElem?_eq_some_iff.1 hz).1; have hlt := h.lt
  refine ⟨hl, by omega, by omega, ?_, ?_⟩
  · rw [List.take_add_one, hz, List.filter_append, ← h.low]; simp [hp]
  · have := congrArg (List.drop 1) h.high
    simpa [List.drop_drop] using this
theorem DelInv.keep {p : Int × Int → Bool} {F L : List (Int × Int)} {i j : Nat} {z : Int × Int} (h : DelInv p F i j L) (hz : F[j]? = some z) (hp : p z = false) : DelInv p F (i + 1) (j + 1) (L.set i z) := by
  have hl := h.len; have hj := (List.getElem?_eq_some_iff.1 hz).1; have hlt := h.lt
  refine ⟨by simp [hl], by omega, by omega, ?_, ?_⟩
  · have e1 : F.take (j + 1) = F.take j ++ [z] := by rw [List.take_add_one, hz]; rfl
    have e2 : (L.set i z).take (i + 1) = L.take i ++ [z] := by rw [List.take_add_one, List.getElem?_set_self (by omega), List.take_set_of_le (Nat.le_refl _)]; rfl
    rw [e1, e2, List.filter_append, ← h.low]; simp [hp]
  · rw [List.drop_set_of_lt (by omega)]
    have := congrArg (List.drop 1) h.high
    simpa [List.drop_drop] using this
theorem DelInv.done {p : Int × Int → Bool} {F L : List (Int × Int)} {i : Nat} (h : DelInv p F i F.length L) : L.take i = (F.filter fun x => !p x) ∧ i = (F.filter fun x => !p x).length ∧ i < L.length := by
  have h1 := h.low
  have h2 := h.lt
  have h3 := h.len
  rw [List.take_length] at h1
  exact ⟨h1, by rw [← h1, List.length_take]; omega, by omega⟩
end Go.Proofs.YtigginpcokfihaaGreatDoor
