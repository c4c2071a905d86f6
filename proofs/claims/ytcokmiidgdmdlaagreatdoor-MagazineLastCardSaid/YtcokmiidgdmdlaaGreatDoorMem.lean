/- Slices of blocks that are written: cells and marks; a store of a whole block; what slices.DeleteFunc does to a list, plainly. A slice of blocks that is read, nil or not, with where it lies. A slice of blocks that is read and cut; append of one to a slice of the call's own. Slices whose elements are one cell each: what lies in them; append of such a slice, nil or not, to one of the call's own. Blocks of local variables: a few words more. A slice of structs that came in, of any form: what it reads as. A slice of ints that came in: what it reads as. -/
import Derived.Test.YtcokmiidgdmdlaaGreatDoorBase
import Derived.Maps.AppendAt
import Derived.OwnWalk
import Derived.Test.YtcokmiidgdmdlaaGreatDoorChecked
import Derived.Deep.AppendLies
import Derived.Deep.Slices
import Derived.ChangeSame
import Derived.ChangeSlices
namespace Go.Proofs.YtcokmiidgdmdlaaGreatDoor
open Go.RowKit

/-- the cells of block g read as these blocks of pages, and may be written -/
def Row2 (w : World) (g : Nat) (l : List (Int × Int)) : Prop :=
  ∀ j a k, l[j]? = some (a, k) → (w.cell? ⟨g, j * 2, none⟩ = some (.int .i64 a) ∧ w.cell? ⟨g, j * 2 + 1, none⟩ = some (.int .i64 k)) ∧ w.frozen? ⟨g, j * 2, none⟩ = false ∧ w.frozen? ⟨g, j * 2 + 1, none⟩ = false

theorem frozen_of_block {w : World} {g : Nat} {cur : Array Value} {e : TypeId} (h : w.heap[g]? = some (.cells cur e (0, 0))) (o : Nat) : w.frozen? ⟨g, o, none⟩ = false := by
  simp [World.frozen?, h]
theorem OwnB.mrow {w w' : World} {v : Value} {l : List (Int × Int)} (h : OwnB w w' v l) :
    (v = .slice none 0 0 ∧ l = []) ∨ ∃ g cap, v = .slice (some ⟨g, 0, none⟩) l.length cap ∧ w.heap.size ≤ g ∧ g < w'.heap.size ∧ l.length ≤ cap ∧ Row2 w' g l := by
  obtain ⟨ho, _⟩ := h
  have ho' := ho
  obtain ⟨_, h2⟩ := ho
  rcases h2 with ⟨rfl, h3⟩ | ⟨g, cap, cur, rfl, hg, hh, hcap, _⟩
  · refine .inl ⟨rfl, ?_⟩
    cases l with
    | nil => rfl
    | cons b r => simp at h3
  · refine .inr ⟨g, cap, rfl, hg, (ho'.lt g rfl).2, hcap, fun j a k hj => ?_⟩
    have hlt : j < l.length := (List.getElem?_eq_some_iff.1 hj).1
    obtain ⟨e1, e2⟩ := encB_get l j a k hj
    refine ⟨?_, frozen_of_block hh _, frozen_of_block hh _⟩
    rw [ho'.cellAt (j * 2) (by omega), ho'.cellAt (j * 2 + 1) (by omega)]
    exact ⟨e1, e2⟩
theorem Row2.keep {S : List Nat} {w w' : World} {g : Nat} {l : List (Int × Int)} (h : Row2 w g l) (k : Keep S w w') (hg : g < w.heap.size) (hn : g ∉ S) : Row2 w' g l := fun j a b hj => by
  rw [k.cell hg hn, k.cell hg hn, k.frozen hg hn, k.frozen hg hn]
  exact h j a b hj
theorem Row2.rowB {N : Nat} {w : World} {g cap : Nat} {l : List (Int × Int)} (h : Row2 w g l) (hl : l.length ≤ maxLen) (hg : g < N) (hN : N ≤ w.heap.size) : RowB N w (.slice (some ⟨g, 0, none⟩) l.length cap) l :=
  .inr ⟨g, cap, rfl, hl, hg, hN, fun j a k hj => (h j a k hj).1⟩
theorem set_cell_other {w : World} {g o o' : Nat} (u : Value) (h : o ≠ o') : (w.setCell ⟨g, o, none⟩ u).cell? ⟨g, o', none⟩ = w.cell? ⟨g, o', none⟩ := by
  simp only [World.cell?, World.setCell, Array.getElem?_modify]
  simp
  cases w.heap[g]? with
  | none => rfl
  | some ob => cases ob <;> simp [h]
theorem set_cell_far {w : World} {g o b o' : Nat} (u : Value) (h : g ≠ b) : (w.setCell ⟨g, o, none⟩ u).cell? ⟨b, o', none⟩ = w.cell? ⟨b, o', none⟩ := by
  simp only [World.cell?, World.setCell, Array.getElem?_modify, if_neg h]
theorem set_cell_same {w : World} {g o : Nat} {x : Value} (u : Value) (h : w.cell? ⟨g, o, none⟩ = some x) : (w.setCell ⟨g, o, none⟩ u).cell? ⟨g, o, none⟩ = some u := by
  simp only [World.cell?, World.setCell, Array.getElem?_modify] at *
  cases e : w.heap[g]? with
  | none => rw [e] at h; simp at h
  | some ob =>
    rw [e] at h
    cases ob with
    | cells cs t r =>
      simp at h ⊢
      have : o < cs.size := by
        rcases Nat.lt_or_ge o cs.size with q | q
        · exact q
        · rw [Array.getElem?_eq_none q] at h; cases h
      simp [this]
    | _ => simp at h
theorem set_frozen {w : World} {g o : Nat} (u : Value) (b o' : Nat) : (w.setCell ⟨g, o, none⟩ u).frozen? ⟨b, o', none⟩ = w.frozen? ⟨b, o', none⟩ := by
  simp only [World.frozen?, World.setCell, Array.getElem?_modify]
  by_cases h : g = b
  · subst h
    simp
    cases w.heap[g]? with
    | none => rfl
    | some ob => cases ob <;> simp
  · simp [h]
/-- a store of a whole block of pages -/
theorem Row2.set {w : World} {g : Nat} {l : List (Int × Int)} (h : Row2 w g l) {i : Nat} (hi : i < l.length) (a k : Int) :
    Row2 ((w.setCell ⟨g, i * 2, none⟩ (.int .i64 a)).setCell ⟨g, i * 2 + 1, none⟩ (.int .i64 k)) g (l.set i (a, k)) := by
  intro j x y hj
  obtain ⟨x0, hx0⟩ : ∃ p, l[i]? = some p := ⟨l[i], List.getElem?_eq_getElem _⟩
  obtain ⟨p0, p1⟩ := x0
  obtain ⟨⟨q1, q2⟩, q3, q4⟩ := h i p0 p1 hx0
  by_cases e : i = j
  · subst e
    rw [List.getElem?_set_self hi] at hj
    simp at hj
    obtain ⟨rfl, rfl⟩ := hj
    refine ⟨⟨?_, ?_⟩, ?_, ?_⟩
    · rw [set_cell_other _ (by omega), set_cell_same _ q1]
    · rw [set_cell_same (x := .int .i64 p1) _ (by rw [set_cell_other _ (by omega)]; exact q2)]
    · rw [set_frozen, set_frozen]; exact q3
    · rw [set_frozen, set_frozen]; exact q4
  · rw [List.getElem?_set_ne e] at hj
    obtain ⟨⟨r1, r2⟩, r3, r4⟩ := h j x y hj
    refine ⟨⟨?_, ?_⟩, ?_, ?_⟩
    · rw [set_cell_other _ (by omega), set_cell_other _ (by omega)]; exact r1
    · rw [set_cell_other _ (by omega), set_cell_other _ (by omega)]; exact r2
    · rw [set_frozen, set_frozen]; exact r3
    · rw [set_frozen, set_frozen]; exact r4

/-- the state of slices.DeleteFunc over F behind j of its elements: i are kept -/
structure DelInv (p : Int × Int → Bool) (F : List (Int × Int)) (i j : Nat) (L : List (Int × Int)) : Prop where
  len : L.length = F.length
  lt : i < j
  le : j ≤ F.length
  low : L.take i = (F.take j).filter fun x => !p x
  high : L.drop j = F.drop j

theorem DelInv.start {p : Int × Int → Bool} {F : List (Int × Int)} {i : Nat} {z : Int × Int} (hz : F[i]? = some z) (hp : p z = true) (hall : ∀ x ∈ F.take i, p x = false) : DelInv p F i (i + 1) F := by
  refine ⟨rfl, by omega, (List.getElem?_eq_some_iff.1 hz).1, ?_, rfl⟩
  rw [List.take_add_one, hz, List.filter_append]
  simp [hp]
  exact (List.filter_eq_self.2 fun x hx => by simp [hall x hx]).symm
theorem DelInv.at {p : Int × Int → Bool} {F L : List (Int × Int)} {i j : Nat} (h : DelInv p F i j L) (m : Nat) (hm : j ≤ m) : L[m]? = F[m]? := by
  have := congrArg (fun l => l[m - j]?) h.high
  simp only [List.getElem?_drop] at this
  rwa [show j + (m - j) = m by omega] at this
theorem DelInv.skip {p : Int × Int → Bool} {F L : List (Int × Int)} {i j : Nat} {z : Int × Int} (h : DelInv p F i j L) (hz : F[j]? = some z) (hp : p z = true) : DelInv p F i (j + 1) L := by
  have hl := h.len; have hj := (List.getElem?_eq_some_iff.1 hz).1; have hlt := h.lt
  refine ⟨hl, by omega, by omega, ?_, ?_⟩
  · rw [List.take_add_one, hz, List.filter_append, ← h.low]; simp [hp]
  · have := congrArg (List.drop 1) h.high
    simpa [List.drop_drop] using this
theorem DelInv.keep {p : Int × Int → Bool} {F L : List (Int × Int)} {i j : Nat} {z : Int × Int} (h : DelInv p F i j L) (hz : F[j]? = some z) (hp : p z = false) : DelInv p F (i + 1) (j + 1) (L.set i z) := by
  have hl := h.len; have hj := (List.getElem?_eq_some_iff.1 hz).1; have hlt := h.lt
  refine ⟨by simp [hl], by omega, by omega, ?_, ?_⟩
  · have e1 : F.take (j + 1) = F.take j ++ [z] := by rw [List.take_add_one, hz]; rfl
    have e2 : (L.set i z).take (i + 1) = L.take i ++ [z] := by rw [List.take_add_one, List.getElem?_set_self (by omega), List.take_set_of_le (Nat.le_refl _)]; rfl
    rw [e1, e2, List.filter_append, ← h.low]; simp [hp]
  · rw [List.drop_set_of_lt (by omega)]
    have := congrArg (List.drop 1) h.high
    simpa [List.drop_drop] using this
theorem DelInv.done {p : Int × Int → Bool} {F L : List (Int × Int)} {i : Nat} (h : DelInv p F i F.length L) : L.take i = (F.filter fun x => !p x) ∧ i = (F.filter fun x => !p x).length ∧ i < L.length := by
  have h1 := h.low
  have h2 := h.lt
  have h3 := h.len
  rw [List.take_length] at h1
  exact ⟨h1, by rw [← h1, List.length_take]; omega, by omega⟩
end Go.Proofs.YtcokmiidgdmdlaaGreatDoor

namespace Go.Proofs.YtcokmiidgdmdlaaGreatDoor
open Go.RowKit

/-- v reads as these blocks of pages; what it lies in is from block number 'base' on -/
def RowS (base : Nat) (w : World) (v : Value) (l : List (Int × Int)) : Prop :=
  ∃ p cap, v = .slice p l.length cap ∧ (l = [] → p = none ∧ cap = 0 ∨ ∃ g, p = some ⟨g, 0, none⟩ ∧ base ≤ g ∧ g < w.heap.size) ∧
    ∀ j a k, l[j]? = some (a, k) → ∃ g, p = some ⟨g, 0, none⟩ ∧ base ≤ g ∧ g < w.heap.size ∧ w.cell? ⟨g, j * 2, none⟩ = some (.int .i64 a) ∧ w.cell? ⟨g, j * 2 + 1, none⟩ = some (.int .i64 k)
theorem OwnB.rowS {w w' : World} {v : Value} {l : List (Int × Int)} (h : OwnB w w' v l) : RowS w.heap.size w' v l := by
  rcases h.mrow with ⟨rfl, rfl⟩ | ⟨g, cap, rfl, h1, h2, _, h4⟩
  · exact ⟨none, 0, rfl, fun _ => .inl ⟨rfl, rfl⟩, fun j a k hj => by simp at hj⟩
  · exact ⟨some ⟨g, 0, none⟩, cap, rfl, fun _ => .inr ⟨g, rfl, h1, h2⟩, fun j a k hj => ⟨g, rfl, h1, h2, (h4 j a k hj).1⟩⟩
theorem RowS.keep {S : List Nat} {base : Nat} {w w' : World} {v : Value} {l : List (Int × Int)} (h : RowS base w v l) (k : Keep S w w') (hs : ∀ s ∈ S, s < base) : RowS base w' v l := by
  obtain ⟨p, cap, h1, h0, h2⟩ := h
  refine ⟨p, cap, h1, fun e => ?_, fun j a b hj => ?_⟩
  · rcases h0 e with q | ⟨g, q1, q2, q3⟩
    · exact .inl q
    · exact .inr ⟨g, q1, q2, Nat.lt_of_lt_of_le q3 k.size⟩
  · obtain ⟨g, q1, q2, q3, q4, q5⟩ := h2 j a b hj
    have hn : g ∉ S := fun q => by have := hs g q; omega
    exact ⟨g, q1, q2, Nat.lt_of_lt_of_le q3 k.size, (k.cell q3 hn).trans q4, (k.cell q3 hn).trans q5⟩
theorem RowS.below {base : Nat} {w w' : World} {v : Value} {l : List (Int × Int)} (h : RowS base w v l) (k : Below w.heap.size w w') : RowS base w' v l := h.keep (Keep.of (S := []) k) (fun _ q => by cases q)
theorem RowS.rowB {base : Nat} {w : World} {v : Value} {l : List (Int × Int)} (h : RowS base w v l) (hl : l.length ≤ maxLen) : RowB w.heap.size w v l := by
  obtain ⟨p, cap, h1, h0, h2⟩ := h
  cases l with
  | nil =>
    rcases h0 rfl with ⟨rfl, rfl⟩ | ⟨g, rfl, q2, q3⟩
    · exact .inl ⟨h1, rfl⟩
    · exact .inr ⟨g, cap, h1, hl, q3, Nat.le_refl _, fun j a k hj => by simp at hj⟩
  | cons x r =>
    obtain ⟨g, rfl, q2, q3, _⟩ := h2 0 x.1 x.2 rfl
    refine .inr ⟨g, cap, h1, hl, q3, Nat.le_refl _, fun j a k hj => ?_⟩
    obtain ⟨g', e, _, _, q4, q5⟩ := h2 j a k hj
    cases e
    exact ⟨q4, q5⟩
theorem RowS.mono {base base' : Nat} {w : World} {v : Value} {l : List (Int × Int)} (h : RowS base w v l) (hb : base' ≤ base) : RowS base' w v l := by
  obtain ⟨p, cap, h1, h0, h2⟩ := h
  refine ⟨p, cap, h1, fun e => (h0 e).imp id fun ⟨g, q1, q2, q3⟩ => ⟨g, q1, by omega, q3⟩, fun j a k hj => ?_⟩
  obtain ⟨g, q1, q2, q3⟩ := h2 j a k hj
  exact ⟨g, q1, by omega, q3⟩
end Go.Proofs.YtcokmiidgdmdlaaGreatDoor

namespace Go.Proofs.YtcokmiidgdmdlaaGreatDoor
open Go.RowKit
set_option linter.unusedSimpArgs false

def RowC (w : World) (g : Nat) (l : List (Int × Int)) : Prop := ∀ j a k, l[j]? = some (a, k) → w.cell? ⟨g, j * 2, none⟩ = some (.int .i64 a) ∧ w.cell? ⟨g, j * 2 + 1, none⟩ = some (.int .i64 k)
/-- v reads as these blocks of pages; it lies from block number 'base' on -/
def RowT (base : Nat) (w : World) (v : Value) (l : List (Int × Int)) : Prop :=
  (v = .slice none 0 0 ∧ l = []) ∨ ∃ g cap, v = .slice (some ⟨g, 0, none⟩) l.length cap ∧ l.length ≤ cap ∧ cap ≤ maxLen ∧ base ≤ g ∧ g < w.heap.size ∧ RowC w g l
theorem OwnB.rowT {w w' : World} {v : Value} {l : List (Int × Int)} (h : OwnB w w' v l) : RowT w.heap.size w' v l := by
  obtain ⟨ho, _⟩ := h
  have ho' := ho
  obtain ⟨_, h2⟩ := ho
  rcases h2 with ⟨rfl, h3⟩ | ⟨g, cap, cur, rfl, hg, hh, hcap, hmax, _⟩
  · refine .inl ⟨rfl, ?_⟩
    cases l with
    | nil => rfl
    | cons b r => simp at h3
  · refine .inr ⟨g, cap, rfl, hcap, hmax, hg, (ho'.lt g rfl).2, fun j a k hj => ?_⟩
    have hlt : j < l.length := (List.getElem?_eq_some_iff.1 hj).1
    obtain ⟨e1, e2⟩ := encB_get l j a k hj
    rw [ho'.cellAt (j * 2) (by omega), ho'.cellAt (j * 2 + 1) (by omega)]
    exact ⟨e1, e2⟩
theorem RowC.keep {S : List Nat} {w w' : World} {g : Nat} {l : List (Int × Int)} (h : RowC w g l) (k : Keep S w w') (hg : g < w.heap.size) (hn : g ∉ S) : RowC w' g l := fun j a b hj => by
  rw [k.cell hg hn, k.cell hg hn]; exact h j a b hj
theorem RowC.below {w w' : World} {g n : Nat} {l : List (Int × Int)} (h : RowC w g l) (k : Below n w w') (hg : g < n) : RowC w' g l := fun j a b hj => by
  rw [k.cell (p := ⟨g, j * 2, none⟩) hg, k.cell (p := ⟨g, j * 2 + 1, none⟩) hg]; exact h j a b hj
theorem RowT.keep {S : List Nat} {base : Nat} {w w' : World} {v : Value} {l : List (Int × Int)} (h : RowT base w v l) (k : Keep S w w') (hs : ∀ s ∈ S, s < base) : RowT base w' v l := by
  rcases h with h | ⟨g, cap, h1, h2, h3, h4, h5, h6⟩
  · exact .inl h
  · exact .inr ⟨g, cap, h1, h2, h3, h4, Nat.lt_of_lt_of_le h5 k.size, h6.keep k h5 fun q => by have := hs g q; omega⟩
theorem RowT.below {base : Nat} {w w' : World} {v : Value} {l : List (Int × Int)} (h : RowT base w v l) (k : Below w.heap.size w w') : RowT base w' v l := h.keep (Keep.of (S := []) k) (fun _ q => by cases q)
theorem RowT.mono {base base' : Nat} {w : World} {v : Value} {l : List (Int × Int)} (h : RowT base w v l) (hb : base' ≤ base) : RowT base' w v l := by
  rcases h with h | ⟨g, cap, h1, h2, h3, h4, h5⟩
  · exact .inl h
  · exact .inr ⟨g, cap, h1, h2, h3, by omega, h5⟩
theorem RowT.rowB {base : Nat} {w : World} {v : Value} {l : List (Int × Int)} (h : RowT base w v l) : RowB w.heap.size w v l := by
  rcases h with ⟨h1, h2⟩ | ⟨g, cap, h1, h2, h3, h4, h5, h6⟩
  · exact .inl ⟨h1, h2⟩
  · exact .inr ⟨g, cap, h1, by omega, h5, Nat.le_refl _, h6⟩

theorem encB_append (l m : List (Int × Int)) : encB (l ++ m) = encB l ++ encB m := by simp [encB]
theorem encB_one (l : List (Int × Int)) : ∀ u ∈ encB l, u.oneCell' = true := by
  intro u hu
  simp only [encB, List.mem_flatMap] at hu
  obtain ⟨x, _, hx⟩ := hu
  simp at hx
  rcases hx with rfl | rfl <;> rfl
theorem encB_cells {w : World} {g o : Nat} : ∀ {l : List (Int × Int)}, (∀ j a k, l[j]? = some (a, k) → w.cell? ⟨g, o + j * 2, none⟩ = some (.int .i64 a) ∧ w.cell? ⟨g, o + j * 2 + 1, none⟩ = some (.int .i64 k)) → ∀ j u, (encB l)[j]? = some u → w.cell? ((⟨g, o, none⟩ : Addr).add j) = some u := by
  intro l h j u hu
  have hl : j < (encB l).length := (List.getElem?_eq_some_iff.1 hu).1
  rw [encB_length] at hl
  obtain ⟨p, hp⟩ : ∃ p, l[j / 2]? = some p := ⟨l[j / 2]'(by omega), List.getElem?_eq_getElem _⟩
  obtain ⟨a, k⟩ := p
  obtain ⟨e1, e2⟩ := encB_get l _ a k hp
  obtain ⟨h1, h2⟩ := h _ a k hp
  have had : (⟨g, o, none⟩ : Addr).add j = ⟨g, o + j, none⟩ := by
    unfold Addr.add
    split
    · rename_i e; rw [e]; rfl
    · rfl
  rw [had]
  have : j = j / 2 * 2 ∨ j = j / 2 * 2 + 1 := by omega
  rcases this with e | e
  · rw [e] at hu ⊢
    rw [e1] at hu
    rw [← Option.some.inj hu]; exact h1
  · rw [e] at hu ⊢
    rw [e2] at hu
    rw [← Option.some.inj hu, ← Nat.add_assoc]; exact h2
/-- what is appended: nothing (of a nil slice, or of one of length 0), or blocks that lie from a place on -/
def Src (w : World) (p : Option Addr) (m : List (Int × Int)) : Prop :=
  (p = none ∧ m = []) ∨ ∃ g o, p = some ⟨g, o, none⟩ ∧ ∀ j a k, m[j]? = some (a, k) → w.cell? ⟨g, o + j * 2, none⟩ = some (.int .i64 a) ∧ w.cell? ⟨g, o + j * 2 + 1, none⟩ = some (.int .i64 k)

/-- append of a slice of blocks to one of the call's own -/
theorem run_app {w : World} (ty : TypeId) {base : Nat} {v : Value} {l : List (Int × Int)} (hown : w.ownsRow base 39 2 v l.length (encB l)) {p : Option Addr} {c : Nat} {m : List (Int × Int)} (hs : Src w p m) (hl : l.length + m.length ≤ 65536) (hb : base ≤ w.heap.size) :
    ∃ v' w', (Builtin.append_ #[126, 126] ty #[v, .slice p m.length c]).run Tryz.prog w = .ok v' w' ∧ w'.ownsRow base 39 2 v' (l ++ m).length (encB (l ++ m)) ∧ w.grownBy w' v.ownBlock := by
  obtain ⟨i0, hi, hz0, hz1, hz2⟩ := info_parts infoB
  have ht := Tryz.underlying126
  rcases hs with ⟨rfl, rfl⟩ | ⟨g, o, rfl, hc⟩
  · refine ⟨v, w, ?_, by simpa using hown, ⟨rfl, rfl, rfl, Nat.le_refl _, fun _ _ _ => rfl⟩⟩
    rcases hown.2 with ⟨rfl, _⟩ | ⟨g, cap, cur, rfl, _, _, hnc, _⟩
    · simp [Builtin.append_, run_underlying ht, sizeOf, typeInfo, hi, Builtin.lenOf, Builtin.firstCells]
    · simp [Builtin.append_, run_underlying ht, sizeOf, typeInfo, hi, Builtin.lenOf, Builtin.firstCells, hnc, storeCells]
  · obtain ⟨v', w', hrun, h2, h3, _, _⟩ := run_append_own_at (P := Tryz.prog) w base 126 ty 39 i0 (.agg #[.int .i64 0, .int .i64 0]) 2 16 ht hi hz0 hz1 hz2 rfl (by omega) v l.length (encB l) hown ⟨g, o, none⟩ m.length c (encB m)
      (by rw [encB_length]; omega) (encB_cells hc) (encB_one m) (by unfold maxLen; omega) (by omega) hb
    exact ⟨v', w', hrun, by rw [List.length_append, encB_append]; exact h2, h3⟩
theorem wpList_app {base : Nat} {v : Value} {l m : List (Int × Int)} {w : World} {p : Option Addr} {c : Nat} {ops : Array Oper} {rest : List Oper} {o : Oper} {a : Act} {Q : Exit → Act → World → Prop} (hgd : o.guard = none) (s x : Operand)
    (ho : o.op = .call { callee := .builtin .append, args := #[s, x], argTypes := #[126, 126] }) (hv : a.eval s = v) (mn : Nat) (hx : a.eval x = .slice p mn c) (hmn : m.length = mn)
    (hown : w.ownsRow base 39 2 v l.length (encB l)) (hs : Src w p m) (hl : l.length + m.length ≤ 65536) (hb : base ≤ w.heap.size)
    (h : ∀ v' w', w'.ownsRow base 39 2 v' (l ++ m).length (encB (l ++ m)) → w.grownBy w' v.ownBlock → wpList Tryz.prog ops Q rest (a.put o.dst v') w') : wpList Tryz.prog ops Q (o :: rest) a w := by
  subst hmn
  refine wpList_plain hgd fun K hK => ?_
  obtain ⟨v', w', hrun, h2, h3⟩ := run_app (w := w) o.type hown hs hl hb (c := c)
  unfold Oper.wp execOp
  simp only [ho, resolve, invoke, builtin, Sem.run_bind, Sem.run_pure, Result.andThen_ok, List.map_toArray, List.map_cons, List.map_nil, hv, hx, hrun]
  exact hK _ _ (h v' w' h2 h3)
end Go.Proofs.YtcokmiidgdmdlaaGreatDoor

namespace Go.Proofs.YtcokmiidgdmdlaaGreatDoor
open Go.RowKit
set_option linter.unusedSimpArgs false
set_option linter.unusedVariables false

/-- v reads as the values us; it lies in none of the blocks X -/
def RowV (X : List Nat) (w : World) (v : Value) (us : List Value) : Prop :=
  ∃ p cap, v = .slice p us.length cap ∧ us.length ≤ cap ∧ cap ≤ maxLen ∧ ∀ j u, us[j]? = some u → ∃ g off, p = some ⟨g, off, none⟩ ∧ g ∉ X ∧ g < w.heap.size ∧ w.cell? ⟨g, off + j, none⟩ = some u
theorem RowV.keep {X S : List Nat} {w w' : World} {v : Value} {us : List Value} (h : RowV X w v us) (k : Keep S w w') (hs : ∀ s ∈ S, s ∈ X ∨ w.heap.size ≤ s) : RowV X w' v us := by
  obtain ⟨p, cap, h1, h2, h3, h4⟩ := h
  refine ⟨p, cap, h1, h2, h3, fun j u hj => ?_⟩
  obtain ⟨g, off, e1, e2, e3, e4⟩ := h4 j u hj
  exact ⟨g, off, e1, e2, Nat.lt_of_lt_of_le e3 k.size, (k.cell e3 fun q => by rcases hs g q with r | r; (· exact e2 r); (· omega)).trans e4⟩
theorem RowV.below {X : List Nat} {w w' : World} {v : Value} {us : List Value} (h : RowV X w v us) (k : Below w.heap.size w w') : RowV X w' v us := h.keep (Keep.of (S := []) k) (fun _ q => by cases q)
theorem RowV.more {X Y : List Nat} {w : World} {v : Value} {us : List Value} (h : RowV X w v us) (hY : ∀ y ∈ Y, y ∈ X ∨ w.heap.size ≤ y) : RowV Y w v us := by
  obtain ⟨p, cap, h1, h2, h3, h4⟩ := h
  refine ⟨p, cap, h1, h2, h3, fun j u hj => ?_⟩
  obtain ⟨g, off, e1, e2, e3, e4⟩ := h4 j u hj
  exact ⟨g, off, e1, fun q => by rcases hY g q with r | r; (· exact e2 r); (· omega), e3, e4⟩
theorem RowV.sub {X Y : List Nat} {w : World} {v : Value} {us : List Value} (h : RowV Y w v us) (hX : ∀ x ∈ X, x ∈ Y) : RowV X w v us := by
  obtain ⟨p, cap, h1, h2, h3, h4⟩ := h
  refine ⟨p, cap, h1, h2, h3, fun j u hj => ?_⟩
  obtain ⟨g, off, e1, e2, e3, e4⟩ := h4 j u hj
  exact ⟨g, off, e1, fun q => e2 (hX g q), e3, e4⟩
theorem RowV.nil (X : List Nat) (w : World) : RowV X w (.slice none 0 0) [] := ⟨none, 0, rfl, Nat.le_refl _, Nat.zero_le _, fun j u hj => by simp at hj⟩
/-- the slice at hand: its first cell's place (whatever it is where the slice is empty), its capacity -/
theorem RowV.form {X : List Nat} {w : World} {v : Value} {us : List Value} (h : RowV X w v us) : ∃ p cap, v = .slice p us.length cap ∧ us.length ≤ cap ∧ cap ≤ maxLen ∧ ∀ j u, us[j]? = some u → ∃ g off, p = some ⟨g, off, none⟩ ∧ g ∉ X ∧ g < w.heap.size ∧ w.cell? ⟨g, off + j, none⟩ = some u := h

theorem own_rowV {X : List Nat} {w : World} {base : Nat} {E : TypeId} {v : Value} {us : List Value} (h : w.ownsRow base E 1 v us.length us) (hX : ∀ x ∈ X, ∀ g, v.ownBlock = some g → x ≠ g) : RowV X w v us := by
  have ho := h
  rcases h.2 with ⟨rfl, h3⟩ | ⟨g, cap, cur, rfl, hg, hh, hcap, hmax, _⟩
  · cases us with
    | nil => exact RowV.nil X w
    | cons b r => simp at h3
  · refine ⟨some ⟨g, 0, none⟩, cap, rfl, hcap, hmax, fun j u hj => ⟨g, 0, rfl, fun q => hX g q g rfl rfl, (ho.lt g rfl).2, ?_⟩⟩
    have hlt : j < us.length := (List.getElem?_eq_some_iff.1 hj).1
    rw [Nat.zero_add, ho.cellAt j (by omega)]
    exact hj

/-- an element type of one cell: of which slice type, its zero value, its bytes -/
structure El (T E : TypeId) (z : Value) (b : Nat) : Prop where
  und : Tryz.prog.underlying T = some (.slice E)
  info : (Tryz.prog.info? E).map (fun i => (i.zero, i.size, i.bytes)) = some (some z, 1, b)
  one : z.cells.size = 1
  few : b ≤ 64

/-- what is appended: nothing (of a nil slice, or of an empty one), or cells that lie from a place on -/
def SrcV (w : World) (p : Option Addr) (ms : List Value) : Prop :=
  (p = none ∧ ms = []) ∨ ∃ a : Addr, p = some a ∧ ∀ (j : Nat) (u : Value), ms[j]? = some u → w.cell? (a.add j) = some u
theorem addr_add (g o j : Nat) : (⟨g, o, none⟩ : Addr).add j = ⟨g, o + j, none⟩ := by
  unfold Addr.add
  split
  · rename_i e; rw [e]; rfl
  · rfl
theorem RowV.src {X : List Nat} {w : World} {p : Option Addr} {n cap : Nat} {us : List Value} (h : RowV X w (.slice p n cap) us) : SrcV w p us := by
  obtain ⟨q, c, h1, _, _, h4⟩ := h
  injection h1 with h1 _ _
  subst h1
  cases p with
  | none =>
    refine .inl ⟨rfl, ?_⟩
    cases us with
    | nil => rfl
    | cons u r => obtain ⟨g, off, e, _⟩ := h4 0 u rfl; cases e
  | some a =>
    refine .inr ⟨a, rfl, fun j u hj => ?_⟩
    obtain ⟨g', o', e, _, _, e4⟩ := h4 j u hj
    injection e with e
    subst e
    rw [addr_add]
    exact e4
/-- append of a slice of one-cell elements to one of the call's own -/
theorem run_app1 {T E : TypeId} {z : Value} {b : Nat} (hE : El T E z b) {w : World} (ty : TypeId) {base : Nat} {v : Value} {us : List Value} (hown : w.ownsRow base E 1 v us.length us) {p : Option Addr} {c : Nat} {ms : List Value} (hs : SrcV w p ms) (h1 : ∀ u ∈ ms, u.oneCell' = true)
    (hl : us.length + ms.length ≤ 65536) (hb : base ≤ w.heap.size) :
    ∃ q k w', (Builtin.append_ #[T, T] ty #[v, .slice p ms.length c]).run Tryz.prog w = .ok (.slice q (us ++ ms).length k) w' ∧ w'.ownsRow base E 1 (.slice q (us ++ ms).length k) (us ++ ms).length (us ++ ms) ∧ w.grownBy w' v.ownBlock ∧
      ((Value.slice q (us ++ ms).length k).ownBlock = v.ownBlock ∨ (Value.slice q (us ++ ms).length k).ownBlock = some w.heap.size) := by
  obtain ⟨i0, hi, hz0, hz1, hz2⟩ := info_parts hE.info
  have ht := hE.und
  have hfew := hE.few
  rcases hs with ⟨rfl, rfl⟩ | ⟨a, rfl, hc⟩
  · rcases hown.2 with ⟨rfl, hu⟩ | ⟨g, cap, cur, rfl, _, _, hnc, _⟩
    · refine ⟨none, 0, w, ?_, ?_, ⟨rfl, rfl, rfl, Nat.le_refl _, fun _ _ _ => rfl⟩, .inl rfl⟩
      · simp [Builtin.append_, run_underlying ht, sizeOf, typeInfo, hi, Builtin.lenOf, Builtin.firstCells, hu]
      · have hu' : us = [] := List.length_eq_zero_iff.1 hu
        subst hu'
        exact hown
    · refine ⟨some ⟨g, 0, none⟩, cap, w, ?_, by simpa using hown, ⟨rfl, rfl, rfl, Nat.le_refl _, fun _ _ _ => rfl⟩, .inl rfl⟩
      simp [Builtin.append_, run_underlying ht, sizeOf, typeInfo, hi, Builtin.lenOf, Builtin.firstCells, hnc, storeCells]
  · obtain ⟨v', w', hrun, h2, h3, _, h5⟩ := run_append_own_at (P := Tryz.prog) w base T ty E i0 z 1 b ht hi hz0 hz1 hz2 hE.one (by omega) v us.length us hown a ms.length c ms
      (by omega) hc h1 (by unfold maxLen; omega) (by
        have : (us.length + ms.length) * b ≤ 65536 * 64 := Nat.mul_le_mul hl hfew
        omega) hb
    have hf : ∃ q k, v' = .slice q (us.length + ms.length) k := by
      rcases h2.2 with ⟨e, e2⟩ | ⟨g', cap', cur, e, _⟩
      · exact ⟨none, 0, by rw [e, e2]⟩
      · exact ⟨_, _, e⟩
    obtain ⟨q, k, rfl⟩ := hf
    rw [← List.length_append] at hrun h2 h5
    exact ⟨q, k, w', hrun, h2, h3, h5⟩
theorem wpList_app1 {T E : TypeId} {z : Value} {b : Nat} (hE : El T E z b) {base : Nat} {v : Value} {us ms : List Value} {w : World} {p : Option Addr} {c : Nat} {ops : Array Oper} {rest : List Oper} {o : Oper} {a : Act} {Q : Exit → Act → World → Prop} (hgd : o.guard = none) (s x : Operand)
    (ho : o.op = .call { callee := .builtin .append, args := #[s, x], argTypes := #[T, T] }) (hv : a.eval s = v) (mn : Nat) (hx : a.eval x = .slice p mn c) (hmn : ms.length = mn)
    (hown : w.ownsRow base E 1 v us.length us) (hs : SrcV w p ms) (h1 : ∀ u ∈ ms, u.oneCell' = true) (hl : us.length + ms.length ≤ 65536) (hb : base ≤ w.heap.size)
    (h : ∀ q k w', w'.ownsRow base E 1 (.slice q (us ++ ms).length k) (us ++ ms).length (us ++ ms) → w.grownBy w' v.ownBlock → ((Value.slice q (us ++ ms).length k).ownBlock = v.ownBlock ∨ (Value.slice q (us ++ ms).length k).ownBlock = some w.heap.size) → wpList Tryz.prog ops Q rest (a.put o.dst (.slice q (us ++ ms).length k)) w') : wpList Tryz.prog ops Q (o :: rest) a w := by
  subst hmn
  refine wpList_plain hgd fun K hK => ?_
  obtain ⟨q, k, w', hrun, h2, h3, h4⟩ := run_app1 hE (w := w) o.type hown hs h1 hl hb (c := c)
  unfold Oper.wp execOp
  simp only [ho, resolve, invoke, builtin, Sem.run_bind, Sem.run_pure, Result.andThen_ok, List.map_toArray, List.map_cons, List.map_nil, hv, hx, hrun]
  exact hK _ _ (h q k w' h2 h3 h4)
/-- .. at a step of a region that draws its order -/
theorem step_app1 {T E : TypeId} {z : Value} {b : Nat} (hE : El T E z b) {base : Nat} {v : Value} {us ms : List Value} {w : World} {p : Option Addr} {c : Nat} {ops : Array Oper} {o : Oper} {a : Act} {K : Act → World → Prop} {Q : Exit → Act → World → Prop} {F : Prop} (hgd : o.guard = none) (s x : Operand)
    (ho : o.op = .call { callee := .builtin .append, args := #[s, x], argTypes := #[T, T] }) (hv : a.eval s = v) (mn : Nat) (hx : a.eval x = .slice p mn c) (hmn : ms.length = mn)
    (hown : w.ownsRow base E 1 v us.length us) (hs : SrcV w p ms) (h1 : ∀ u ∈ ms, u.oneCell' = true) (hl : us.length + ms.length ≤ 65536) (hb : base ≤ w.heap.size)
    (h : ∀ q k w', w'.ownsRow base E 1 (.slice q (us ++ ms).length k) (us ++ ms).length (us ++ ms) → w.grownBy w' v.ownBlock → ((Value.slice q (us ++ ms).length k).ownBlock = v.ownBlock ∨ (Value.slice q (us ++ ms).length k).ownBlock = some w.heap.size) → K (a.put o.dst (.slice q (us ++ ms).length k)) w') :
    if Region.wanted o (yielded ops a.tmps) = true then Oper.wp Tryz.prog o a w K Q else F := by
  subst hmn
  have hw : Region.wanted o (yielded ops a.tmps) = true := by simp [Region.wanted, hgd]
  rw [if_pos hw]
  obtain ⟨q, k, w', hrun, h2, h3, h4⟩ := run_app1 hE (w := w) o.type hown hs h1 hl hb (c := c)
  unfold Oper.wp execOp
  simp only [ho, resolve, invoke, builtin, Sem.run_bind, Sem.run_pure, Result.andThen_ok, List.map_toArray, List.map_cons, List.map_nil, hv, hx, hrun]
  exact h q k w' h2 h3 h4
/-- a block of one cell, just made: what is to be appended -/
theorem srcV_one (w : World) (u : Value) (t : TypeId) : SrcV (w.alloc (.cells #[u] t)) (some ⟨w.heap.size, 0, none⟩) [u] :=
  .inr ⟨_, rfl, fun j x hj => by
    rw [addr_add]
    cases j with
    | zero => simp at hj; subst hj; rw [World.cell?_alloc_at _ _ _ _ (by simp)]; rfl
    | succ j => simp at hj⟩
theorem Below.grownK {S : List Nat} {w w' : World} {r : Option Nat} (h : w.grownBy w' r) (hr : ∀ g, r = some g → g ∈ S ∨ w.heap.size ≤ g) : Keep S w w' :=
  ⟨h.os, h.tape, h.output, h.size, fun k hk hn => h.block k hk fun e => by rcases hr k e.symm with q | q; (· exact hn q); (· omega)⟩

/-- the block of a slice of the call's own -/
def ownX (v : Value) : List Nat := v.ownBlock.toList
theorem ownX_mem {v : Value} {g : Nat} : g ∈ ownX v ↔ v.ownBlock = some g := by unfold ownX; cases v.ownBlock <;> simp [eq_comm]
theorem ownX_ge {w : World} {B : Nat} {E : TypeId} {s : Nat} {v : Value} {n : Nat} {xs : List Value} (h : w.ownsRow B E s v n xs) {g : Nat} (hg : g ∈ ownX v) : B ≤ g ∧ g < w.heap.size := h.lt g (ownX_mem.1 hg)
theorem app_keep {w w' : World} {v : Value} (hg : w.grownBy w' v.ownBlock) : Keep (ownX v) w w' := Below.grownK hg fun g e => .inl (ownX_mem.2 e)
theorem app_own {w : World} {v v' : Value} (ho : v'.ownBlock = v.ownBlock ∨ v'.ownBlock = some w.heap.size) : ∀ y ∈ ownX v', y ∈ ownX v ∨ w.heap.size ≤ y := by
  intro y hy
  rw [ownX_mem] at hy ⊢
  rcases ho with e | e
  · exact .inl (e ▸ hy)
  · rw [e] at hy; injection hy with hy; exact .inr (by omega)
theorem own_keep {S : List Nat} {w w' : World} {B : Nat} {E : TypeId} {s : Nat} {v : Value} {n : Nat} {xs : List Value} (h : w.ownsRow B E s v n xs) (k : Keep S w w') (hs : ∀ x ∈ S, x ∉ ownX v) : w'.ownsRow B E s v n xs := by
  refine ⟨h.1, ?_⟩
  have hlt := h.lt
  rcases h.2 with hn | ⟨g, cap, cur, rfl, hb, hgg, rest⟩
  · exact .inl hn
  · exact .inr ⟨g, cap, cur, rfl, hb, (k.block g (hlt g rfl).2 fun q => hs g q (ownX_mem.2 rfl)).trans hgg, rest⟩

/-- a block in a local variable, or behind a pointer: what its cells hold; they may be written -/
structure LocN (w : World) (b : Nat) (us : List Value) : Prop where
  lt : b < w.heap.size
  c : ∀ j u, us[j]? = some u → w.cell? ⟨b, j, none⟩ = some u
  f : ∀ j, j < us.length → w.frozen? ⟨b, j, none⟩ = false
theorem LocN.keep {S : List Nat} {w w' : World} {b : Nat} {us : List Value} (h : LocN w b us) (k : Keep S w w') (hb : b ∉ S) : LocN w' b us :=
  ⟨Nat.lt_of_lt_of_le h.lt k.size, fun j u hj => (k.cell h.lt hb).trans (h.c j u hj), fun j hj => (k.frozen h.lt hb).trans (h.f j hj)⟩
theorem LocN.below {w w' : World} {b : Nat} {us : List Value} (h : LocN w b us) {n : Nat} (k : Below n w w') (hb : b < n) : LocN w' b us :=
  ⟨Nat.lt_of_lt_of_le h.lt k.size, fun j u hj => (k.cell (p := ⟨b, j, none⟩) hb).trans (h.c j u hj), fun j hj => (k.frozen (p := ⟨b, j, none⟩) hb).trans (h.f j hj)⟩
theorem LocN.go {w w' : World} {b : Nat} {us : List Value} (h : LocN w b us) (k : Below w.heap.size w w') : LocN w' b us := h.below k h.lt
theorem LocN.new (w : World) (us : List Value) (t : TypeId) : LocN (w.alloc (.cells us.toArray t)) w.heap.size us :=
  ⟨by simp, fun j u hj => by rw [World.cell?_alloc_at _ _ _ _ (by simp)]; simpa using hj, fun j hj => World.frozen?_alloc_at _ _ _ _ rfl⟩
theorem LocN.store {w : World} {b : Nat} {us : List Value} (h : LocN w b us) (i : Nat) (v : Value) (hi : i < us.length) : LocN (w.setCell ⟨b, i, none⟩ v) b (us.set i v) := by
  refine ⟨by simpa [World.setCell] using h.lt, fun j u hj => ?_, fun j hj => by rw [set_frozen]; exact h.f j (by simpa using hj)⟩
  by_cases e : i = j
  · subst e
    rw [List.getElem?_set_self hi] at hj
    injection hj with hj
    subst hj
    obtain ⟨x, hx⟩ : ∃ x, us[i]? = some x := ⟨us[i], List.getElem?_eq_getElem _⟩
    exact set_cell_same _ (h.c i x hx)
  · rw [List.getElem?_set_ne e] at hj
    rw [set_cell_other _ e]
    exact h.c j u hj
end Go.Proofs.YtcokmiidgdmdlaaGreatDoor

namespace Go.Proofs.YtcokmiidgdmdlaaGreatDoor
open Go.RowKit
set_option linter.unusedSimpArgs false
set_option linter.unusedVariables false
theorem LocN.mk_ (w : World) (us : List Value) (t : TypeId) {b : Nat} (h : w.heap.size = b) : LocN (w.alloc (.cells us.toArray t)) b us := by subst h; exact LocN.new w us t
theorem LocN.past {w : World} {b : Nat} {us : List Value} (h : LocN w b us) (o : Obj) : LocN (w.alloc o) b us := h.go ((Below.refl _ _).alloc (Nat.le_refl _) o)
theorem LocN.drewL {w : World} {b : Nat} {us : List Value} (h : LocN w b us) : LocN w.drew b us := h.keep ((Keep.refl [] _).drew) (by simp)
theorem LocN.drewNL {w : World} {b : Nat} {us : List Value} (h : LocN w b us) (m : Nat) : LocN (w.drewN m) b us := h.keep ((Keep.refl [] _).drewN m) (by simp)
theorem LocN.far {w : World} {b c : Nat} {us : List Value} (h : LocN w b us) (hb : c ≠ b) (o : Nat) (v : Value) : LocN (w.setCell ⟨c, o, none⟩ v) b us :=
  h.keep (S := [c]) ((Keep.refl [c] _).setCell (p := ⟨c, o, none⟩) (.inl (by simp)) v) (by simpa using fun e => hb e.symm)
theorem LocN.store2 {w : World} {b : Nat} {u0 u1 : Value} (h : LocN w b [u0, u1]) (v0 v1 : Value) : LocN ((w.setCell ⟨b, 0, none⟩ v0).setCell ⟨b, 1, none⟩ v1) b [v0, v1] := (h.store 0 v0 (by simp)).store 1 v1 (by simp)
theorem LocN.store3 {w : World} {b : Nat} {u0 u1 u2 : Value} (h : LocN w b [u0, u1, u2]) (v0 v1 v2 : Value) : LocN (((w.setCell ⟨b, 0, none⟩ v0).setCell ⟨b, 1, none⟩ v1).setCell ⟨b, 2, none⟩ v2) b [v0, v1, v2] := ((h.store 0 v0 (by simp)).store 1 v1 (by simp)).store 2 v2 (by simp)
theorem Keep.loc2 {S : List Nat} {w0 w : World} {b : Nat} (h : Keep S w0 w) (hb : b ∈ S ∨ w0.heap.size ≤ b) (u v : Value) : Keep S w0 ((w.setCell ⟨b, 0, none⟩ u).setCell ⟨b, 1, none⟩ v) := (h.setCell (p := ⟨b, 0, none⟩) hb u).setCell (p := ⟨b, 1, none⟩) hb v
theorem Keep.loc3 {S : List Nat} {w0 w : World} {b : Nat} (h : Keep S w0 w) (hb : b ∈ S ∨ w0.heap.size ≤ b) (u v x : Value) : Keep S w0 (((w.setCell ⟨b, 0, none⟩ u).setCell ⟨b, 1, none⟩ v).setCell ⟨b, 2, none⟩ x) := (h.loc2 hb u v).setCell (p := ⟨b, 2, none⟩) hb x
theorem Keep.wide {S : List Nat} {a b : World} (h : Keep [] a b) : Keep S a b := h.mono (fun _ q => by cases q)
theorem Keep.stepW {S : List Nat} {a b c : World} (h : Keep [] a b) (k : Below b.heap.size b c) : Keep S a c := (h.step k).wide
theorem Keep.thenW {S : List Nat} {a b c : World} (h : Keep [] a b) (k : Keep S b c) : Keep S a c := h.wide.then k
end Go.Proofs.YtcokmiidgdmdlaaGreatDoor

namespace Go.Proofs.YtcokmiidgdmdlaaGreatDoor
open Go.RowKit Go.ChangeShapes
set_option linter.unusedSimpArgs false

/-- a number fits -/
def Fit64 (x : Int) : Prop := -9223372036854775808 ≤ x ∧ x ≤ 9223372036854775807
theorem fit64_wf {x : Int} (h : (Lit.int .i64 x).wf = true) : Fit64 x := by
  simp [Lit.wf, IntKind.min, IntKind.max, IntKind.signed, IntKind.bits] at h
  exact ⟨by omega, by omega⟩
/-- a slice of structs of s cells that came in -/
def RowG {α : Type} (s : Nat) (cells : α → List Value) (fits : α → Prop) (w : World) (v : Value) (xs : List α) : Prop :=
  ∃ p cap, v = .slice p xs.length cap ∧ (xs.length ≤ cap ∧ cap ≤ maxLen) ∧ ∀ j x, xs[j]? = some x → fits x ∧ ∃ g off, p = some ⟨g, off, none⟩ ∧ g < w.heap.size ∧ ∀ i u, (cells x)[i]? = some u → w.cell? ⟨g, off + j * s + i, none⟩ = some u

theorem add_off (b off i : Nat) : (⟨b, off, none⟩ : Addr).add i = ⟨b, off + i, none⟩ := by
  unfold Addr.add
  split
  · rename_i h; rw [h]; rfl
  · rfl
theorem len2 {α : Type} {l : List α} (h : l.length = 2) : ∃ a b, l = [a, b] := by
  match l, h with
  | [a, b], _ => exact ⟨a, b, rfl⟩
theorem len3 {α : Type} {l : List α} (h : l.length = 3) : ∃ a b c, l = [a, b, c] := by
  match l, h with
  | [a, b, c], _ => exact ⟨a, b, c, rfl⟩
theorem len4 {α : Type} {l : List α} (h : l.length = 4) : ∃ a b c d, l = [a, b, c, d] := by
  match l, h with
  | [a, b, c, d], _ => exact ⟨a, b, c, d, rfl⟩
theorem len5 {α : Type} {l : List α} (h : l.length = 5) : ∃ a b c d e, l = [a, b, c, d, e] := by
  match l, h with
  | [a, b, c, d, e], _ => exact ⟨a, b, c, d, e, rfl⟩
theorem len6 {α : Type} {l : List α} (h : l.length = 6) : ∃ a b c d e f, l = [a, b, c, d, e, f] := by
  match l, h with
  | [a, b, c, d, e, f], _ => exact ⟨a, b, c, d, e, f, rfl⟩
theorem len7 {α : Type} {l : List α} (h : l.length = 7) : ∃ a b c d e f g, l = [a, b, c, d, e, f, g] := by
  match l, h with
  | [a, b, c, d, e, f, g], _ => exact ⟨a, b, c, d, e, f, g, rfl⟩
theorem len8 {α : Type} {l : List α} (h : l.length = 8) : ∃ a b c d e f g i, l = [a, b, c, d, e, f, g, i] := by
  match l, h with
  | [a, b, c, d, e, f, g, i], _ => exact ⟨a, b, c, d, e, f, g, i, rfl⟩

theorem rowG_of {α : Type} {H : Type} {enc : TypeId × Value → H} {W : World} {base : Nat} {spare : Nat → Bool} {held : Bool} {fuel : Nat} {v : Value} {x : DataW H × List MemPlace} {T E : TypeId} {s : Nat} {cells : α → List Value} {fits : α → Prop}
    (ht : Tryz.prog.underlying T = some (.slice E)) (hs : Tryz.prog.cellsOf E = s) (hs0 : 0 < s)
    (each : ∀ (n : Nat) (cs : List Value) (y : DataW H × List MemPlace), cs.length = s → DataW.trod enc Tryz.prog W base spare held n E cs = some y → ∃ q : α, cs = cells q ∧ fits q)
    (h : DataW.trod enc Tryz.prog W base spare held fuel T [v] = some x) : ∃ xs, RowG s cells fits W v xs := by
  rcases Go.Deep.open_slice ht h with ⟨hcs, _⟩ | ⟨a, len, cap, m, n, D, Pl, hcs, _, hl, hm, hmm, _, hel⟩
  · have e : v = .slice none 0 0 := by simpa using hcs
    exact ⟨[], none, 0, e, ⟨Nat.le_refl _, Nat.zero_le _⟩, fun j x hj => by simp at hj⟩
  · have e : v = .slice (some a) len cap := by simpa using hcs
    have hlm : len ≤ m := by rw [hmm]; split <;> omega
    have key : ∀ i, i < len → ∃ q : α, fits q ∧ (cells q).length = s ∧ ∀ j u, (cells q)[j]? = some u → W.cell? (a.add (i * s + j)) = some u := by
      intro i hi
      obtain ⟨cs', h1, h2⟩ := hel i (by omega)
      rw [hs] at h1
      obtain ⟨_, hlen, hcell⟩ := World.cells?_some h1
      obtain ⟨q, rfl, hq⟩ := each _ _ _ hlen h2
      refine ⟨q, hq, hlen, fun j u hj => ?_⟩
      have hjl := (List.getElem?_eq_some_iff.1 hj).1
      have := hcell j (by omega)
      rw [Go.Deep.add_add] at this
      rw [this, hj]
    cases len with
    | zero => exact ⟨[], some a, cap, e, ⟨Nat.zero_le _, hm⟩, fun j x hj => by simp at hj⟩
    | succ len =>
      have : Nonempty α := ⟨(key 0 (by omega)).choose⟩
      have ch : ∃ q : Nat → α, ∀ i, i < len + 1 → fits (q i) ∧ (cells (q i)).length = s ∧ ∀ j u, (cells (q i))[j]? = some u → W.cell? (a.add (i * s + j)) = some u := by
        refine ⟨fun i => if hi : i < len + 1 then (key i hi).choose else Classical.choice this, fun i hi => ?_⟩
        simp only [dif_pos hi]
        exact (key i hi).choose_spec
      obtain ⟨q, hq⟩ := ch
      obtain ⟨b, off, spot⟩ := a
      obtain ⟨_, c0, c1⟩ := hq 0 (by omega)
      have h00 := c1 0 _ (List.getElem?_eq_getElem (by omega))
      have hspot : spot = none := by simpa [Addr.add] using World.cell?_spot h00
      subst hspot
      refine ⟨(List.range (len + 1)).map q, some ⟨b, off, none⟩, cap, by simp [e], ⟨by simpa using hl, hm⟩, fun j x hj => ?_⟩
      have hjl : j < len + 1 := by
        have := (List.getElem?_eq_some_iff.1 hj).1
        simpa using this
      rw [List.getElem?_map, List.getElem?_range hjl] at hj
      simp at hj
      subst hj
      obtain ⟨f1, f2, f3⟩ := hq j hjl
      refine ⟨f1, b, off, rfl, ?_, fun i u hi => ?_⟩
      · rw [add_off] at h00
        rcases Nat.lt_or_ge b W.heap.size with r | r
        · exact r
        · simp [World.cell?, Array.getElem?_eq_none r] at h00
      · have := f3 i u hi
        rwa [add_off, ← Nat.add_assoc] at this
theorem RowG.form {α : Type} {s : Nat} {cells : α → List Value} {fits : α → Prop} {w : World} {v : Value} {xs : List α} (h : RowG s cells fits w v xs) (h0 : 0 < xs.length) :
    ∃ g off cap, v = .slice (some ⟨g, off, none⟩) xs.length cap ∧ (xs.length ≤ cap ∧ cap ≤ maxLen) ∧ g < w.heap.size ∧ ∀ j x, xs[j]? = some x → fits x ∧ ∀ i u, (cells x)[i]? = some u → w.cell? ⟨g, off + j * s + i, none⟩ = some u := by
  obtain ⟨p, cap, rfl, hcap, h2⟩ := h
  obtain ⟨_, g, off, rfl, hg, _⟩ := h2 0 _ (List.getElem?_eq_getElem h0)
  refine ⟨g, off, cap, rfl, hcap, hg, fun j x hj => ?_⟩
  obtain ⟨f, g', off', e, _, q⟩ := h2 j x hj
  injection e with e; injection e with ea eb
  subst ea eb
  exact ⟨f, q⟩
end Go.Proofs.YtcokmiidgdmdlaaGreatDoor

namespace Go.Proofs.YtcokmiidgdmdlaaGreatDoor
open Go.RowKit Go.ChangeShapes

/-- a slice of ints that came in: what it reads as -/
def RowI (w : World) (v : Value) (xs : List Int) : Prop :=
  ∃ p cap, v = .slice p xs.length cap ∧ ∀ j x, xs[j]? = some x → ∃ g off, p = some ⟨g, off, none⟩ ∧ g < w.heap.size ∧ w.cell? ⟨g, off + j, none⟩ = some (.int .i64 x) ∧ -9223372036854775808 ≤ x ∧ x ≤ 9223372036854775807

theorem cells_int : Tryz.prog.cellsOf 3 = 1 := by kernel_rfl
theorem rowI_of {H : Type} {enc : TypeId × Value → H} {W : World} {base : Nat} {spare : Nat → Bool} {held : Bool} {fuel : Nat} {v : Value} {x : DataW H × List MemPlace}
    (h : DataW.trod enc Tryz.prog W base spare held fuel 22 [v] = some x) : ∃ xs, RowI W v xs := by
  rcases open_ints Tryz.underlying22 Tryz.underlying3 cells_int h with ⟨hcs, _⟩ | ⟨a, len, cap, zs, hcs, _, hl, hm, hz, _, hcell, hwz⟩
  · have e : v = .slice none 0 0 := by simpa using hcs
    exact ⟨[], none, 0, e, fun j x hj => by simp at hj⟩
  · have e : v = .slice (some a) len cap := by simpa using hcs
    have hlz : len ≤ zs.length := by
      rw [hz]
      split <;> omega
    refine ⟨zs.take len, some a, cap, ?_, fun j x hj => ?_⟩
    · rw [e, List.length_take, Nat.min_eq_left hlz]
    · have hjl : j < len := by
        have := (List.getElem?_eq_some_iff.1 hj).1
        rw [List.length_take] at this; omega
      rw [List.getElem?_take_of_lt hjl] at hj
      obtain ⟨b, off, spot⟩ := a
      have h0 := hcell 0 (by omega)
      have hspot : spot = none := by simpa [Addr.add] using World.cell?_spot h0
      subst hspot
      have hx : zs.getD j 0 = x := by rw [List.getD_eq_getElem?_getD, hj]; rfl
      have hc := hcell j (by omega)
      rw [hx] at hc
      have hc' : W.cell? ⟨b, off + j, none⟩ = some (.int .i64 x) := by
        rw [← hc]
        unfold Addr.add
        split
        · rename_i e0; rw [e0]; rfl
        · rfl
      have hw := hwz x (List.mem_of_getElem? hj)
      refine ⟨b, off, rfl, ?_, hc', ?_⟩
      · rcases Nat.lt_or_ge b W.heap.size with q | q
        · exact q
        · simp [World.cell?, Array.getElem?_eq_none q] at hc'
      · simp [Lit.wf, IntKind.min, IntKind.max, IntKind.signed, IntKind.bits] at hw
        omega
end Go.Proofs.YtcokmiidgdmdlaaGreatDoor
