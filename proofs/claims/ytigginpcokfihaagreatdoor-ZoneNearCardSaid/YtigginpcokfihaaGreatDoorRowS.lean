/- A slice of blocks that is read, nil or not, with where it lies. -/
import Derived.Test.YtigginpcokfihaaGreatDoorRowM
namespace Go.Proofs.YtigginpcokfihaaGreatDoor
open Go.RowKit

/-- v reads as these blocks of pages; what it lies in is from block number 'base' on -/
def RowS (base : Nat) (w : World) (v : Value) (l : List (Int × Int)) : Prop :=
  ∃ p cap, v = .slice p l.length cap ∧ (l = [] → p = none ∧ cap = 0 ∨ ∃ g, p = some ⟨g, 0, none⟩ ∧ base ≤ g ∧ g < w.heap.size) ∧
    ∀ j a k, l[j]? = some (a, k) → ∃ g, p = some ⟨g, 0, none⟩ ∧ base ≤ g ∧ g < w.heap.size ∧ w.cell? ⟨g, j * 2, none⟩ = some (.int .i64 a) ∧ w.cell? ⟨g, j * 2 + 1, none⟩ = some (.int .i64 k)
theorem OwnB.rowS {w w' : World} {v : Value} {l : List (Int × Int)} (h : OwnB w w' v l) : RowS w.heap.size w' v l := by
  rcases h.mrow with ⟨rfl, rfl⟩ | ⟨g, cap, rfl, h1, h2, _, h4⟩
  · exact ⟨none, 0, rfl, fun _ => .inl ⟨rfl, rfl⟩, fun j a k hj => by simp at hj⟩
  · exact ⟨some ⟨g, 0, none⟩, cap, rfl, fun _ => .inr ⟨g, rfl, h1, h2⟩, fun j a k hj => ⟨g, rfl, h1, h2, (h4 j a k hj).1⟩⟩
theorem RowS.keep {S : List Nat} {base : Nat} {w w' : World} {v : Value} {l : List (Int × Int)} (h : RowS base w v l) (k : Keep S w w') (hs : ∀ s ∈ S, s < base) : RowS base w' v l := by
  obtain ⟨p, cap, h1, h0, h2⟩ := h
  refine ⟨p, cap, h1, fun e => ?_, fun j a b hj => ?_⟩
  · rcases h0 e with q | ⟨g, q1, q2, q3⟩
    · exact .inl q
    · exact .inr ⟨g, q1, q2, Nat.lt_of_lt_of_le q3 k.size⟩
  · obtain ⟨g, q1, q2, q3, q4, q5⟩ := h2 j a b hj
    have hn : g ∉ S := fun q => by have := hs g q; omega
    exact ⟨g, q1, q2, Nat.lt_of_lt_of_le q3 k.size, (k.cell q3 hn).trans q4, (k.cell q3 hn).trans q5⟩
theorem RowS.below {base : Nat} {w w' : World} {v : Value} {l : List (Int × Int)} (h : RowS base w v l) (k : Below w.heap.size w w') : RowS base w' v l := h.keep (Keep.of (S := []) k) (fun _ q => by cases q)
theorem RowS.rowB {base : Nat} {w : World} {v : Value} {l : List (Int × Int)} (h : RowS base w v l) (hl : l.length ≤ maxLen) : RowB w.heap.size w v l := by
  obtain ⟨p, cap, h1, h0, h2⟩ := h
  cases l with
  | nil =>
    rcases h0 rfl with ⟨rfl, rfl⟩ | ⟨g, rfl, q2, q3⟩
    · exact .inl ⟨h1, rfl⟩
    · exact .inr ⟨g, cap, h1, hl, q3, Nat.le_refl _, fun j a k hj => by simp at hj⟩
  | cons x r =>
    obtain ⟨g, rfl, q2, q3, _⟩ := h2 0 x.1 x.2 rfl
    refine .inr ⟨g, cap, h1, hl, q3, Nat.le_refl _, fun j a k hj => ?_⟩
    obtain ⟨g', e, _, _, q4, q5⟩ := h2 j a k hj
    cases e
    exact ⟨q4, q5⟩
theorem RowS.mono {base base' : Nat} {w : World} {v : Value} {l : List (Int × Int)} (h : RowS base w v l) (hb : base' ≤ base) : RowS base' w v l := by
  obtain ⟨p, cap, h1, h0, h2⟩ := h
  refine ⟨p, cap, h1, fun e => (h0 e).imp id fun ⟨g, q1, q2, q3⟩ => ⟨g, q1, by omega, q3⟩, fun j a k hj => ?_⟩
  obtain ⟨g, q1, q2, q3⟩ := h2 j a k hj
  exact ⟨g, q1, by omega, q3⟩
end Go.Proofs.YtigginpcokfihaaGreatDoor
