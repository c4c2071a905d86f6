/- Plain: a tiling, one of whose blocks is cut in two halves; and back. -/
import Derived.Test.YtcooflachcimbaaDoorBudT
namespace Go.Proofs.YtcooflachcimbaaDoor

/-- the two halves of a block lie right, and are it -/
theorem half_blk {a k : Nat} (h : Blk (a, k + 1)) : Blk (a, k) ∧ Blk (a + 2 ^ k, k) ∧ ∀ p, Inn p (a, k + 1) ↔ (Inn p (a, k) ∨ Inn p (a + 2 ^ k, k)) := by
  obtain ⟨hk, ha⟩ := h
  unfold Blk Inn
  simp only at *
  rcases pow_cases (show k ≤ 6 by omega) with ⟨rfl, e⟩ | ⟨rfl, e⟩ | ⟨rfl, e⟩ | ⟨rfl, e⟩ | ⟨rfl, e⟩ | ⟨rfl, e⟩ | ⟨rfl, e⟩
  all_goals first
    | omega
    | (simp only [Nat.reduceAdd, Nat.reducePow] at *
       refine ⟨⟨by omega, by omega⟩, ⟨by omega, by omega⟩, fun p => by omega⟩)
theorem half_apart {a k : Nat} (p : Nat) : Inn p (a, k) → ¬ Inn p (a + 2 ^ k, k) := by
  unfold Inn
  simp only
  omega

theorem Tiles.split {n : Nat} {L M : List (Nat × Nat)} (h : Tiles n L) {a k : Nat} (hx : (a, k + 1) ∈ L)
    (hM : ∀ z, z ∈ M ↔ (z ∈ L ∧ z ≠ (a, k + 1)) ∨ z = (a, k) ∨ z = (a + 2 ^ k, k)) : Tiles n M := by
  obtain ⟨b1, b2, hp⟩ := half_blk (h.blk _ hx)
  have hb := h.bound _ hx
  have e2 : 2 ^ (k + 1) = 2 ^ k + 2 ^ k := by rw [Nat.pow_succ]; omega
  simp only [e2] at hb
  have hpos : 0 < 2 ^ k := Nat.pos_of_ne_zero (by simp)
  refine ⟨fun z hz => ?_, fun p hpn => ?_, fun x hx' y hy' p px py => ?_, fun z hz => ?_⟩
  · rcases (hM z).1 hz with ⟨h1, _⟩ | rfl | rfl
    · exact h.blk z h1
    · exact b1
    · exact b2
  · obtain ⟨z, hz, pz⟩ := h.cov p hpn
    by_cases e : z = (a, k + 1)
    · subst e
      rcases (hp p).1 pz with q | q
      · exact ⟨_, (hM _).2 (.inr (.inl rfl)), q⟩
      · exact ⟨_, (hM _).2 (.inr (.inr rfl)), q⟩
    · exact ⟨z, (hM z).2 (.inl ⟨hz, e⟩), pz⟩
  · rcases (hM x).1 hx' with ⟨h1, n1⟩ | rfl | rfl <;> rcases (hM y).1 hy' with ⟨h2, n2⟩ | rfl | rfl
    · exact h.one x h1 y h2 p px py
    · exact absurd (h.one x h1 _ hx p px ((hp p).2 (.inl py))) n1
    · exact absurd (h.one x h1 _ hx p px ((hp p).2 (.inr py))) n1
    · exact absurd (h.one y h2 _ hx p py ((hp p).2 (.inl px))) n2
    · rfl
    · exact absurd py (half_apart p px)
    · exact absurd (h.one y h2 _ hx p py ((hp p).2 (.inr px))) n2
    · exact absurd px (half_apart p py)
    · rfl
  · rcases (hM z).1 hz with ⟨h1, _⟩ | rfl | rfl
    · exact h.bound z h1
    · show a + 2 ^ k ≤ n; omega
    · show a + 2 ^ k + 2 ^ k ≤ n; omega

/-- .. and back: two halves become one -/
theorem Tiles.join {n : Nat} {L M : List (Nat × Nat)} (h : Tiles n L) {a k : Nat} (hb : Blk (a, k + 1)) (h1 : (a, k) ∈ L) (h2 : (a + 2 ^ k, k) ∈ L)
    (hM : ∀ z, z ∈ M ↔ (z ∈ L ∧ z ≠ (a, k) ∧ z ≠ (a + 2 ^ k, k)) ∨ z = (a, k + 1)) : Tiles n M := by
  obtain ⟨b1, b2, hp⟩ := half_blk hb
  have hn := h.bound _ h2
  simp only at hn
  have e2 : 2 ^ (k + 1) = 2 ^ k + 2 ^ k := by rw [Nat.pow_succ]; omega
  refine ⟨fun z hz => ?_, fun p hpn => ?_, fun x hx' y hy' p px py => ?_, fun z hz => ?_⟩
  · rcases (hM z).1 hz with ⟨q, _⟩ | rfl
    · exact h.blk z q
    · exact hb
  · obtain ⟨z, hz, pz⟩ := h.cov p hpn
    by_cases e : z = (a, k)
    · subst e; exact ⟨_, (hM _).2 (.inr rfl), (hp p).2 (.inl pz)⟩
    · by_cases e' : z = (a + 2 ^ k, k)
      · subst e'; exact ⟨_, (hM _).2 (.inr rfl), (hp p).2 (.inr pz)⟩
      · exact ⟨z, (hM z).2 (.inl ⟨hz, e, e'⟩), pz⟩
  · rcases (hM x).1 hx' with ⟨q1, n1, n1'⟩ | rfl <;> rcases (hM y).1 hy' with ⟨q2, n2, n2'⟩ | rfl
    · exact h.one x q1 y q2 p px py
    · rcases (hp p).1 py with q | q
      · exact absurd (h.one x q1 _ h1 p px q) n1
      · exact absurd (h.one x q1 _ h2 p px q) n1'
    · rcases (hp p).1 px with q | q
      · exact absurd (h.one y q2 _ h1 p py q) n2
      · exact absurd (h.one y q2 _ h2 p py q) n2'
    · rfl
  · rcases (hM z).1 hz with ⟨q, _⟩ | rfl
    · exact h.bound z q
    · show a + 2 ^ (k + 1) ≤ n; omega
end Go.Proofs.YtcooflachcimbaaDoor
