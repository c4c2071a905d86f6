/- Plain: blocks of pages that tile; a tiling without two buddies is the only one. -/
namespace Go.Proofs.YtcooflachcimbaaDoor

/-- a block that lies right: an order, its begin a multiple of its size -/
def Blk (x : Nat × Nat) : Prop := x.2 ≤ 6 ∧ x.1 % 2 ^ x.2 = 0
/-- page p lies in x -/
def Inn (p : Nat) (x : Nat × Nat) : Prop := x.1 ≤ p ∧ p < x.1 + 2 ^ x.2
instance (p : Nat) (x : Nat × Nat) : Decidable (Inn p x) := inferInstanceAs (Decidable (_ ∧ _))
/-- where x's buddy begins -/
def budN (x : Nat × Nat) : Nat := if x.1 / 2 ^ x.2 % 2 = 0 then x.1 + 2 ^ x.2 else x.1 - 2 ^ x.2

theorem pow_cases {k : Nat} (h : k ≤ 6) : (k = 0 ∧ 2 ^ k = 1) ∨ (k = 1 ∧ 2 ^ k = 2) ∨ (k = 2 ∧ 2 ^ k = 4) ∨ (k = 3 ∧ 2 ^ k = 8) ∨ (k = 4 ∧ 2 ^ k = 16) ∨ (k = 5 ∧ 2 ^ k = 32) ∨ (k = 6 ∧ 2 ^ k = 64) := by
  rcases k with _ | _ | _ | _ | _ | _ | _ | k
  all_goals first | omega | simp

/-- two blocks with a page in common: the smaller one lies in the greater one -/
theorem nest {x y : Nat × Nat} (hx : Blk x) (hy : Blk y) (h : x.2 ≤ y.2) {p : Nat} (px : Inn p x) (py : Inn p y) : y.1 ≤ x.1 ∧ x.1 + 2 ^ x.2 ≤ y.1 + 2 ^ y.2 := by
  obtain ⟨a, k⟩ := x
  obtain ⟨b, m⟩ := y
  obtain ⟨hk, ha⟩ := hx
  obtain ⟨hm, hb⟩ := hy
  obtain ⟨p1, p2⟩ := px
  obtain ⟨q1, q2⟩ := py
  simp only at *
  rcases pow_cases hk with ⟨rfl, e⟩ | ⟨rfl, e⟩ | ⟨rfl, e⟩ | ⟨rfl, e⟩ | ⟨rfl, e⟩ | ⟨rfl, e⟩ | ⟨rfl, e⟩ <;>
  rcases pow_cases hm with ⟨rfl, f⟩ | ⟨rfl, f⟩ | ⟨rfl, f⟩ | ⟨rfl, f⟩ | ⟨rfl, f⟩ | ⟨rfl, f⟩ | ⟨rfl, f⟩ <;>
  first | omega | (simp only [e, f] at *; omega)
theorem same_of_nest {x y : Nat × Nat} (hx : Blk x) (hy : Blk y) (h : x.2 = y.2) {p : Nat} (px : Inn p x) (py : Inn p y) : x = y := by
  obtain ⟨a1, a2⟩ := nest hx hy (by omega) px py
  obtain ⟨b1, b2⟩ := nest hy hx (by omega) py px
  rw [h] at a2
  exact Prod.ext (by omega) h

/-- a buddy's block lies right, and beside it -/
theorem bud_blk {x : Nat × Nat} (hx : Blk x) (h : x.2 < 6) : Blk (budN x, x.2) ∧ (∀ p, Inn p (budN x, x.2) → ¬ Inn p x) := by
  obtain ⟨a, k⟩ := x
  obtain ⟨hk, ha⟩ := hx
  unfold Blk Inn budN
  simp only at *
  rcases pow_cases hk with ⟨rfl, e⟩ | ⟨rfl, e⟩ | ⟨rfl, e⟩ | ⟨rfl, e⟩ | ⟨rfl, e⟩ | ⟨rfl, e⟩ | ⟨rfl, e⟩
  all_goals first
    | omega
    | (simp only [e] at *
       split <;> exact ⟨⟨by omega, by omega⟩, fun p hp hq => by omega⟩)

/-- a greater block that x lies in holds x's buddy too -/
theorem bud_in {x y : Nat × Nat} (hx : Blk x) (hy : Blk y) (h : x.2 < y.2) (h1 : y.1 ≤ x.1) (h2 : x.1 + 2 ^ x.2 ≤ y.1 + 2 ^ y.2) : y.1 ≤ budN x ∧ budN x + 2 ^ x.2 ≤ y.1 + 2 ^ y.2 := by
  obtain ⟨a, k⟩ := x
  obtain ⟨b, m⟩ := y
  obtain ⟨hk, ha⟩ := hx
  obtain ⟨hm, hb⟩ := hy
  unfold budN
  simp only at *
  rcases pow_cases hk with ⟨rfl, e⟩ | ⟨rfl, e⟩ | ⟨rfl, e⟩ | ⟨rfl, e⟩ | ⟨rfl, e⟩ | ⟨rfl, e⟩ | ⟨rfl, e⟩ <;>
  rcases pow_cases hm with ⟨rfl, f⟩ | ⟨rfl, f⟩ | ⟨rfl, f⟩ | ⟨rfl, f⟩ | ⟨rfl, f⟩ | ⟨rfl, f⟩ | ⟨rfl, f⟩ <;>
  first | omega | (simp only [e, f] at *; split <;> omega)
/-- .. and one that holds x's buddy holds x -/
theorem bud_back {x y : Nat × Nat} (hx : Blk x) (hy : Blk y) (h : x.2 < y.2) (h1 : y.1 ≤ budN x) (h2 : budN x + 2 ^ x.2 ≤ y.1 + 2 ^ y.2) : y.1 ≤ x.1 ∧ x.1 + 2 ^ x.2 ≤ y.1 + 2 ^ y.2 := by
  obtain ⟨a, k⟩ := x
  obtain ⟨b, m⟩ := y
  obtain ⟨hk, ha⟩ := hx
  obtain ⟨hm, hb⟩ := hy
  unfold budN at h1 h2
  simp only at *
  rcases pow_cases hk with ⟨rfl, e⟩ | ⟨rfl, e⟩ | ⟨rfl, e⟩ | ⟨rfl, e⟩ | ⟨rfl, e⟩ | ⟨rfl, e⟩ | ⟨rfl, e⟩ <;>
  rcases pow_cases hm with ⟨rfl, f⟩ | ⟨rfl, f⟩ | ⟨rfl, f⟩ | ⟨rfl, f⟩ | ⟨rfl, f⟩ | ⟨rfl, f⟩ | ⟨rfl, f⟩ <;>
  first | omega | (simp only [e, f] at *; split at h1 <;> split at h2 <;> omega)

/-- the blocks tile the pages below n: each page in one, and none beyond -/
structure Tiles (n : Nat) (L : List (Nat × Nat)) : Prop where
  blk : ∀ x ∈ L, Blk x
  cov : ∀ p, p < n → ∃ x ∈ L, Inn p x
  one : ∀ x ∈ L, ∀ y ∈ L, ∀ p, Inn p x → Inn p y → x = y
  bound : ∀ x ∈ L, x.1 + 2 ^ x.2 ≤ n
/-- no two of them are buddies -/
def Apart (L : List (Nat × Nat)) : Prop := ∀ x ∈ L, x.2 < 6 → (budN x, x.2) ∉ L

/-- in a tiling without buddies no block lies in a greater one of another tiling's place -/
theorem no_less {n : Nat} {L : List (Nat × Nat)} (hL : Tiles n L) (hA : Apart L) {y : Nat × Nat} (hy : Blk y) (hyn : y.1 + 2 ^ y.2 ≤ n) :
    ∀ d, ∀ x ∈ L, x.2 = d → x.2 < y.2 → ¬ (y.1 ≤ x.1 ∧ x.1 + 2 ^ x.2 ≤ y.1 + 2 ^ y.2) := by
  intro d
  induction d using Nat.strongRecOn with
  | ind d ih =>
    intro x hx hd hlt hin
    have bx := hL.blk x hx
    have hk6 : x.2 < 6 := Nat.lt_of_lt_of_le hlt hy.1
    obtain ⟨bb, bapart⟩ := bud_blk bx hk6
    obtain ⟨b1, b2⟩ := bud_in bx hy hlt hin.1 hin.2
    have hpos : 0 < 2 ^ x.2 := Nat.pos_of_ne_zero (by simp)
    have pb : Inn (budN x) (budN x, x.2) := ⟨Nat.le_refl _, by show _ < budN x + 2 ^ x.2; omega⟩
    obtain ⟨z, hz, pz⟩ := hL.cov (budN x) (by omega)
    have bz := hL.blk z hz
    have hzx : z ≠ x := fun e => bapart _ pb (e ▸ pz)
    rcases Nat.lt_trichotomy z.2 x.2 with h | h | h
    · obtain ⟨c1, c2⟩ := nest bz bb (by show z.2 ≤ x.2; omega) pz pb
      simp only at c1 c2
      exact ih z.2 (by omega) z hz rfl (by omega) ⟨by omega, by omega⟩
    · have := same_of_nest bz bb h pz pb
      exact hA x hx hk6 (this ▸ hz)
    · obtain ⟨c1, c2⟩ := nest bb bz (by show x.2 ≤ z.2; omega) pb pz
      simp only at c1 c2
      obtain ⟨d1, d2⟩ := bud_back bx bz h c1 c2
      exact hzx (hL.one z hz x hx x.1 ⟨d1, by omega⟩ ⟨Nat.le_refl _, by omega⟩)

/-- a tiling without buddies is the only one -/
theorem only_one {n : Nat} {L M : List (Nat × Nat)} (hL : Tiles n L) (hA : Apart L) (hM : Tiles n M) (hB : Apart M) : ∀ x, x ∈ L → x ∈ M := by
  intro x hx
  have bx := hL.blk x hx
  have nx := hL.bound x hx
  have hpos : 0 < 2 ^ x.2 := Nat.pos_of_ne_zero (by simp)
  have px : Inn x.1 x := ⟨Nat.le_refl _, by omega⟩
  obtain ⟨y, hy, py⟩ := hM.cov x.1 (by omega)
  have by' := hM.blk y hy
  rcases Nat.lt_trichotomy x.2 y.2 with h | h | h
  · exact absurd (nest bx by' (by omega) px py) (no_less hL hA by' (hM.bound y hy) _ x hx rfl h)
  · exact same_of_nest bx by' h px py ▸ hy
  · exact absurd (nest by' bx (by omega) py px) (no_less hM hB bx nx _ y hy rfl h)
end Go.Proofs.YtcooflachcimbaaDoor
