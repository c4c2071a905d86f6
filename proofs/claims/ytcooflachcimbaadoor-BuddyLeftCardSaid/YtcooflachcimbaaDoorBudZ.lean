/- Plain: the document's lists of blocks, cut and joined by numbers, are the sorted maps. -/
import Derived.Test.YtcooflachcimbaaDoorBudX
namespace Go.Proofs.YtcooflachcimbaaDoor

theorem putL_cut : ∀ {l : List (Int × Int)} {a k : Int} {j : Nat}, (∀ x ∈ l.take j, x.1 < a) → (∀ x ∈ l.drop j, a < x.1) → putL a k l = l.take j ++ (a, k) :: l.drop j
  | [], a, k, j, _, _ => by simp [putL]
  | p :: r, a, k, 0, _, h2 => by
    have := h2 p (by simp)
    unfold putL
    rw [if_pos this]
    rfl
  | p :: r, a, k, j + 1, h1, h2 => by
    have := h1 p (by simp)
    unfold putL
    rw [if_neg (by omega), if_neg (by omega), putL_cut (j := j) (fun x hx => h1 x (by simp [hx])) (fun x hx => h2 x (by simpa using hx))]
    rfl
theorem delL_cut : ∀ {l : List (Int × Int)} {z : Int × Int} {j : Nat}, Asc l → l[j]? = some z → delL z.1 l = l.take j ++ l.drop (j + 1)
  | [], z, j, _, h => by simp at h
  | p :: r, z, 0, hA, h => by
    obtain ⟨h1, h2⟩ := List.pairwise_cons.1 hA
    simp at h
    subst h
    have : delL p.1 (p :: r) = delL p.1 r := by simp [delL]
    rw [this, delL, List.filter_eq_self.2 fun q hq => by have := h1 q hq; simp; omega]
    rfl
  | p :: r, z, j + 1, hA, h => by
    obtain ⟨h1, h2⟩ := List.pairwise_cons.1 hA
    have hz : r[j]? = some z := by simpa using h
    have := h1 z (List.mem_of_getElem? hz)
    have e : delL z.1 (p :: r) = p :: delL z.1 r := by
      have : ¬ p.1 = z.1 := by omega
      simp [delL, this]
    rw [e, delL_cut h2 hz]
    rfl
/-- where the document's search stops: all before begin lower, all behind higher -/
theorem cut_at {l : List (Int × Int)} {a : Int} {j : Nat} (hA : Asc l) (hne : ∀ x ∈ l, x.1 ≠ a) (_ : ∀ x ∈ l.take j, x.1 < a) (hj : ∀ x, l[j]? = some x → a ≤ x.1) : ∀ x ∈ l.drop j, a < x.1 := by
  intro x hx
  cases e : l[j]? with
  | none =>
    rw [List.drop_eq_nil_of_le (by simpa using e)] at hx
    cases hx
  | some y =>
    have h0 := hj y e
    have hy := hne y (List.mem_of_getElem? e)
    rw [List.drop_eq_getElem_cons (List.getElem?_eq_some_iff.1 e).1, (List.getElem?_eq_some_iff.1 e).2] at hx
    rcases List.mem_cons.1 hx with rfl | hx
    · omega
    · have hA' : Asc (l.drop j) := List.Pairwise.sublist (List.drop_sublist j l) hA
      rw [List.drop_eq_getElem_cons (List.getElem?_eq_some_iff.1 e).1, (List.getElem?_eq_some_iff.1 e).2] at hA'
      have := (List.pairwise_cons.1 hA').1 x hx
      omega
theorem take_lt {l : List (Int × Int)} {a : Int} {j : Nat} {y : Int × Int} (h : ∀ x ∈ l.take j, x.1 < a) (hy : l[j]? = some y) (hlt : y.1 < a) : ∀ x ∈ l.take (j + 1), x.1 < a := by
  intro x hx
  rw [List.take_add_one, hy] at hx
  rcases List.mem_append.1 hx with q | q
  · exact h x q
  · simp at q; rw [q]; exact hlt

/-- the document's search for the best: the state behind j rounds -/
def bestTo (k : Int) (l : List (Int × Int)) : Option (Nat × (Int × Int)) → Prop := fun
  | none => ∀ x ∈ l, x.2 < k
  | some (i, x) => l[i]? = some x ∧ bestL k l = some x
theorem minL_snoc : ∀ (r : List (Int × Int)) (x y : Int × Int), minL x (r ++ [y]) = if y.2 < (minL x r).2 then y else minL x r
  | [], x, y => rfl
  | z :: r, x, y => by simp only [List.cons_append, minL]; exact minL_snoc r _ y
theorem fitL_snoc (k : Int) (l : List (Int × Int)) (y : Int × Int) : fitL k (l ++ [y]) = if y.2 < k then fitL k l else fitL k l ++ [y] := by
  unfold fitL
  rw [List.filter_append]
  by_cases h : y.2 < k <;> simp [h]
theorem bestL_snoc (k : Int) (l : List (Int × Int)) (y : Int × Int) : bestL k (l ++ [y]) = if y.2 < k then bestL k l else match bestL k l with | none => some y | some x => if y.2 < x.2 then some y else some x := by
  unfold bestL
  rw [fitL_snoc]
  by_cases h : y.2 < k
  · rw [if_pos h, if_pos h]
  · rw [if_neg h, if_neg h]
    cases e : fitL k l with
    | nil => simp [minL]
    | cons x r =>
      simp only [List.cons_append, minL_snoc]
      split <;> rfl
theorem bestTo_nil (k : Int) : bestTo k [] none := fun _ h => by cases h
/-- one round -/
theorem bestTo_skip {k : Int} {l : List (Int × Int)} {b : Option (Nat × (Int × Int))} {y : Int × Int} (h : bestTo k l b) (hy : y.2 < k ∨ ∃ i x, b = some (i, x) ∧ x.2 ≤ y.2) : bestTo k (l ++ [y]) b := by
  match b, h with
  | none, h =>
    rcases hy with hy | ⟨i, x, e, _⟩
    · intro x hx
      rcases List.mem_append.1 hx with q | q
      · exact h x q
      · simp at q; rw [q]; exact hy
    · cases e
  | some (i, x), ⟨h1, h2⟩ =>
    refine ⟨?_, ?_⟩
    · rw [List.getElem?_append_left (List.getElem?_eq_some_iff.1 h1).1]; exact h1
    · rw [bestL_snoc, h2]
      rcases hy with hy | ⟨i', x', e, hy⟩
      · rw [if_pos hy]
      · obtain ⟨rfl, rfl⟩ : i = i' ∧ x = x' := by simpa using e
        split
        · rfl
        · simp only
          rw [if_neg (by omega)]
theorem bestTo_take {k : Int} {l : List (Int × Int)} {b : Option (Nat × (Int × Int))} {y : Int × Int} (h : bestTo k l b) (hk : k ≤ y.2) (hy : ∀ i x, b = some (i, x) → y.2 < x.2) : bestTo k (l ++ [y]) (some (l.length, y)) := by
  refine ⟨by simp, ?_⟩
  rw [bestL_snoc, if_neg (by omega)]
  match b, h with
  | none, h =>
    have : bestL k l = none := by
      unfold bestL
      have : fitL k l = [] := by
        refine List.filter_eq_nil_iff.2 fun x hx => ?_
        have := h x hx
        simp; omega
      rw [this]
    rw [this]
  | some (i, x), ⟨_, h2⟩ =>
    rw [h2]
    simp only
    rw [if_pos (hy i x rfl)]
theorem bestTo_none {k : Int} {l : List (Int × Int)} (h : bestTo k l none) : bestL k l = none := by
  unfold bestL
  have : fitL k l = [] := by
    refine List.filter_eq_nil_iff.2 fun x hx => ?_
    have := h x hx
    simp; omega
  rw [this]
end Go.Proofs.YtcooflachcimbaaDoor
