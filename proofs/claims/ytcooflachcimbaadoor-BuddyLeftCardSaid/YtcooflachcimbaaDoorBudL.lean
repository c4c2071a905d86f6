/- Plain: a map from where a block begins to its order, as a list that is sorted by where they begin. -/
namespace Go.Proofs.YtcooflachcimbaaDoor

/-- sorted by where they begin, each once -/
def Asc (l : List (Int × Int)) : Prop := l.Pairwise fun p q => p.1 < q.1
def getL (l : List (Int × Int)) (a : Int) : Option Int := (l.find? fun p => p.1 == a).map (·.2)
def delL (a : Int) (l : List (Int × Int)) : List (Int × Int) := l.filter fun p => p.1 != a
def putL (a k : Int) : List (Int × Int) → List (Int × Int)
  | [] => [(a, k)]
  | p :: r => if a < p.1 then (a, k) :: p :: r else if a = p.1 then (a, k) :: r else p :: putL a k r

theorem Asc.del {l : List (Int × Int)} (h : Asc l) (a : Int) : Asc (delL a l) := List.Pairwise.filter _ h
theorem mem_delL {l : List (Int × Int)} {a : Int} {p : Int × Int} : p ∈ delL a l ↔ p ∈ l ∧ p.1 ≠ a := by simp [delL]
theorem putL_mem : ∀ {l : List (Int × Int)} {a k : Int} {p : Int × Int}, p ∈ putL a k l → p = (a, k) ∨ p ∈ l
  | [], a, k, p, h => by simpa [putL] using h
  | q :: r, a, k, p, h => by
    unfold putL at h
    split at h
    · simpa using h
    · split at h
      · rcases List.mem_cons.1 h with h | h
        · exact .inl h
        · exact .inr (List.mem_cons_of_mem _ h)
      · rcases List.mem_cons.1 h with h | h
        · exact .inr (by simp [h])
        · rcases putL_mem h with h | h
          · exact .inl h
          · exact .inr (List.mem_cons_of_mem _ h)
theorem Asc.put : ∀ {l : List (Int × Int)}, Asc l → ∀ a k, Asc (putL a k l)
  | [], _, a, k => by simp [putL, Asc]
  | q :: r, h, a, k => by
    obtain ⟨h1, h2⟩ := List.pairwise_cons.1 h
    unfold putL
    split
    · refine List.pairwise_cons.2 ⟨fun p hp => ?_, h⟩
      rcases List.mem_cons.1 hp with rfl | hp
      · assumption
      · have := h1 p hp; show a < p.1; omega
    · split
      · rename_i e
        exact List.pairwise_cons.2 ⟨fun p hp => by have := h1 p hp; show a < p.1; omega, h2⟩
      · refine List.pairwise_cons.2 ⟨fun p hp => ?_, Asc.put h2 a k⟩
        rcases putL_mem hp with rfl | hp
        · show q.1 < a; omega
        · exact h1 p hp
theorem getL_cons (p : Int × Int) (l : List (Int × Int)) (a : Int) : getL (p :: l) a = if p.1 = a then some p.2 else getL l a := by
  unfold getL
  by_cases h : p.1 = a <;> simp [h]
theorem getL_none {l : List (Int × Int)} {a : Int} (h : ∀ p ∈ l, p.1 ≠ a) : getL l a = none := by
  induction l with
  | nil => rfl
  | cons p r ih => rw [getL_cons, if_neg (h p (by simp)), ih fun q hq => h q (by simp [hq])]
theorem getL_mem : ∀ {l : List (Int × Int)} {a k : Int}, getL l a = some k → (a, k) ∈ l
  | [], a, k, h => by simp [getL] at h
  | p :: r, a, k, h => by
    rw [getL_cons] at h
    split at h
    · rename_i e
      have : p.2 = k := Option.some.inj h
      have : p = (a, k) := by rw [← e, ← this]
      simp [this]
    · exact List.mem_cons_of_mem _ (getL_mem h)
theorem mem_getL : ∀ {l : List (Int × Int)} {a k : Int}, Asc l → (a, k) ∈ l → getL l a = some k
  | [], a, k, _, h => by simp at h
  | p :: r, a, k, hA, h => by
    obtain ⟨h1, h2⟩ := List.pairwise_cons.1 hA
    rw [getL_cons]
    rcases List.mem_cons.1 h with rfl | h
    · simp
    · rw [if_neg, mem_getL h2 h]
      have := h1 _ h
      simp at this
      omega
theorem getL_put : ∀ {l : List (Int × Int)} (a k b : Int), Asc l → getL (putL a k l) b = if a = b then some k else getL l b
  | [], a, k, b, _ => by rw [putL, getL_cons]
  | p :: r, a, k, b, h => by
    obtain ⟨h1, h2⟩ := List.pairwise_cons.1 h
    unfold putL
    split
    · rw [getL_cons]
    · split
      · rename_i e
        rw [getL_cons, getL_cons]
        by_cases hb : a = b
        · simp [hb]
        · rw [if_neg (by simpa using hb), if_neg (by simpa using hb), if_neg (by omega)]
      · rw [getL_cons, getL_cons, getL_put a k b h2]
        by_cases hb : p.1 = b
        · rw [if_pos hb, if_pos hb, if_neg (by omega)]
        · rw [if_neg hb, if_neg hb]
theorem getL_del (l : List (Int × Int)) (a b : Int) : getL (delL a l) b = if a = b then none else getL l b := by
  induction l with
  | nil => simp [delL, getL]
  | cons p r ih =>
    have e : delL a (p :: r) = if p.1 = a then delL a r else p :: delL a r := by
      by_cases h : p.1 = a <;> simp [delL, h]
    rw [e, getL_cons]
    by_cases h : p.1 = a
    · rw [if_pos h, ih]
      by_cases hb : a = b
      · simp [hb]
      · rw [if_neg hb, if_neg hb, if_neg (by omega)]
    · rw [if_neg h, getL_cons, ih]
      by_cases hb : p.1 = b
      · rw [if_pos hb, if_pos hb, if_neg (by omega)]
      · rw [if_neg hb, if_neg hb]
/-- two sorted lists that answer alike are one -/
theorem asc_ext : ∀ {l m : List (Int × Int)}, Asc l → Asc m → (∀ a, getL l a = getL m a) → l = m
  | [], [], _, _, _ => rfl
  | [], q :: s, _, _, h => by have := h q.1; rw [getL_cons] at this; simp [getL] at this
  | p :: r, [], _, _, h => by have := h p.1; rw [getL_cons] at this; simp [getL] at this
  | p :: r, q :: s, hl, hm, h => by
    obtain ⟨l1, l2⟩ := List.pairwise_cons.1 hl
    obtain ⟨m1, m2⟩ := List.pairwise_cons.1 hm
    have e1 : p.1 = q.1 := by
      have a1 := h p.1
      have a2 := h q.1
      rw [getL_cons, if_pos rfl] at a1
      rw [getL_cons q s q.1, if_pos rfl] at a2
      have b1 := getL_mem a1.symm
      have b2 := getL_mem a2
      rcases List.mem_cons.1 b1 with e | b1
      · rw [← e]
      · rcases List.mem_cons.1 b2 with e | b2
        · rw [← e]
        · have := m1 _ b1; have := l1 _ b2; simp at *; omega
    have e2 : p.2 = q.2 := by
      have := h p.1
      rw [getL_cons, if_pos rfl, getL_cons, if_pos e1.symm] at this
      exact Option.some.inj this
    have e3 : p = q := Prod.ext e1 e2
    subst e3
    rw [asc_ext l2 m2 fun a => ?_]
    by_cases ha : p.1 = a
    · rw [getL_none fun x hx => by have := l1 x hx; omega, getL_none fun x hx => by have := m1 x hx; omega]
    · have := h a
      rwa [getL_cons, getL_cons, if_neg ha, if_neg ha] at this
end Go.Proofs.YtcooflachcimbaaDoor
