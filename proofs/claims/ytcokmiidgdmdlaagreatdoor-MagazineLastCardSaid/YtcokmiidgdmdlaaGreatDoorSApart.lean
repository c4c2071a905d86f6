/- Plain: objects that are taken lie apart; all given back and shrunk, the zone has its pages. -/
import Derived.Test.YtcokmiidgdmdlaaGreatDoorZPl
namespace Go.Proofs.YtcokmiidgdmdlaaGreatDoor
set_option linter.unusedSimpArgs false
set_option linter.unusedVariables false

/-- the next object lies behind -/
def behindO (e : Nat) (a b : Ob) : Prop := a.1 < b.1 ∨ a.1 = b.1 ∧ a.2 + e ≤ b.2
theorem obsS_mem {e : Nat} {s : Sl} {o : Ob} : o ∈ obsS e s ↔ ∃ k, s.T[k]? = some true ∧ o = obOf e s k := by
  unfold obsS
  rw [List.mem_filterMap]
  constructor
  · rintro ⟨k, _, h⟩
    split at h
    · rename_i hk
      exact ⟨k, hk, (Option.some.inj h).symm⟩
    · cases h
  · rintro ⟨k, hk, rfl⟩
    exact ⟨k, List.mem_range.2 (List.getElem?_eq_some_iff.1 hk).1, by rw [if_pos hk]⟩
theorem obsC_mem {e : Nat} {C : List Sl} {o : Ob} : o ∈ obsC e C ↔ ∃ s ∈ C, ∃ k, s.T[k]? = some true ∧ o = obOf e s k := by
  unfold obsC
  simp only [List.mem_flatMap, obsS_mem]
theorem obsS_sorted (e : Nat) (s : Sl) : (obsS e s).Pairwise (behindO e) := by
  unfold obsS
  rw [List.pairwise_filterMap]
  refine List.pairwise_lt_range.imp fun {a b} hab o ho o' ho' => ?_
  split at ho
  · split at ho'
    · obtain rfl := Option.some.inj ho
      obtain rfl := Option.some.inj ho'
      refine .inr ⟨rfl, ?_⟩
      show s.pg * 64 + (a : Int) * e + e ≤ s.pg * 64 + (b : Int) * e
      have : ((a : Int) + 1) * e ≤ (b : Int) * e := Int.mul_le_mul_of_nonneg_right (by omega) (by omega)
      rw [Int.add_mul, Int.one_mul] at this
      omega
    · cases ho'
  · cases ho
/-- sorted lists with the same members are one -/
theorem sorted_ext {e : Nat} (e1 : 1 ≤ e) : ∀ {l r : List Ob}, l.Pairwise (behindO e) → r.Pairwise (behindO e) → (∀ x, x ∈ l ↔ x ∈ r) → l = r
  | [], [], _, _, _ => rfl
  | [], y :: r, _, _, h => by have := (h y).2 (by simp); cases this
  | x :: l, [], _, _, h => by have := (h x).1 (by simp); cases this
  | x :: l, y :: r, h1, h2, h => by
    obtain ⟨a1, a2⟩ := List.pairwise_cons.1 h1
    obtain ⟨b1, b2⟩ := List.pairwise_cons.1 h2
    have hxy : x = y := by
      rcases List.mem_cons.1 ((h x).1 (by simp)) with q | q
      · exact q
      · rcases List.mem_cons.1 ((h y).2 (by simp)) with q' | q'
        · exact q'.symm
        · have := b1 x q; have := a1 y q'
          unfold behindO at *; omega
    subst hxy
    rw [sorted_ext e1 a2 b2 fun z => ?_]
    constructor
    · intro hz
      rcases List.mem_cons.1 ((h z).1 (List.mem_cons_of_mem _ hz)) with q | q
      · have := a1 z hz; rw [q] at this; unfold behindO at this; omega
      · exact q
    · intro hz
      rcases List.mem_cons.1 ((h z).2 (List.mem_cons_of_mem _ hz)) with q | q
      · have := b1 z hz; rw [q] at this; unfold behindO at this; omega
      · exact q
theorem ob_page {e : Nat} (e1 : 1 ≤ e) {s : Sl} (hl : s.T.length = roomE e) {k : Nat} (hk : s.T[k]? = some true) : s.pg * 64 ≤ (obOf e s k).2 ∧ (obOf e s k).2 + e ≤ s.pg * 64 + 64 ∧ (obOf e s k).1 = s.nd := by
  have hlt := (List.getElem?_eq_some_iff.1 hk).1
  rw [hl] at hlt
  have h1 : (k + 1) * e ≤ 64 := Nat.le_trans (Nat.mul_le_mul_right e (show k + 1 ≤ roomE e by omega)) (Nat.div_mul_le_self 64 e)
  have h2 : ((k : Int) + 1) * e ≤ 64 := by exact_mod_cast h1
  have h3 : 0 ≤ (k : Int) * e := Int.mul_nonneg (by omega) (by omega)
  rw [Int.add_mul, Int.one_mul] at h2
  refine ⟨?_, ?_, rfl⟩
  · show s.pg * 64 ≤ s.pg * 64 + (k : Int) * e
    omega
  · show s.pg * 64 + (k : Int) * e + e ≤ _
    omega
theorem obsC_sorted {e : Nat} {c : Ca} (h : InvC e c) : (obsC e c.C).Pairwise (behindO e) := by
  unfold obsC
  rw [List.pairwise_flatMap]
  refine ⟨fun s _ => obsS_sorted e s, h.srt.imp_of_mem fun {s t} hs ht hst o ho o' ho' => ?_⟩
  obtain ⟨k, hk, rfl⟩ := obsS_mem.1 ho
  obtain ⟨k', hk', rfl⟩ := obsS_mem.1 ho'
  have h1 := ob_page h.e1 (h.len s hs) hk
  have h2 := ob_page h.e1 (h.len t ht) hk'
  unfold behindO
  unfold ltS ltP at hst
  rw [h1.2.2, h2.2.2]
  omega
theorem ob_one {e : Nat} {c : Ca} (h : InvC e c) {o : Ob} (ho : o ∈ obsC e c.C) : 0 ≤ o.2 ∧ o.2 < 16384 ∧ o.2 / 64 = (o.2 + e - 1) / 64 := by
  obtain ⟨s, hs, k, hk, rfl⟩ := obsC_mem.1 ho
  have h1 := ob_page h.e1 (h.len s hs) hk
  have h2 := h.rng hs
  have h3 := h.e1
  omega
theorem give_has {e : Nat} {c : Ca} (h : InvC e c) {o : Ob} (ho : o ∈ obsC e c.C) : (giveC e c o).2 = 0 := by
  obtain ⟨s, hs, k, hk, rfl⟩ := obsC_mem.1 ho
  unfold giveC
  cases hf : findS e (obOf e s k) c.C with
  | none =>
    have h1 := findS_none hf s hs
    have h2 : hasS e (obOf e s k) s = true := (hasS_iff h.e1).2 ⟨by rw [kOf_uniq h.e1 rfl]; exact hk, by rw [kOf_uniq h.e1 rfl]⟩
    rw [h1] at h2; cases h2
  | some i =>
    obtain ⟨z, hz, _⟩ := findS_some hf
    simp only [hz]
/-- a slab's first object given back: the others are left -/
theorem obsS_set {e : Nat} {s : Sl} {o : Ob} {r : List Ob} (e1 : 1 ≤ e) (h : obsS e s = o :: r) : hasS e o s = true ∧ obsS e (useS s (kOf e o s) false) = r := by
  have ho : o ∈ obsS e s := by rw [h]; simp
  obtain ⟨k, hk, rfl⟩ := obsS_mem.1 ho
  have hko := kOf_uniq e1 (rfl : obOf e s k = obOf e s k)
  refine ⟨(hasS_iff e1).2 ⟨by rw [hko]; exact hk, by rw [hko]⟩, ?_⟩
  rw [hko]
  have hkl := (List.getElem?_eq_some_iff.1 hk).1
  have hs := obsS_sorted e s
  rw [h] at hs
  obtain ⟨p1, p2⟩ := List.pairwise_cons.1 hs
  -- both are sorted, with the same members
  have hs2 := obsS_sorted e (useS s k false)
  have hmem : ∀ x, x ∈ obsS e (useS s k false) ↔ x ∈ r := by
    intro x
    have hx : x ∈ obsS e (useS s k false) ↔ x ∈ obsS e s ∧ x ≠ obOf e s k := by
      rw [obsS_mem, obsS_mem]
      constructor
      · rintro ⟨j, hj, rfl⟩
        have hjk : j ≠ k := fun q => by
          subst q
          simp only [useS] at hj
          rw [List.getElem?_set_self hkl] at hj; cases hj
        simp only [useS] at hj
        rw [List.getElem?_set_ne (Ne.symm hjk)] at hj
        refine ⟨⟨j, hj, rfl⟩, fun q => hjk ?_⟩
        have h1 : kOf e (obOf e s k) s = j := kOf_uniq e1 q.symm
        rw [hko] at h1; exact h1.symm
      · rintro ⟨⟨j, hj, rfl⟩, hne⟩
        have hjk : j ≠ k := fun q => hne (by rw [q])
        exact ⟨j, by simp only [useS]; rw [List.getElem?_set_ne (Ne.symm hjk)]; exact hj, rfl⟩
    rw [hx, h]
    constructor
    · rintro ⟨h1, h2⟩
      rcases List.mem_cons.1 h1 with q | q
      · exact absurd q h2
      · exact q
    · intro q
      refine ⟨List.mem_cons_of_mem _ q, fun hq => ?_⟩
      have := p1 x q
      rw [hq] at this
      unfold behindO at this
      omega
  exact sorted_ext e1 hs2 p2 hmem

theorem give_first {e : Nat} (e1 : 1 ≤ e) : ∀ {C : List Sl} {o : Ob} {r : List Ob}, obsC e C = o :: r → ∃ i s, findS e o C = some i ∧ C[i]? = some s ∧ obsC e (C.set i (useS s (kOf e o s) false)) = r
  | [], o, r, h => by simp [obsC] at h
  | s :: C, o, r, h => by
    have hc : obsC e (s :: C) = obsS e s ++ obsC e C := by simp [obsC]
    rw [hc] at h
    cases hs : obsS e s with
    | nil =>
      rw [hs] at h
      obtain ⟨i, z, h1, h2, h3⟩ := give_first e1 (C := C) (by simpa using h)
      have hn : hasS e o s = false := by
        cases q : hasS e o s with
        | false => rfl
        | true =>
          obtain ⟨k1, k2⟩ := (hasS_iff e1).1 q
          have : o ∈ obsS e s := obsS_mem.2 ⟨_, k1, k2⟩
          rw [hs] at this; cases this
      refine ⟨i + 1, z, ?_, by simpa using h2, ?_⟩
      · obtain ⟨w, q1, q2, q3⟩ := findS_some h1
        refine findS_at (s := w) (by simpa using q1) q2 fun j y hj hy => ?_
        cases j with
        | zero => simp at hy; rw [← hy]; exact hn
        | succ j => exact q3 j y (by omega) (by simpa using hy)
      · rw [List.set_cons_succ]
        have : obsC e (s :: C.set i (useS z (kOf e o z) false)) = obsS e s ++ obsC e (C.set i (useS z (kOf e o z) false)) := by simp [obsC]
        rw [this, hs, h3]; rfl
    | cons o' r' =>
      rw [hs] at h
      simp only [List.cons_append, List.cons.injEq] at h
      obtain ⟨rfl, h⟩ := h
      obtain ⟨h1, h2⟩ := obsS_set e1 hs
      refine ⟨0, s, findS_at rfl h1 (fun j z hj => by omega), rfl, ?_⟩
      have : obsC e ((s :: C).set 0 (useS s (kOf e o' s) false)) = obsS e (useS s (kOf e o' s) false) ++ obsC e C := by simp [obsC]
      rw [this, h2, h]
/-- giving back the first of those that are taken -/
theorem give_next {e : Nat} {c : Ca} (h : InvC e c) {o : Ob} {r : List Ob} (hr : obsC e c.C = o :: r) : (giveC e c o).2 = 0 ∧ obsC e (giveC e c o).1.C = r := by
  obtain ⟨i, s, h1, h2, h3⟩ := give_first h.e1 hr
  unfold giveC
  rw [h1]
  simp only [h2]
  exact ⟨trivial, h3⟩
theorem obs_nil {e : Nat} {C : List Sl} (h : obsC e C = []) : ∀ s ∈ C, manyS s = 0 := fun s hs => by
  unfold manyS manyT
  rw [List.countP_eq_zero]
  intro b hb hq
  obtain ⟨k, hk, hkb⟩ := List.mem_iff_getElem.1 hb
  have hb1 : b = true := by simpa using hq
  have : obOf e s k ∈ obsC e C := obsC_mem.2 ⟨s, hs, k, List.getElem?_eq_some_iff.2 ⟨hk, by rw [hkb, hb1]⟩, rfl⟩
  rw [h] at this; cases this

/-- each page that is taken is a slab's -/
def OnlyP (c : Ca) : Prop := ∀ (i : Nat) (x : Nd), c.L[i]? = some x → ∀ p ∈ x.T, ∃ s ∈ c.C, s.nd = i ∧ s.pg = p.1
theorem only_take {mn : Int} {O : List (List Int)} {e : Nat} {c : Ca} {v : Int} {u : Bool} (hO : OrdZ O c.L.length) (h : InvC e c) (hp : OnlyP c) : OnlyP (takeC mn O e c v u).1 := by
  unfold takeC
  by_cases hv : v < 0 ∨ (c.L.length : Int) ≤ v
  · rw [if_pos hv]; exact hp
  rw [if_neg hv]
  cases hb : bestS v c.C c.C.length with
  | some k =>
    obtain ⟨_, s, hs, _⟩ := bestS_some hb
    simp only [hs]
    intro i x hx p hpp
    obtain ⟨z, hz, h1, h2⟩ := hp i x hx p hpp
    obtain ⟨j, hj, hg⟩ := List.mem_iff_getElem.1 hz
    by_cases hjk : j = k
    · subst hjk
      have : z = s := by rw [List.getElem?_eq_getElem hj, hg] at hs; exact Option.some.inj hs
      subst this
      exact ⟨_, List.mem_set hj _, h1, h2⟩
    · exact ⟨z, List.mem_iff_getElem?.2 ⟨j, by rw [List.getElem?_set_ne (Ne.symm hjk), List.getElem?_eq_getElem hj, hg]⟩, h1, h2⟩
  | none =>
    simp only
    rcases page_cases (mn := mn) (u := u) hO h.zi hv with ⟨k, hk, e⟩ | ⟨j, y, b, hx, hbb, hf, b0, b1, e⟩
    · rw [e]
      have : ¬ (k = 0) := by rcases hk with q | q <;> omega
      simp only [this, if_false]
      exact hp
    · rw [e]
      simp only [if_true]
      intro i x hi p hpp
      by_cases hij : j = i
      · subst hij
        rw [List.getElem?_set_self (List.getElem?_eq_some_iff.1 hx).1] at hi
        obtain rfl := Option.some.inj hi
        rcases (mem_putL (h.zi y (List.mem_of_getElem? hx)).ta).1 hpp with q | ⟨q, _⟩
        · exact ⟨_, mem_insS.2 (.inl rfl), by simp [useS], by rw [q]; rfl⟩
        · obtain ⟨z, hz, h1, h2⟩ := hp j y hx p q
          exact ⟨z, mem_insS.2 (.inr hz), h1, h2⟩
      · rw [List.getElem?_set_ne hij] at hi
        obtain ⟨z, hz, h1, h2⟩ := hp i x hi p hpp
        exact ⟨z, mem_insS.2 (.inr hz), h1, h2⟩
theorem only_give {e : Nat} {c : Ca} {o : Ob} (hp : OnlyP c) : OnlyP (giveC e c o).1 := by
  unfold giveC
  split
  · exact hp
  · rename_i k hk
    obtain ⟨s, hs, _⟩ := findS_some hk
    simp only [hs]
    intro i x hx p hpp
    obtain ⟨z, hz, h1, h2⟩ := hp i x hx p hpp
    obtain ⟨j, hj, hg⟩ := List.mem_iff_getElem.1 hz
    by_cases hjk : j = k
    · subst hjk
      have : z = s := by rw [List.getElem?_eq_getElem hj, hg] at hs; exact Option.some.inj hs
      subst this
      exact ⟨_, List.mem_set hj _, h1, h2⟩
    · exact ⟨z, List.mem_iff_getElem?.2 ⟨j, by rw [List.getElem?_set_ne (Ne.symm hjk), List.getElem?_eq_getElem hj, hg]⟩, h1, h2⟩

/-- how many slabs are of a node -/
def cntN (v : Int) (C : List Sl) : Nat := C.countP fun s => decide (s.nd = v)
theorem cnt_erase {v : Int} : ∀ {C : List Sl} {i : Nat} {s : Sl}, C[i]? = some s → cntN v (C.eraseIdx i) + (if s.nd = v then 1 else 0) = cntN v C
  | [], i, s, h => by simp at h
  | c :: C, 0, s, h => by simp at h; subst h; unfold cntN; simp [List.countP_cons]
  | c :: C, i + 1, s, h => by
    have := cnt_erase (v := v) (C := C) (i := i) (s := s) (by simpa using h)
    unfold cntN at *
    simp [List.countP_cons]; omega
theorem cnt_few {e : Nat} {c : Ca} (h : InvC e c) (v : Int) : cntN v c.C ≤ 256 := by
  unfold cntN
  rw [List.countP_eq_length_filter]
  have hp : (c.C.filter fun s => decide (s.nd = v)).Pairwise ltS := h.srt.filter _
  have := strict_len 256 ((c.C.filter fun s => decide (s.nd = v)).map fun s => s.pg) (by
    rw [List.pairwise_map]
    refine hp.imp_of_mem fun {a b} ha hb q => ?_
    have h1 := (List.mem_filter.1 ha).2
    have h2 := (List.mem_filter.1 hb).2
    simp at h1 h2
    unfold ltS ltP at q; omega) (fun x hx => by
    obtain ⟨s, hs, rfl⟩ := List.mem_map.1 hx
    have := h.rng (List.mem_filter.1 hs).1
    omega)
  simpa using this
/-- a page given back with its slab -/
theorem only_gone {e : Nat} {c : Ca} (h : InvC e c) (hp : OnlyP c) {i : Nat} {s : Sl} (hs : c.C[i]? = some s) : OnlyP ⟨(giveZ c.L s.nd s.pg 0).1, c.C.eraseIdx i⟩ := by
  obtain ⟨h0, x, hx, hg⟩ := h.tk s (List.mem_of_getElem? hs)
  have hl := (List.getElem?_eq_some_iff.1 hx).1
  have hv : ¬ (s.nd < 0 ∨ (c.L.length : Int) ≤ s.nd) := by omega
  have e1 : giveZ c.L s.nd s.pg 0 = (c.L.set s.nd.toNat (gaveN s.pg 0 x), 0) := by
    unfold giveZ
    rw [if_neg hv, hx]
    simp only [hg, if_true]
  rw [e1]
  intro j y hj p hpp
  have key : ∀ z ∈ c.C, z.nd = j → z.pg = p.1 → ¬ (z.nd = s.nd ∧ z.pg = s.pg) → ∃ s' ∈ c.C.eraseIdx i, s'.nd = j ∧ s'.pg = p.1 := fun z hz z1 z2 hne => by
    refine ⟨z, ?_, z1, z2⟩
    obtain ⟨k, hk, hg2⟩ := List.mem_iff_getElem.1 hz
    refine List.mem_eraseIdx_iff_getElem?.2 ⟨k, fun q => ?_, by rw [List.getElem?_eq_getElem hk, hg2]⟩
    subst q
    rw [List.getElem?_eq_getElem hk, hg2] at hs
    obtain rfl := Option.some.inj hs
    exact hne ⟨rfl, rfl⟩
  by_cases hjn : s.nd.toNat = j
  · rw [hjn] at hj hx
    have hjl : j < c.L.length := by omega
    simp only at hj
    rw [List.getElem?_set_self hjl] at hj
    obtain rfl := Option.some.inj hj
    have hd : p ∈ delL s.pg x.T := hpp
    obtain ⟨q1, q2⟩ := mem_delL.1 hd
    obtain ⟨z, hz, z1, z2⟩ := hp j x hx p q1
    exact key z hz z1 z2 fun q => q2 (by omega)
  · simp only at hj
    rw [List.getElem?_set_ne hjn] at hj
    obtain ⟨z, hz, z1, z2⟩ := hp j y hj p hpp
    exact key z hz z1 z2 fun q => hjn (by omega)
/-- all of a node's slabs that are empty go -/
theorem shrink_all {e : Nat} {v : Int} : ∀ {i : Nat} {c : Ca} {n : Nat}, InvC e c → OnlyP c → (∀ s ∈ c.C, manyS s = 0) → n + cntN v c.C ≤ 256 → i ≤ c.C.length → (∀ j s, i ≤ j → c.C[j]? = some s → s.nd ≠ v) →
    OnlyP (shrinkC v 256 i (c, n)).1 ∧ (∀ s ∈ (shrinkC v 256 i (c, n)).1.C, manyS s = 0 ∧ s.nd ≠ v ∧ s ∈ c.C)
  | 0, c, n, h, hp, hm, hn, hi, hj => ⟨hp, fun s hs => by
    obtain ⟨j, hj2, hg⟩ := List.mem_iff_getElem.1 hs
    exact ⟨hm s hs, hj j s (by omega) (List.getElem?_eq_some_iff.2 ⟨hj2, hg⟩), hs⟩⟩
  | i + 1, c, n, h, hp, hm, hn, hi, hj => by
    obtain ⟨s, hs⟩ : ∃ s, c.C[i]? = some s := ⟨c.C[i]'(by omega), List.getElem?_eq_getElem _⟩
    have hsm := List.mem_of_getElem? hs
    unfold shrinkC
    simp only [hs]
    by_cases hv : s.nd = v
    · have hg : goS v s = true := by unfold goS; simp [hv, hm s hsm]
      have hc := cnt_erase (v := v) hs
      rw [if_pos hv] at hc
      have hlt : (n : Int) < 256 := by omega
      rw [if_pos ⟨hlt, hg⟩]
      obtain ⟨h1, h2⟩ := shrink_all (i := i) (n := n + 1) (v := v) (h.gone hs) (only_gone h hp hs) (fun z hz => hm z (List.mem_of_mem_eraseIdx hz)) (by simp only; omega) (by simp only [List.length_eraseIdx]; split <;> omega) (fun j z hij hz => by
        simp only at hz
        rw [List.getElem?_eraseIdx_of_ge hij] at hz
        exact hj (j + 1) z (by omega) hz)
      refine ⟨h1, fun z hz => ?_⟩
      obtain ⟨a1, a2, a3⟩ := h2 z hz
      exact ⟨a1, a2, List.mem_of_mem_eraseIdx a3⟩
    · have hg : ¬ ((n : Int) < 256 ∧ goS v s = true) := fun q => by
        have := q.2
        unfold goS at this
        simp [hv] at this
      rw [if_neg hg]
      exact shrink_all (i := i) h hp hm hn (by omega) fun j z hij hz => by
        by_cases q : j = i
        · subst q; rw [hs] at hz; obtain rfl := Option.some.inj hz; exact hv
        · exact hj j z (by omega) hz
/-- a node of which no slab is: all its pages are free -/
theorem free_all {e : Nat} {c : Ca} (h : InvC e c) (hp : OnlyP c) {i : Nat} {x : Nd} (hx : c.L[i]? = some x) (hn : ∀ s ∈ c.C, s.nd ≠ i) : sumL x.F = x.n := by
  have hT : x.T = [] := by
    cases hq : x.T with
    | nil => rfl
    | cons p r =>
      obtain ⟨s, hs, h1, _⟩ := hp i x hx p (by rw [hq]; simp)
      exact absurd h1 (hn s hs)
  have hI := h.zi x (List.mem_of_getElem? hx)
  rw [hT] at hI
  rw [hI.whole]
  have h1 := hI.n1
  have := chain_sum (covL_chain x.n.toNat 0 x.n (Nat.le_refl _) (by omega))
  omega
end Go.Proofs.YtcokmiidgdmdlaaGreatDoor
