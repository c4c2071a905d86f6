/- Lemmas and contracts for the claim's last text: DPl, DB, DOps, DTake. -/
import Derived.Test.YtcokmiidgdmdlaaGreatDoorMo11
namespace Go.Proofs.YtcokmiidgdmdlaaGreatDoor
set_option linter.unusedSimpArgs false
set_option linter.unusedVariables false

section
variable {e : Nat} {c : Ca}
theorem obsC_at {C : List Sl} {x : Ob} : x ∈ obsC e C ↔ ∃ (i : Nat) (s : Sl) (k : Nat), C[i]? = some s ∧ s.T[k]? = some true ∧ x = obOf e s k := by
  rw [obsC_mem]
  constructor
  · rintro ⟨s, hs, k, hk, rfl⟩
    obtain ⟨i, hi, rfl⟩ := List.mem_iff_getElem.1 hs
    exact ⟨i, _, k, List.getElem?_eq_getElem hi, hk, rfl⟩
  · rintro ⟨i, s, k, hs, hk, rfl⟩
    exact ⟨s, List.mem_of_getElem? hs, k, hk, rfl⟩
theorem ob_pg (e1 : 1 ≤ e) {s : Sl} (hl : s.T.length = roomE e) {k : Nat} (hk : k < s.T.length) : 0 ≤ (k : Int) * e ∧ (k : Int) * e + e ≤ 64 := by
  rw [hl] at hk
  have h1 : (k + 1) * e ≤ 64 := Nat.le_trans (Nat.mul_le_mul_right e (show k + 1 ≤ roomE e by omega)) (Nat.div_mul_le_self 64 e)
  have h2 : ((k : Int) + 1) * e ≤ 64 := by exact_mod_cast h1
  rw [Int.add_mul, Int.one_mul] at h2
  exact ⟨Int.mul_nonneg (by omega) (by omega), h2⟩
theorem mul_inj {e k k' : Nat} (e1 : 1 ≤ e) (h : (k : Int) * e = (k' : Int) * e) : k = k' := by
  have h2 : k * e = k' * e := by exact_mod_cast h
  exact Nat.eq_of_mul_eq_mul_right (by omega) h2
theorem ob_at (h : InvC e c) {i j : Nat} {s t : Sl} {k k' : Nat} (hs : c.C[i]? = some s) (ht : c.C[j]? = some t) (hk : k < s.T.length) (hk' : k' < t.T.length) (heq : obOf e s k = obOf e t k') : i = j ∧ k = k' := by
  have e1 := h.e1
  have a := ob_pg e1 (h.len s (List.mem_of_getElem? hs)) hk
  have b := ob_pg e1 (h.len t (List.mem_of_getElem? ht)) hk'
  unfold obOf at heq
  injection heq with q1 q2
  have hi := (List.getElem?_eq_some_iff.1 hs)
  have hj := (List.getElem?_eq_some_iff.1 ht)
  obtain ⟨li, ei⟩ := hi
  obtain ⟨lj, ej⟩ := hj
  have hp : s.pg = t.pg := by omega
  have hij : i = j := by
    rcases Nat.lt_trichotomy i j with q | q | q
    · have := List.pairwise_iff_getElem.1 h.srt i j li lj q
      rw [ei, ej] at this
      unfold ltS ltP at this; omega
    · exact q
    · have := List.pairwise_iff_getElem.1 h.srt j i lj li q
      rw [ei, ej] at this
      unfold ltS ltP at this; omega
  refine ⟨hij, mul_inj e1 ?_⟩
  omega
theorem obs_set (h : InvC e c) {i : Nat} {s : Sl} (hs : c.C[i]? = some s) {k : Nat} (hk : k < s.T.length) (b : Bool) (x : Ob) :
    x ∈ obsC e (c.C.set i (useS s k b)) ↔ (x = obOf e s k ∧ b = true) ∨ (x ∈ obsC e c.C ∧ x ≠ obOf e s k) := by
  have hil := (List.getElem?_eq_some_iff.1 hs).1
  rw [obsC_at]
  constructor
  · rintro ⟨j, z, m, hz, hm, rfl⟩
    by_cases hij : i = j
    · subst hij
      rw [List.getElem?_set_self hil] at hz
      obtain rfl := Option.some.inj hz
      simp only [useS] at hm
      by_cases hmk : k = m
      · subst hmk
        rw [List.getElem?_set_self hk] at hm
        exact .inl ⟨rfl, Option.some.inj hm⟩
      · rw [List.getElem?_set_ne hmk] at hm
        refine .inr ⟨obsC_at.2 ⟨i, s, m, hs, hm, rfl⟩, fun q => hmk ?_⟩
        exact (ob_at h hs hs hk (List.getElem?_eq_some_iff.1 hm).1 (show obOf e s k = obOf e s m from q.symm)).2
    · rw [List.getElem?_set_ne hij] at hz
      refine .inr ⟨obsC_at.2 ⟨j, z, m, hz, hm, rfl⟩, fun q => hij ?_⟩
      exact (ob_at h hs hz hk (List.getElem?_eq_some_iff.1 hm).1 q.symm).1
  · rintro (⟨rfl, rfl⟩ | ⟨hx, hne⟩)
    · exact ⟨i, useS s k true, k, List.getElem?_set_self hil, by simp only [useS]; exact List.getElem?_set_self hk, rfl⟩
    · obtain ⟨j, z, m, hz, hm, rfl⟩ := obsC_at.1 hx
      by_cases hij : i = j
      · subst hij
        rw [hs] at hz
        obtain rfl := Option.some.inj hz
        have hmk : k ≠ m := fun q => hne (by rw [q])
        exact ⟨i, useS s k b, m, List.getElem?_set_self hil, by simp only [useS]; rw [List.getElem?_set_ne hmk]; exact hm, rfl⟩
      · exact ⟨j, z, m, by rw [List.getElem?_set_ne hij]; exact hz, hm, rfl⟩
theorem give_obs (h : InvC e c) {o : Ob} (x : Ob) : x ∈ obsC e (giveC e c o).1.C ↔ x ∈ obsC e c.C ∧ x ≠ o := by
  cases hf : findS e o c.C with
  | none =>
    have : (giveC e c o).1 = c := by unfold giveC; rw [hf]
    rw [this]
    refine ⟨fun hx => ⟨hx, fun q => ?_⟩, And.left⟩
    subst q
    obtain ⟨i, s, k, hs, hk, rfl⟩ := obsC_at.1 hx
    have h1 := findS_none hf s (List.mem_of_getElem? hs)
    have h2 : hasS e (obOf e s k) s = true := (hasS_iff h.e1).2 ⟨by rw [kOf_uniq h.e1 rfl]; exact hk, by rw [kOf_uniq h.e1 rfl]⟩
    rw [h1] at h2; cases h2
  | some i =>
    obtain ⟨s, hs, hh, _⟩ := findS_some hf
    obtain ⟨k1, k2⟩ := (hasS_iff h.e1).1 hh
    have : (giveC e c o).1.C = c.C.set i (useS s (kOf e o s) false) := by unfold giveC; rw [hf]; simp only [hs]
    rw [this, obs_set h hs (List.getElem?_eq_some_iff.1 k1).1]
    rw [← k2]
    simp
theorem take_obs {mn : Int} {O : List (List Int)} (hO : OrdZ O c.L.length) (h : InvC e c) (v : Int) (u : Bool) :
    ((takeC mn O e c v u).2.1 = 0 ∧ (takeC mn O e c v u).2.2 ∉ obsC e c.C ∧ ∀ x, x ∈ obsC e (takeC mn O e c v u).1.C ↔ x = (takeC mn O e c v u).2.2 ∨ x ∈ obsC e c.C) ∨
    ((takeC mn O e c v u).2.1 ≠ 0 ∧ (takeC mn O e c v u).1.C = c.C) := by
  have hI' := takeC_inv (mn := mn) (v := v) (u := u) hO h
  revert hI'
  unfold takeC
  by_cases hv : v < 0 ∨ (c.L.length : Int) ≤ v
  · rw [if_pos hv]; intro _; exact .inr ⟨by simp, rfl⟩
  rw [if_neg hv]
  cases hb : bestS v c.C c.C.length with
  | some i =>
    obtain ⟨_, s, hs, _, hm⟩ := bestS_some hb
    simp only [hs]
    intro _
    obtain ⟨f1, f2, _⟩ := freeAt_spec (T := s.T) hm
    refine .inl ⟨trivial, fun hx => ?_, fun x => ?_⟩
    · obtain ⟨j, z, m, hz, hm', he⟩ := obsC_at.1 hx
      obtain ⟨q1, q2⟩ := ob_at h hs hz f1 (List.getElem?_eq_some_iff.1 hm').1 he
      subst q1 q2
      rw [hs] at hz
      obtain rfl := Option.some.inj hz
      rw [f2] at hm'
      cases hm'
    · rw [obs_set h hs f1]
      constructor
      · rintro (⟨q, _⟩ | ⟨q, _⟩)
        · exact .inl q
        · exact .inr q
      · rintro (q | q)
        · exact .inl ⟨q, rfl⟩
        · by_cases hq : x = obOf e s (freeAt s.T)
          · exact .inl ⟨hq, rfl⟩
          · exact .inr ⟨q, hq⟩
  | none =>
    simp only
    by_cases hz : (takeZ mn O c.L v 0 u).2.1 = 0
    · rw [if_pos hz]
      intro hI'
      generalize hnd : (takeZ mn O c.L v 0 u).2.2.1 = nd at *
      generalize hpg : (takeZ mn O c.L v 0 u).2.2.2.1 = pg at *
      generalize (takeZ mn O c.L v 0 u).1 = L' at *
      have e1 := h.e1
      have hr := roomE_pos h.e1 h.e2
      have hnl : (noneT e).length = roomE e := by unfold noneT; simp
      have hob : ∀ x, x ∈ obsS e (useS ⟨nd, pg, noneT e⟩ 0 true) ↔ x = (nd, pg * 64) := fun x => by
        rw [obsS_mem]
        constructor
        · rintro ⟨k, hk, rfl⟩
          simp only [useS] at hk
          by_cases hk0 : k = 0
          · subst hk0; simp [obOf, useS]
          · rw [List.getElem?_set_ne (Ne.symm hk0)] at hk
            unfold noneT at hk
            rw [List.getElem?_replicate] at hk
            split at hk <;> simp at hk
        · rintro rfl
          exact ⟨0, by simp only [useS]; exact List.getElem?_set_self (by rw [hnl]; exact hr), by simp [obOf, useS]⟩
      refine .inl ⟨rfl, fun hx => ?_, fun x => ?_⟩
      · obtain ⟨z, hzm, m, hm, he⟩ := obsC_mem.1 hx
        have hs := hI'.srt
        have hz' := (mem_insS (C := c.C) (s := useS ⟨nd, pg, noneT e⟩ 0 true)).2 (.inr hzm)
        have hp := ob_page e1 (h.len z hzm) hm
        rw [← he] at hp
        simp only at hp
        have hpg2 : z.pg = pg := by omega
        have hnd2 : z.nd = nd := by omega
        unfold insS at hs
        obtain ⟨s1, s2, s3⟩ := List.pairwise_append.1 hs
        rw [← List.take_append_drop (posS (useS ⟨nd, pg, noneT e⟩ 0 true).nd (useS ⟨nd, pg, noneT e⟩ 0 true).pg c.C) c.C] at hzm
        rcases List.mem_append.1 hzm with q | q
        · have := s3 z q _ (List.mem_cons_self ..)
          unfold ltS ltP at this
          simp only [useS] at this
          omega
        · have := (List.pairwise_cons.1 s2).1 z q
          unfold ltS ltP at this
          simp only [useS] at this
          omega
      · constructor
        · intro hx
          obtain ⟨z, hzm, m, hm, he⟩ := obsC_mem.1 hx
          rcases mem_insS.1 hzm with q | q
          · exact .inl ((hob x).1 (obsS_mem.2 ⟨m, by rw [← q]; exact hm, by rw [← q]; exact he⟩))
          · exact .inr (obsC_mem.2 ⟨z, q, m, hm, he⟩)
        · rintro (q | q)
          · obtain ⟨m, hm, he⟩ := obsS_mem.1 ((hob x).2 q)
            exact obsC_mem.2 ⟨_, mem_insS.2 (.inl rfl), m, hm, he⟩
          · obtain ⟨z, hzm, m, hm, he⟩ := obsC_mem.1 q
            exact obsC_mem.2 ⟨z, mem_insS.2 (.inr hzm), m, hm, he⟩
    · rw [if_neg hz]
      intro _
      exact .inr ⟨hz, rfl⟩
/-- all of some objects given back -/
def backC (e : Nat) (c : Ca) (l : List Ob) : Ca := l.foldl (fun c o => (giveC e c o).1) c
theorem backC_app (l m : List Ob) : backC e c (l ++ m) = backC e (backC e c l) m := by unfold backC; rw [List.foldl_append]
theorem backC_inv : ∀ {l : List Ob} {c : Ca}, InvC e c → InvC e (backC e c l) ∧ (backC e c l).L = c.L ∧ ∀ x, x ∈ obsC e (backC e c l).C ↔ x ∈ obsC e c.C ∧ x ∉ l
  | [], c, h => ⟨h, rfl, fun x => by simp [backC]⟩
  | o :: l, c, h => by
    obtain ⟨h1, h2, h3⟩ := backC_inv (l := l) (giveC_inv (o := o) h)
    refine ⟨h1, h2.trans (giveC_same e c o), fun x => ?_⟩
    show x ∈ obsC e (backC e (giveC e c o).1 l).C ↔ _
    rw [h3 x, give_obs h]
    simp
    constructor
    · rintro ⟨⟨a, b⟩, d⟩; exact ⟨a, b, d⟩
    · rintro ⟨a, b, d⟩; exact ⟨⟨a, b⟩, d⟩
end

/-- a worker's hand: its loaded magazine, its other one -/
abbrev Hd := List Ob × List Ob
structure De where
  c : Ca
  H : List Hd
  P : List (List Ob)
/-- a magazine to take from: the loaded one, the other one, one of the pile -/
def loadD (h : Hd) (P : List (List Ob)) : Hd × List (List Ob) :=
  if h.1 = [] then (if h.2 = [] then (match P.getLast? with | some m => ((m, []), P.dropLast) | none => (h, P)) else ((h.2, []), P)) else (h, P)
/-- a magazine to lay into -/
def fillD (h : Hd) (P : List (List Ob)) : Hd × List (List Ob) :=
  if h.1.length = 4 then (if h.2 = [] then (([], h.1), P) else (([], h.2), P ++ [h.1])) else (h, P)
def handD (d : De) (k : Int) : Option Hd := if k < 0 then none else d.H[k.toNat]?
def heldH (H : List Hd) : List Ob := H.flatMap fun h => h.1 ++ h.2
def held (d : De) : List Ob := heldH d.H ++ d.P.flatten
def outD (e : Nat) (d : De) (o : Ob) : Bool := decide (o ∈ obsC e d.c.C) && !decide (o ∈ held d)
def takeD (mn : Int) (O : List (List Int)) (e : Nat) (d : De) (k v : Int) (u : Bool) : De × Nat × Ob := match handD d k with
  | none => (d, 2, (0, 0))
  | some h => match (loadD h d.P).1.1.getLast? with
    | some o => (⟨d.c, d.H.set k.toNat ((loadD h d.P).1.1.dropLast, (loadD h d.P).1.2), (loadD h d.P).2⟩, 0, o)
    | none => (⟨(takeC mn O e d.c v u).1, d.H, d.P⟩, (takeC mn O e d.c v u).2.1, (takeC mn O e d.c v u).2.2)
def giveD (e : Nat) (d : De) (k : Int) (o : Ob) : De × Nat := match handD d k with
  | none => (d, 2)
  | some h => if outD e d o = true then (⟨d.c, d.H.set k.toNat ((fillD h d.P).1.1 ++ [o], (fillD h d.P).1.2), (fillD h d.P).2⟩, 0) else (d, 9)
def drainD (e : Nat) (d : De) (k : Int) : De × Nat × Nat := match handD d k with
  | none => (d, 2, 0)
  | some h => (⟨backC e d.c (h.1 ++ h.2), d.H.set k.toNat ([], []), d.P⟩, 0, (h.1 ++ h.2).length)
def emptyD (e : Nat) (d : De) : De × Nat := (⟨backC e d.c d.P.flatten, d.H, []⟩, d.P.flatten.length)

structure InvD (e : Nat) (d : De) : Prop where
  c : InvC e d.c
  hl : 1 ≤ d.H.length ∧ d.H.length ≤ 4
  sub : ∀ o ∈ held d, o ∈ obsC e d.c.C
  nd : (held d).Nodup
  h4 : ∀ h ∈ d.H, h.1.length ≤ 4 ∧ h.2.length ≤ 4
  p4 : ∀ m ∈ d.P, m.length = 4
theorem handD_some {d : De} {k : Int} {h : Hd} (q : handD d k = some h) : 0 ≤ k ∧ d.H[k.toNat]? = some h ∧ k.toNat < d.H.length ∧ (k.toNat : Int) = k := by
  unfold handD at q
  split at q
  · cases q
  · exact ⟨by omega, q, (List.getElem?_eq_some_iff.1 q).1, by omega⟩
theorem handD_none {d : De} {k : Int} (q : handD d k = none) : k < 0 ∨ (d.H.length : Int) ≤ k := by
  unfold handD at q
  split at q
  · exact .inl ‹_›
  · have := List.getElem?_eq_none_iff.1 q
    exact .inr (by omega)
theorem heldH_cnt (a : Ob) : ∀ {H : List Hd} {k : Nat} {h : Hd} (g : Hd), H[k]? = some h → (heldH (H.set k g)).count a + h.1.count a + h.2.count a = (heldH H).count a + g.1.count a + g.2.count a
  | [], k, h, g, q => by simp at q
  | b :: H, 0, h, g, q => by
    simp at q; subst q
    show ((g.1 ++ g.2) ++ heldH H).count a + _ + _ = ((b.1 ++ b.2) ++ heldH H).count a + _ + _
    simp only [List.count_append]; omega
  | b :: H, k + 1, h, g, q => by
    have ih := heldH_cnt a (H := H) (k := k) g (by simpa using q)
    show ((b.1 ++ b.2) ++ heldH (H.set k g)).count a + _ + _ = ((b.1 ++ b.2) ++ heldH H).count a + _ + _
    simp only [List.count_append] at ih ⊢; omega
theorem heldH_le (a : Ob) : ∀ {H : List Hd} {k : Nat} {h : Hd}, H[k]? = some h → h.1.count a + h.2.count a ≤ (heldH H).count a
  | [], k, h, q => by simp at q
  | b :: H, 0, h, q => by
    simp at q; subst q
    show _ ≤ ((b.1 ++ b.2) ++ heldH H).count a
    simp only [List.count_append]; omega
  | b :: H, k + 1, h, q => by
    have ih := heldH_le a (H := H) (k := k) (h := h) (by simpa using q)
    show _ ≤ ((b.1 ++ b.2) ++ heldH H).count a
    simp only [List.count_append] at ih ⊢; omega
theorem loadD_cnt (a : Ob) (h : Hd) (P : List (List Ob)) : (loadD h P).1.1.count a + (loadD h P).1.2.count a + (loadD h P).2.flatten.count a = h.1.count a + h.2.count a + P.flatten.count a := by
  unfold loadD
  split
  · rename_i q1
    split
    · rename_i q2
      split
      · rename_i m q3
        obtain ⟨ys, rfl⟩ := List.getLast?_eq_some_iff.1 q3
        simp [q1, q2, List.count_append]
        omega
      · rfl
    · simp [q1]
  · rfl
theorem fillD_cnt (a : Ob) (h : Hd) (P : List (List Ob)) : (fillD h P).1.1.count a + (fillD h P).1.2.count a + (fillD h P).2.flatten.count a = h.1.count a + h.2.count a + P.flatten.count a := by
  unfold fillD
  split
  · split
    · rename_i q2
      simp [q2]
    · simp [List.count_append]; omega
  · rfl
theorem loadD_len {h : Hd} {P : List (List Ob)} (h1 : h.1.length ≤ 4 ∧ h.2.length ≤ 4) (hp : ∀ m ∈ P, m.length = 4) : ((loadD h P).1.1.length ≤ 4 ∧ (loadD h P).1.2.length ≤ 4) ∧ ∀ m ∈ (loadD h P).2, m.length = 4 := by
  unfold loadD
  split
  · split
    · split
      · rename_i m q3
        have := hp m (List.mem_of_getLast? q3)
        exact ⟨⟨by simp; omega, by simp⟩, fun x hx => hp x (List.dropLast_subset _ hx)⟩
      · exact ⟨h1, hp⟩
    · exact ⟨⟨h1.2, by simp⟩, hp⟩
  · exact ⟨h1, hp⟩
theorem fillD_len {h : Hd} {P : List (List Ob)} (h1 : h.1.length ≤ 4 ∧ h.2.length ≤ 4) (hp : ∀ m ∈ P, m.length = 4) : ((fillD h P).1.1.length ≤ 3 ∧ (fillD h P).1.2.length ≤ 4) ∧ ∀ m ∈ (fillD h P).2, m.length = 4 := by
  unfold fillD
  split
  · rename_i q
    split
    · exact ⟨⟨by simp, by simp [q]⟩, hp⟩
    · refine ⟨⟨by simp, h1.2⟩, fun x hx => ?_⟩
      rcases List.mem_append.1 hx with r | r
      · exact hp x r
      · simp at r; subst r; exact q
  · exact ⟨⟨by show h.1.length ≤ 3; omega, h1.2⟩, hp⟩
theorem InvD.of {e : Nat} {d : De} (c : InvC e d.c) (hl : 1 ≤ d.H.length ∧ d.H.length ≤ 4) (hs : ∀ a, (held d).count a ≤ 1 ∧ ((held d).count a = 1 → a ∈ obsC e d.c.C)) (h4 : ∀ h ∈ d.H, h.1.length ≤ 4 ∧ h.2.length ≤ 4) (p4 : ∀ m ∈ d.P, m.length = 4) : InvD e d :=
  ⟨c, hl, fun o ho => (hs o).2 (by have := (hs o).1; have := List.count_pos_iff.2 ho; omega), List.nodup_iff_count.2 fun a => (hs a).1, h4, p4⟩
theorem InvD.cnt {e : Nat} {d : De} (h : InvD e d) (a : Ob) : (held d).count a ≤ 1 ∧ (0 < (held d).count a → a ∈ obsC e d.c.C) := ⟨List.nodup_iff_count.1 h.nd a, fun q => h.sub a (List.count_pos_iff.1 q)⟩
theorem held_cnt (d : De) (a : Ob) : (held d).count a = (heldH d.H).count a + d.P.flatten.count a := by unfold held; rw [List.count_append]
section
variable {mn : Int} {O : List (List Int)} {e : Nat} {d : De} {k v : Int} {u : Bool} {o : Ob} {h : Hd}
theorem takeD_pop (hh : handD d k = some h) (hl : (loadD h d.P).1.1.getLast? = some o) : takeD mn O e d k v u = (⟨d.c, d.H.set k.toNat ((loadD h d.P).1.1.dropLast, (loadD h d.P).1.2), (loadD h d.P).2⟩, 0, o) := by
  unfold takeD; rw [hh]; simp only [hl]
theorem takeD_cache (hh : handD d k = some h) (hl : (loadD h d.P).1.1.getLast? = none) : takeD mn O e d k v u = (⟨(takeC mn O e d.c v u).1, d.H, d.P⟩, (takeC mn O e d.c v u).2.1, (takeC mn O e d.c v u).2.2) := by
  unfold takeD; rw [hh]; simp only [hl]
theorem takeD_bad (hh : handD d k = none) : takeD mn O e d k v u = (d, 2, (0, 0)) := by unfold takeD; rw [hh]
theorem pop_cnt (hh : handD d k = some h) (hl : (loadD h d.P).1.1.getLast? = some o) (a : Ob) : (held (takeD mn O e d k v u).1).count a + (if o = a then 1 else 0) = (held d).count a := by
  rw [takeD_pop hh hl, held_cnt, held_cnt]
  obtain ⟨_, h1, _⟩ := handD_some hh
  have c1 := heldH_cnt a ((loadD h d.P).1.1.dropLast, (loadD h d.P).1.2) h1
  have c2 := loadD_cnt a h d.P
  obtain ⟨ys, hy⟩ := List.getLast?_eq_some_iff.1 hl
  simp only [hy, List.dropLast_concat, List.count_append, List.count_singleton, beq_iff_eq] at c1 c2 ⊢
  by_cases q : o = a
  · simp only [q, if_true] at c2 ⊢; omega
  · simp only [q, if_false] at c2 ⊢; omega
theorem takeD_inv (hO : OrdZ O d.c.L.length) (hI : InvD e d) : InvD e (takeD mn O e d k v u).1 := by
  cases hh : handD d k with
  | none => rw [takeD_bad hh]; exact hI
  | some h =>
    cases hl : (loadD h d.P).1.1.getLast? with
    | some o =>
      have hc := pop_cnt (mn := mn) (O := O) (e := e) (v := v) (u := u) hh hl
      obtain ⟨k0, h1, h2, _⟩ := handD_some hh
      have hm := loadD_len (hI.h4 h (List.mem_of_getElem? h1)) hI.p4
      rw [takeD_pop hh hl] at hc ⊢
      refine InvD.of hI.c (by simpa using hI.hl) (fun a => ?_) (fun g hg => ?_) hm.2
      · obtain ⟨a1, a2⟩ := hI.cnt a
        have := hc a
        exact ⟨by omega, fun q => a2 (by omega)⟩
      · rcases List.mem_or_eq_of_mem_set hg with q | q
        · exact hI.h4 g q
        · subst q
          exact ⟨by simp; omega, hm.1.2⟩
    | none =>
      rw [takeD_cache hh hl]
      refine InvD.of (takeC_inv hO hI.c) hI.hl (fun a => ?_) hI.h4 hI.p4
      obtain ⟨a1, a2⟩ := hI.cnt a
      refine ⟨a1, fun q => ?_⟩
      have := a2 (by show 0 < (held d).count a; exact (by have : (held d).count a = 1 := q; omega))
      rcases take_obs (mn := mn) (O := O) hO hI.c v u with ⟨_, _, t⟩ | ⟨_, t⟩
      · exact (t a).2 (.inr this)
      · show a ∈ obsC e (takeC mn O e d.c v u).1.C
        rw [t]; exact this
theorem give_cnt (hh : handD d k = some h) (ho : outD e d o = true) (a : Ob) : (held (giveD e d k o).1).count a = (held d).count a + (if o = a then 1 else 0) := by
  unfold giveD
  rw [hh]
  simp only [ho, if_true]
  rw [held_cnt, held_cnt]
  obtain ⟨_, h1, _⟩ := handD_some hh
  have c1 := heldH_cnt a ((fillD h d.P).1.1 ++ [o], (fillD h d.P).1.2) h1
  have c2 := fillD_cnt a h d.P
  simp only [List.count_append, List.count_singleton, beq_iff_eq] at c1 c2 ⊢
  by_cases q : o = a
  · simp only [q, if_true] at c1 c2 ⊢; omega
  · simp only [q, if_false] at c1 c2 ⊢; omega
theorem outD_iff : outD e d o = true ↔ o ∈ obsC e d.c.C ∧ o ∉ held d := by unfold outD; simp
theorem giveD_inv (hI : InvD e d) : InvD e (giveD e d k o).1 := by
  cases hh : handD d k with
  | none =>
    have : giveD e d k o = (d, 2) := by unfold giveD; rw [hh]
    rw [this]; exact hI
  | some h =>
    by_cases ho : outD e d o = true
    · have hc := give_cnt hh ho
      obtain ⟨q1, q2⟩ := outD_iff.1 ho
      obtain ⟨k0, h1, h2, _⟩ := handD_some hh
      have hm := fillD_len (hI.h4 h (List.mem_of_getElem? h1)) hI.p4
      have he : giveD e d k o = (⟨d.c, d.H.set k.toNat ((fillD h d.P).1.1 ++ [o], (fillD h d.P).1.2), (fillD h d.P).2⟩, 0) := by unfold giveD; rw [hh]; simp only [ho, if_true]
      rw [he] at hc ⊢
      dsimp only at hc ⊢
      refine InvD.of hI.c (by simpa using hI.hl) (fun a => ?_) (fun g hg => ?_) hm.2
      · obtain ⟨a1, a2⟩ := hI.cnt a
        have := hc a
        by_cases q : o = a
        · subst q
          have z : (held d).count o = 0 := List.count_eq_zero.2 q2
          simp only [if_true] at this
          exact ⟨by omega, fun _ => q1⟩
        · simp only [q, if_false] at this
          exact ⟨by omega, fun r => a2 (by omega)⟩
      · rcases List.mem_or_eq_of_mem_set hg with q | q
        · exact hI.h4 g q
        · subst q
          exact ⟨by simp; omega, hm.1.2⟩
    · have he : giveD e d k o = (d, 9) := by unfold giveD; rw [hh]; simp only [ho]; rfl
      rw [he]; exact hI
theorem drainD_inv (hI : InvD e d) : InvD e (drainD e d k).1 := by
  cases hh : handD d k with
  | none =>
    have : drainD e d k = (d, 2, 0) := by unfold drainD; rw [hh]
    rw [this]; exact hI
  | some h =>
    obtain ⟨k0, h1, h2, _⟩ := handD_some hh
    have he : drainD e d k = (⟨backC e d.c (h.1 ++ h.2), d.H.set k.toNat ([], []), d.P⟩, 0, (h.1 ++ h.2).length) := by unfold drainD; rw [hh]
    rw [he]
    obtain ⟨b1, b2, b3⟩ := backC_inv (l := h.1 ++ h.2) hI.c
    refine InvD.of b1 (by simpa using hI.hl) (fun a => ?_) (fun g hg => ?_) hI.p4
    · obtain ⟨a1, a2⟩ := hI.cnt a
      have c1 := heldH_cnt a (([], []) : Hd) h1
      rw [held_cnt] at a1 a2 ⊢
      simp only [List.count_nil] at c1
      refine ⟨by simp only; omega, fun q => (b3 a).2 ⟨a2 (by simp only at q; omega), fun r => ?_⟩⟩
      have := List.count_pos_iff.2 r
      rw [List.count_append] at this
      simp only at q
      omega
    · rcases List.mem_or_eq_of_mem_set hg with q | q
      · exact hI.h4 g q
      · subst q; simp
theorem emptyD_inv (hI : InvD e d) : InvD e (emptyD e d).1 := by
  obtain ⟨b1, b2, b3⟩ := backC_inv (l := d.P.flatten) hI.c
  refine InvD.of b1 hI.hl (fun a => ?_) hI.h4 (fun m hm => by cases hm)
  obtain ⟨a1, a2⟩ := hI.cnt a
  rw [held_cnt] at a1 a2
  have : (held (emptyD e d).1).count a = (heldH d.H).count a := by rw [held_cnt]; simp [emptyD]
  rw [this]
  refine ⟨by omega, fun q => (b3 a).2 ⟨a2 (by omega), fun r => ?_⟩⟩
  have := List.count_pos_iff.2 r
  omega
theorem nodup_len : ∀ {l r : List Ob}, l.Nodup → (∀ x ∈ l, x ∈ r) → l.length ≤ r.length
  | [], r, _, _ => Nat.zero_le _
  | a :: l, r, h, hs => by
    obtain ⟨h1, h2⟩ := List.nodup_cons.1 h
    have ha := hs a (by simp)
    have := nodup_len (l := l) (r := r.erase a) h2 fun x hx => (List.mem_erase_of_ne (fun q => h1 (by rw [← q]; exact hx))).2 (hs x (List.mem_cons_of_mem _ hx))
    rw [List.length_erase_of_mem ha] at this
    have := List.length_pos_of_mem ha
    simp only [List.length_cons]; omega
theorem held_len (hI : InvD e d) : 4 * d.P.length ≤ (obsC e d.c.C).length ∧ (held d).length ≤ (obsC e d.c.C).length := by
  have h1 := nodup_len hI.nd hI.sub
  have h2 : ∀ {P : List (List Ob)}, (∀ m ∈ P, m.length = 4) → P.flatten.length = 4 * P.length := by
    intro P
    induction P with
    | nil => intro _; rfl
    | cons a P ih =>
      intro h
      simp only [List.flatten_cons, List.length_append, List.length_cons, ih fun m hm => h m (List.mem_cons_of_mem _ hm), h a (by simp)]
      omega
  have h3 : (held d).length = (heldH d.H).length + d.P.flatten.length := by unfold held; simp
  rw [h2 hI.p4] at h3
  omega
end
end Go.Proofs.YtcokmiidgdmdlaaGreatDoor

namespace Go.Proofs.YtcokmiidgdmdlaaGreatDoor
open Go.RowKit Go.Maps
set_option linter.unusedSimpArgs false
set_option linter.unusedVariables false

/-- v reads as these objects; it lies in no block of X -/
def RowO (X : List Nat) (w : World) (v : Value) (l : List Ob) : Prop :=
  ∃ p cap, v = .slice p l.length cap ∧ l.length ≤ cap ∧ cap ≤ maxLen ∧ ∀ j a k, l[j]? = some (a, k) → ∃ g off, p = some ⟨g, off, none⟩ ∧ g ∉ X ∧ g < w.heap.size ∧ w.cell? ⟨g, off + j * 2, none⟩ = some (.int .i64 a) ∧ w.cell? ⟨g, off + j * 2 + 1, none⟩ = some (.int .i64 k)
section
variable {X Y S : List Nat} {w w' : World} {v : Value} {l : List Ob}
theorem RowO.nil (X : List Nat) (w : World) : RowO X w (.slice none 0 0) [] := ⟨none, 0, rfl, Nat.le_refl _, Nat.zero_le _, fun j a k hj => by simp at hj⟩
theorem RowO.keep (h : RowO X w v l) (k : Keep S w w') (hs : ∀ s ∈ S, s ∈ X ∨ w.heap.size ≤ s) : RowO X w' v l := by
  obtain ⟨p, cap, h1, h2, h3, h4⟩ := h
  refine ⟨p, cap, h1, h2, h3, fun j a b hj => ?_⟩
  obtain ⟨g, off, e1, e2, e3, e4, e5⟩ := h4 j a b hj
  have hn : g ∉ S := fun q => by
    rcases hs g q with r | r
    · exact e2 r
    · omega
  exact ⟨g, off, e1, e2, Nat.lt_of_lt_of_le e3 k.size, (k.cell e3 hn).trans e4, (k.cell e3 hn).trans e5⟩
theorem RowO.below (h : RowO X w v l) (k : Below w.heap.size w w') : RowO X w' v l := h.keep (Keep.of (S := []) k) (fun _ q => by cases q)
theorem RowO.more (h : RowO X w v l) (hY : ∀ y ∈ Y, y ∈ X ∨ w.heap.size ≤ y) : RowO Y w v l := by
  obtain ⟨p, cap, h1, h2, h3, h4⟩ := h
  refine ⟨p, cap, h1, h2, h3, fun j a b hj => ?_⟩
  obtain ⟨g, off, e1, e2, e3, e4, e5⟩ := h4 j a b hj
  exact ⟨g, off, e1, fun q => by
    rcases hY g q with r | r
    · exact e2 r
    · omega, e3, e4, e5⟩
theorem RowO.cut (h : RowO X w v l) (n : Nat) (hn : n ≤ l.length) : ∃ p cap, v = .slice p l.length cap ∧ RowO X w (.slice p n cap) (l.take n) := by
  obtain ⟨p, cap, h1, h2, h3, h4⟩ := h
  have e : (l.take n).length = n := by rw [List.length_take]; omega
  refine ⟨p, cap, h1, p, cap, by rw [e], by omega, h3, fun j a b hj => ?_⟩
  rw [List.getElem?_take] at hj
  split at hj
  · exact h4 j a b hj
  · cases hj
theorem RowO.isSlice (h : RowO X w v l) : ∃ p cap, v = .slice p l.length cap ∧ l.length ≤ cap ∧ cap ≤ maxLen := by
  obtain ⟨p, cap, h1, h2, h3, _⟩ := h
  exact ⟨p, cap, h1, h2, h3⟩
theorem RowO.at {p : Option Addr} {n cap : Nat} (h : RowO X w (.slice p n cap) l) {j : Nat} {o : Ob} (hj : l[j]? = some o) : ∃ g off, p = some ⟨g, off, none⟩ ∧ g ∉ X ∧ g < w.heap.size ∧ w.cell? ⟨g, off + j * 2, none⟩ = some (.int .i64 o.1) ∧ w.cell? ⟨g, off + j * 2 + 1, none⟩ = some (.int .i64 o.2) := by
  obtain ⟨p', cap', h1, h2, h3, h4⟩ := h
  injection h1 with h1 _ _
  subst h1
  exact h4 j o.1 o.2 hj
theorem own_rowO {base : Nat} (h : w.ownsRow base 72 2 v l.length (encB l)) (hX : ∀ g, v.ownBlock = some g → g ∉ X) : RowO X w v l := by
  have ho := h
  obtain ⟨_, h2⟩ := h
  rcases h2 with ⟨rfl, h3⟩ | ⟨g, cap, cur, rfl, hg, hh, hcap, hmax, _⟩
  · have : l = [] := by
      cases l with
      | nil => rfl
      | cons b r => simp at h3
    subst this
    exact RowO.nil X w
  · refine ⟨some ⟨g, 0, none⟩, cap, rfl, hcap, hmax, fun j a k hj => ⟨g, 0, rfl, hX g rfl, (ho.lt g rfl).2, ?_⟩⟩
    have hlt : j < l.length := (List.getElem?_eq_some_iff.1 hj).1
    obtain ⟨e1, e2⟩ := encB_get l j a k hj
    rw [Nat.zero_add, ho.cellAt (j * 2) (by omega), ho.cellAt (j * 2 + 1) (by omega)]
    exact ⟨e1, e2⟩
end

/-- values of hands: two slices each -/
abbrev HV := List (Value × Value)
def handL (V : HV) : List Value := V.flatMap fun p => [p.1, p.2]
theorem handL_get : ∀ {V : HV} {j : Nat} {p : Value × Value}, V[j]? = some p → (handL V)[j * 2]? = some p.1 ∧ (handL V)[j * 2 + 1]? = some p.2
  | [], j, p, h => by simp at h
  | a :: V, 0, p, h => by simp at h; subst h; simp [handL]
  | a :: V, j + 1, p, h => by
    have ih := handL_get (V := V) (j := j) (p := p) (by simpa using h)
    have e : handL (a :: V) = a.1 :: a.2 :: handL V := by simp [handL]
    rw [e, show (j + 1) * 2 = j * 2 + 1 + 1 from by omega]
    simpa using ih
theorem handL_length (V : HV) : (handL V).length = V.length * 2 := by
  induction V with
  | nil => rfl
  | cons a V ih => simp [handL] at ih ⊢; omega
theorem handL_set : ∀ {V : HV} {j : Nat} (p : Value × Value), j < V.length → handL (V.set j p) = ((handL V).set (j * 2) p.1).set (j * 2 + 1) p.2
  | [], j, p, h => by simp at h
  | a :: V, 0, p, h => by simp [handL]
  | a :: V, j + 1, p, h => by
    have ih := handL_set (V := V) (j := j) p (by simpa using h)
    have e : ∀ U : HV, handL (a :: U) = a.1 :: a.2 :: handL U := fun U => by simp [handL]
    rw [List.set_cons_succ, e, e, show (j + 1) * 2 = j * 2 + 1 + 1 from by omega, ih]
    simp
theorem elPile : El 111 70 (.slice none 0 0) 24 := ⟨Tryz.underlying111, by kernel_rfl, rfl, by omega⟩

/-- the blocks that a depot writes, but for its cache's -/
def day (pd gh : Nat) (vp : Value) : List Nat := pd :: gh :: ownX vp
def xd (pc : Nat) (v : Value) (A : SA) (L : List Nd) (pd gh : Nat) (vp : Value) : List Nat := day pd gh vp ++ (cay pc v A ++ ys L)
/-- a depot in memory: its own blocks -/
structure DepB (X : List Nat) (B : Nat) (w : World) (pd pc gh : Nat) (V : HV) (vp : Value) (U : List Value) (H : List Hd) (P : List (List Ob)) : Prop where
  d : LocN w pd [.pointer (some ⟨pc, 0, none⟩), .slice (some ⟨gh, 0, none⟩) H.length H.length, vp]
  hs : LocN w gh (handL V)
  hl : V.length = H.length
  ho : ∀ (i : Nat) (p : Value × Value) (h : Hd), V[i]? = some p → H[i]? = some h → RowO X w p.1 h.1 ∧ RowO X w p.2 h.2
  row : w.ownsRow B 70 1 vp P.length U
  ul : U.length = P.length
  po : ∀ (i : Nat) (u : Value) (m : List Ob), U[i]? = some u → P[i]? = some m → RowO X w u m
  mem : ∀ y ∈ day pd gh vp, y ∈ X
  nd : (day pd gh vp).Nodup
  lim : ∀ y ∈ day pd gh vp, B ≤ y ∧ y < w.heap.size
/-- a depot in memory, its cache and its zone; X: the blocks that it writes -/
structure CD (B : Nat) (w : World) (X : List Nat) (pd pc pz gh : Nat) (mn lw hi : Int) (O : List (List Int)) (e : Nat) (v : Value) (A : SA) (V : HV) (vp : Value) (U : List Value) (d : De) : Prop where
  x : ∀ y ∈ xd pc v A d.c.L pd gh vp, y ∈ X
  lim : ∀ y ∈ X, B ≤ y ∧ y < w.heap.size
  cs : CS B w pc pz mn lw hi O e X v A d.c
  de : DepB X B w pd pc gh V vp U d.H d.P
  ne : ∀ y ∈ day pd gh vp, y ∉ cay pc v A ∧ y ∉ ys d.c.L
/-- .. some -/
def CDx (B : Nat) (w : World) (X F : List Nat) (pd pc pz gh : Nat) (mn lw hi : Int) (O : List (List Int)) (e : Nat) (d : De) : Prop := ∃ v A V vp U, CD B w X pd pc pz gh mn lw hi O e v A V vp U d ∧ ∀ f ∈ F, f ∈ X ∧ f ∉ xd pc v A d.c.L pd gh vp
section
variable {X Y S F : List Nat} {B : Nat} {w w' : World} {pd pc pz gh e : Nat} {mn lw hi : Int} {O : List (List Int)} {v v' vp vp' : Value} {A A' : SA} {V V' : HV} {U U' : List Value} {d d' : De} {H : List Hd} {P : List (List Ob)} {c c' : Ca}
theorem CS.sub (h : CS B w pc pz mn lw hi O e X v A c) (hY : ∀ y ∈ Y, y ∈ X) (h1 : ∀ y ∈ cay pc v A, y ∈ Y) (h2 : ∀ y ∈ ys c.L, y ∈ Y) : CS B w pc pz mn lw hi O e Y v A c := by
  obtain ⟨qn, kn, qo, ko, z1, z2, z3⟩ := h.z.z
  exact ⟨⟨⟨qn, kn, qo, ko, z1, z2.sub hY, z3.sub hY⟩, h.z.b, h2, fun q => h.z.out (hY _ q), fun x hx q => h.z.outb x hx (hY _ q), h.z.ord, h.z.m0⟩, ⟨h.ch.c, h.ch.row, h.ch.len, h.ch.sl, h1, h.ch.nd, h.ch.lim⟩, h.ne, h.l0⟩
theorem DepB.keep (h : DepB X B w pd pc gh V vp U H P) (k : Keep S w w') (hs : ∀ s ∈ S, s ∉ day pd gh vp ∧ (s ∈ X ∨ w.heap.size ≤ s)) : DepB X B w' pd pc gh V vp U H P :=
  ⟨h.d.keep k fun q => (hs _ q).1 (List.mem_cons_self ..), h.hs.keep k fun q => (hs _ q).1 (List.mem_cons_of_mem _ (List.mem_cons_self ..)), h.hl,
   fun i p g hp hg => ⟨(h.ho i p g hp hg).1.keep k fun s q => (hs s q).2, (h.ho i p g hp hg).2.keep k fun s q => (hs s q).2⟩,
   own_keep h.row k fun s q r => (hs s q).1 (List.mem_cons_of_mem _ (List.mem_cons_of_mem _ r)), h.ul, fun i u m hu hm => (h.po i u m hu hm).keep k fun s q => (hs s q).2, h.mem, h.nd,
   fun y hy => ⟨(h.lim y hy).1, Nat.lt_of_lt_of_le (h.lim y hy).2 k.size⟩⟩
theorem DepB.more (h : DepB X B w pd pc gh V vp U H P) (hY : ∀ y ∈ Y, y ∈ X ∨ w.heap.size ≤ y) (hm : ∀ y ∈ day pd gh vp, y ∈ Y) : DepB Y B w pd pc gh V vp U H P :=
  ⟨h.d, h.hs, h.hl, fun i p g hp hg => ⟨(h.ho i p g hp hg).1.more hY, (h.ho i p g hp hg).2.more hY⟩, h.row, h.ul, fun i u m hu hm' => (h.po i u m hu hm').more hY, hm, h.nd, h.lim⟩
theorem CD.limK (h : CD B w X pd pc pz gh mn lw hi O e v A V vp U d) (k : Keep S w w') : ∀ y ∈ X, B ≤ y ∧ y < w'.heap.size := fun y hy => ⟨(h.lim y hy).1, Nat.lt_of_lt_of_le (h.lim y hy).2 k.size⟩
theorem CD.below (h : CD B w X pd pc pz gh mn lw hi O e v A V vp U d) (k : Below w.heap.size w w') : CD B w' X pd pc pz gh mn lw hi O e v A V vp U d :=
  ⟨h.x, h.limK (Keep.of (S := []) k), h.cs.below k, h.de.keep (Keep.of (S := []) k) (fun _ q => by cases q), h.ne⟩
/-- X but for the foreign blocks -/
def off (X F : List Nat) : List Nat := X.filter fun x => !F.contains x
theorem off_mem {s : Nat} : s ∈ off X F ↔ s ∈ X ∧ s ∉ F := by unfold off; simp
theorem CD.offd (h : CD B w X pd pc pz gh mn lw hi O e v A V vp U d) (hF : ∀ f ∈ F, f ∈ X ∧ f ∉ xd pc v A d.c.L pd gh vp) {s : Nat} (hs : s ∈ xd pc v A d.c.L pd gh vp) : s ∈ off X F := off_mem.2 ⟨h.x s hs, fun q => (hF s q).2 hs⟩
theorem CD.offy (h : CD B w X pd pc pz gh mn lw hi O e v A V vp U d) (hF : ∀ f ∈ F, f ∈ X ∧ f ∉ xd pc v A d.c.L pd gh vp) {s : Nat} (hs : s ∈ day pd gh vp) : s ∈ off X F := h.offd hF (List.mem_append_left _ hs)
theorem CDx.lim (h : CDx B w X F pd pc pz gh mn lw hi O e d) : ∀ x ∈ X, B ≤ x ∧ x < w.heap.size := by
  obtain ⟨v, A, V, vp, U, h, _⟩ := h
  exact h.lim
theorem CDx.below (h : CDx B w X F pd pc pz gh mn lw hi O e d) (k : Below w.heap.size w w') : CDx B w' X F pd pc pz gh mn lw hi O e d := by
  obtain ⟨v, A, V, vp, U, h, hf⟩ := h
  exact ⟨v, A, V, vp, U, h.below k, hf⟩
theorem CD.add (h : CD B w X pd pc pz gh mn lw hi O e v A V vp U d) {w1 : World} (k : Below w.heap.size w w1) (hY : ∀ y ∈ Y, w.heap.size ≤ y ∧ y < w1.heap.size) (hB : B ≤ w.heap.size) : CD B w1 (Y ++ X) pd pc pz gh mn lw hi O e v A V vp U d := by
  have hm : ∀ y ∈ Y ++ X, y ∈ X ∨ w.heap.size ≤ y := fun y hy => by
    rcases List.mem_append.1 hy with q | q
    · exact .inr (hY y q).1
    · exact .inl q
  have h1 : CD B w (Y ++ X) pd pc pz gh mn lw hi O e v A V vp U d → CD B w1 (Y ++ X) pd pc pz gh mn lw hi O e v A V vp U d := fun q => q.below k
  refine ⟨fun y hy => List.mem_append_right _ (h.x y hy), fun y hy => ?_, (h.cs.more (fun x hx => List.mem_append_right _ hx) hm).below k, (h.de.more hm (fun y hy => List.mem_append_right _ (h.de.mem y hy))).keep (Keep.of (S := []) k) (fun _ q => by cases q), h.ne⟩
  rcases List.mem_append.1 hy with q | q
  · exact ⟨Nat.le_trans hB (hY y q).1, (hY y q).2⟩
  · exact ⟨(h.lim y q).1, Nat.lt_of_lt_of_le (h.lim y q).2 k.size⟩
theorem CD.other (h : CD B w X pd pc pz gh mn lw hi O e v A V vp U d) (k : Keep S w w') (hs : ∀ s ∈ S, (s ∈ X ∨ w.heap.size ≤ s) ∧ s ∉ xd pc v A d.c.L pd gh vp) : CD B w' X pd pc pz gh mn lw hi O e v A V vp U d := by
  have f1 : ∀ s ∈ S, s ∉ day pd gh vp := fun s q r => (hs s q).2 (List.mem_append_left _ r)
  have f2 : ∀ s ∈ S, s ∉ cay pc v A := fun s q r => (hs s q).2 (List.mem_append_right _ (List.mem_append_left _ r))
  have f3 : ∀ s ∈ S, s ∉ ys d.c.L := fun s q r => (hs s q).2 (List.mem_append_right _ (List.mem_append_right _ r))
  exact ⟨h.x, h.limK k, h.cs.keep k (fun s q => ⟨f2 s q, (hs s q).1.imp (fun r => ⟨r, f3 s q⟩) id⟩), h.de.keep k (fun s q => ⟨f1 s q, (hs s q).1⟩), h.ne⟩
theorem CD.cache (h : CD B w X pd pc pz gh mn lw hi O e v A V vp U d) (hc : CS B w' pc pz mn lw hi O e Y v' A' c') (k : Keep (cay pc v A ++ ys d.c.L) w w') (hY : ∀ x ∈ X, x ∈ Y) (hY2 : ∀ x ∈ Y, x ∈ X ∨ w.heap.size ≤ x) (hv : ∀ y ∈ cay pc v' A', y ∈ cay pc v A ∨ w.heap.size ≤ y) (hs : SameZ d.c.L c'.L) :
    CD B w' (X ++ xd pc v' A' c'.L pd gh vp) pd pc pz gh mn lw hi O e v' A' V vp U ⟨c', d.H, d.P⟩ ∧ (∀ x ∈ X ++ xd pc v' A' c'.L pd gh vp, x ∈ X ∨ w.heap.size ≤ x) := by
  have ey : ys c'.L = ys d.c.L := hs.ys
  have hd : ∀ y ∈ day pd gh vp, y ∈ X := h.de.mem
  have new : ∀ x ∈ X ++ xd pc v' A' c'.L pd gh vp, x ∈ X ∨ w.heap.size ≤ x := fun x hx => by
    rcases List.mem_append.1 hx with q | q
    · exact .inl q
    · rcases List.mem_append.1 q with q | q
      · exact .inl (hd x q)
      · rcases List.mem_append.1 q with q | q
        · rcases hv x q with r | r
          · exact .inl (h.cs.ch.mem x r)
          · exact .inr r
        · rw [ey] at q
          exact .inl (h.cs.z.mem x q)
  have inY : ∀ x ∈ X ++ xd pc v' A' c'.L pd gh vp, x ∈ Y := fun x hx => by
    rcases List.mem_append.1 hx with q | q
    · exact hY x q
    · rcases List.mem_append.1 q with q | q
      · exact hY x (hd x q)
      · rcases List.mem_append.1 q with q | q
        · exact hc.ch.mem x q
        · exact hc.z.mem x q
  have m1 := h.de.more (Y := X ++ xd pc v' A' c'.L pd gh vp) new (fun y q => List.mem_append_left _ (hd y q))
  have m2 := m1.keep k (fun s q => by
    rcases List.mem_append.1 q with r | r
    · exact ⟨fun t => (h.ne s t).1 r, .inl (List.mem_append_left _ (h.cs.ch.mem s r))⟩
    · exact ⟨fun t => (h.ne s t).2 r, .inl (List.mem_append_left _ (h.cs.z.mem s r))⟩)
  refine ⟨⟨fun y hy => List.mem_append_right _ hy, fun y hy => ?_, hc.sub inY (fun y hy => List.mem_append_right _ (List.mem_append_right _ (List.mem_append_left _ hy))) (fun y hy => List.mem_append_right _ (List.mem_append_right _ (List.mem_append_right _ hy))), m2, fun y hy => ⟨fun q => ?_, fun q => ?_⟩⟩, new⟩
  · rcases List.mem_append.1 hy with q | q
    · exact h.limK k y q
    · rcases List.mem_append.1 q with q | q
      · exact h.limK k y (hd y q)
      · rcases List.mem_append.1 q with q | q
        · exact hc.ch.lim y q
        · exact hc.z.b.lim y q
  · rcases hv y q with r | r
    · exact (h.ne y hy).1 r
    · have := (h.de.lim y hy).2; omega
  · rw [ey] at q
    exact (h.ne y hy).2 q
theorem CD.cacheF (h : CD B w X pd pc pz gh mn lw hi O e v A V vp U d) (hv : ∀ y ∈ cay pc v' A', y ∈ cay pc v A ∨ w.heap.size ≤ y) (hs : SameZ d.c.L c'.L) (hF : ∀ f ∈ F, f ∈ X ∧ f ∉ xd pc v A d.c.L pd gh vp) (hX : ∀ x ∈ X, x ∈ Y) :
    ∀ f ∈ F, f ∈ Y ∧ f ∉ xd pc v' A' c'.L pd gh vp := fun f hf => by
  obtain ⟨a1, a2⟩ := hF f hf
  refine ⟨hX f a1, fun q => ?_⟩
  rcases List.mem_append.1 q with r | r
  · exact a2 (List.mem_append_left _ r)
  · rcases List.mem_append.1 r with r | r
    · rcases hv f r with t | t
      · exact a2 (List.mem_append_right _ (List.mem_append_left _ t))
      · have := (h.lim f a1).2; omega
    · rw [hs.ys] at r
      exact a2 (List.mem_append_right _ (List.mem_append_right _ r))
theorem CD.pushF (h : CD B w X pd pc pz gh mn lw hi O e v A V vp U d) (hv : ∀ y ∈ ownX vp', y ∈ ownX vp ∨ w.heap.size ≤ y) (hF : ∀ f ∈ F, f ∈ X ∧ f ∉ xd pc v A d.c.L pd gh vp) (hX : ∀ x ∈ X, x ∈ Y) :
    ∀ f ∈ F, f ∈ Y ∧ f ∉ xd pc v A d.c.L pd gh vp' := fun f hf => by
  obtain ⟨a1, a2⟩ := hF f hf
  refine ⟨hX f a1, fun q => ?_⟩
  rcases List.mem_append.1 q with r | r
  · rcases List.mem_cons.1 r with rfl | r
    · exact a2 (List.mem_append_left _ (List.mem_cons_self ..))
    · rcases List.mem_cons.1 r with rfl | r
      · exact a2 (List.mem_append_left _ (List.mem_cons_of_mem _ (List.mem_cons_self ..)))
      · rcases hv f r with t | t
        · exact a2 (List.mem_append_left _ (List.mem_cons_of_mem _ (List.mem_cons_of_mem _ t)))
        · have := (h.lim f a1).2; omega
  · exact a2 (List.mem_append_right _ r)
end
end Go.Proofs.YtcokmiidgdmdlaaGreatDoor

namespace Go.Proofs.YtcokmiidgdmdlaaGreatDoor
open Go.RowKit Go.Maps
set_option linter.unusedSimpArgs false
set_option linter.unusedVariables false

section
variable {X Y S : List Nat} {B : Nat} {ev : Nat → Addr} {w w' : World} {pd pc pz gh e : Nat} {mn lw hi : Int} {O : List (List Int)} {v vp : Value} {A : SA} {V : HV} {U : List Value} {d : De} {c : Ca}
def nilH : Value × Value := (.slice none 0 0, .slice none 0 0)
set_option maxHeartbeats 1000000 in
set_option maxRecDepth 100000 in
theorem dnew_ok (pc : Nat) (n : Nat) (w : World) (n1 : 1 ≤ n) (n4 : n ≤ 4) :
    Calls Tryz.prog 32 #[.pointer (some ⟨pc, 0, none⟩), .int .i64 n] w fun r w' => r = .returned (.tuple #[.pointer (some ⟨w.heap.size + 1, 0, none⟩), .nilIface]) ∧ w' = (w.alloc (.cells (handL (List.replicate n nilH)).toArray 157)).alloc (.cells #[.pointer (some ⟨pc, 0, none⟩), .slice (some ⟨w.heap.size, 0, none⟩) n n, .slice none 0 0] 152) := by
  have h : n = 1 ∨ n = 2 ∨ n = 3 ∨ n = 4 := by omega
  have em : madeCells (Value.agg #[.slice none 0 0, .slice none 0 0]).cells (n * 2) = (handL (List.replicate n nilH)).toArray := by rcases h with rfl | rfl | rfl | rfl <;> kernel_rfl
  have MK : ∀ W : World, (Instr.makeSlice 150 (.int .i64 (n : Nat)) (.int .i64 (n : Nat))).run Tryz.prog W = .ok (.slice (some ⟨W.heap.size, 0, none⟩) n n) (W.alloc (.cells (handL (List.replicate n nilH)).toArray 157)) := fun W => by
    obtain ⟨i0, hi0, hz0, hzs, hzb⟩ := info_parts (P := Tryz.prog) (e := 157) (z := .agg #[.slice none 0 0, .slice none 0 0]) (size := 2) (bytes := 48) (by kernel_rfl)
    have := run_make (P := Tryz.prog) W 150 157 i0 _ Tryz.underlying150 hi0 hz0 .i64 .i64 (n : Nat) (n : Nat) (by omega) (Int.le_refl _) (by rw [hzb]; omega) (by omega)
    rw [this, hzs, ← em]
    simp only [Int.toNat_natCast]
  rcases h with rfl | rfl | rfl | rfl
  · have MK' : (Instr.makeSlice 150 (.int .i64 1) (.int .i64 1)).run Tryz.prog w = .ok (.slice (some ⟨w.heap.size, 0, none⟩) 1 1) (w.alloc (.cells (handL (List.replicate 1 nilH)).toArray 157)) := MK w
    clear MK em
    go_enter Tryz.func32, Tryz.ntmps32
    go_wp2
    go_ret2
    exact ⟨rfl, rfl⟩
  · have MK' : (Instr.makeSlice 150 (.int .i64 2) (.int .i64 2)).run Tryz.prog w = .ok (.slice (some ⟨w.heap.size, 0, none⟩) 2 2) (w.alloc (.cells (handL (List.replicate 2 nilH)).toArray 157)) := MK w
    clear MK em
    go_enter Tryz.func32, Tryz.ntmps32
    go_wp2
    go_ret2
    exact ⟨rfl, rfl⟩
  · have MK' : (Instr.makeSlice 150 (.int .i64 3) (.int .i64 3)).run Tryz.prog w = .ok (.slice (some ⟨w.heap.size, 0, none⟩) 3 3) (w.alloc (.cells (handL (List.replicate 3 nilH)).toArray 157)) := MK w
    clear MK em
    go_enter Tryz.func32, Tryz.ntmps32
    go_wp2
    go_ret2
    exact ⟨rfl, rfl⟩
  · have MK' : (Instr.makeSlice 150 (.int .i64 4) (.int .i64 4)).run Tryz.prog w = .ok (.slice (some ⟨w.heap.size, 0, none⟩) 4 4) (w.alloc (.cells (handL (List.replicate 4 nilH)).toArray 157)) := MK w
    clear MK em
    go_enter Tryz.func32, Tryz.ntmps32
    go_wp2
    go_ret2
    exact ⟨rfl, rfl⟩
set_option maxHeartbeats 1000000 in
theorem dnew_err (pc : Nat) (n : Int) (w : World) (hE : ErrC B ev w) (hn : n < 1 ∨ 4 < n) :
    Calls Tryz.prog 32 #[.pointer (some ⟨pc, 0, none⟩), .int .i64 n] w fun r w' => r = .returned (.tuple #[.pointer none, errV ev 2]) ∧ Below w.heap.size w w' := by
  have r2 := hE.c2
  have e1 : errV ev 2 = .iface 291 (.pointer (some (ev 2))) := rfl
  have l2 := Nat.lt_of_lt_of_le hE.l2 hE.size
  rw [e1] at r2 ⊢
  clear hE
  by_cases h1 : n < 1
  · have d1 : decide (n < 1) = true := decide_eq_true h1
    go_enter Tryz.func32, Tryz.ntmps32
    go_wp2_with fail
    go_quiet (fail)
    go_wp2
    go_ret2
    exact ⟨rfl, (by repeat (first | exact Below.refl _ _ | refine Below.drew ?_ | refine below_drewN ?_ _ | refine Below.trans ?_ (Below.mono (by assumption) (by first | omega | (simp; omega) | (simp; done))) | refine Below.alloc ?_ (by first | omega | (simp; omega) | (simp; done)) _ | refine Below.setCell ?_ (by first | omega | (simp; omega) | (simp; done)) _))⟩
  · have d1 : decide (n < 1) = false := decide_eq_false h1
    have d2 : decide (4 < n) = true := decide_eq_true (by omega)
    go_enter Tryz.func32, Tryz.ntmps32
    go_wp2_with fail
    go_quiet (fail)
    go_wp2
    go_ret2
    exact ⟨rfl, (by repeat (first | exact Below.refl _ _ | refine Below.drew ?_ | refine below_drewN ?_ _ | refine Below.trans ?_ (Below.mono (by assumption) (by first | omega | (simp; omega) | (simp; done))) | refine Below.alloc ?_ (by first | omega | (simp; omega) | (simp; done)) _ | refine Below.setCell ?_ (by first | omega | (simp; omega) | (simp; done)) _))⟩
set_option maxHeartbeats 1000000 in
theorem dhand_ok (h : CD B w X pd pc pz gh mn lw hi O e v A V vp U d) (k : Nat) (hk : k < d.H.length) :
    Calls Tryz.prog 85 #[.pointer (some ⟨pd, 0, none⟩), .int .i64 k] w fun r w' => r = .returned (.tuple #[.pointer (some ⟨gh, k * 2, none⟩), .nilIface]) ∧ w' = w := by
  have c0 := h.de.d.c 0 _ rfl; have c1 := h.de.d.c 1 _ rfl; have cl := h.de.d.lt
  obtain ⟨n, hn⟩ : ∃ n, n = d.H.length := ⟨_, rfl⟩
  rw [← hn] at c1 hk
  have h0 : decide ((k : Int) < 0) = false := decide_eq_false (by omega)
  have h1 : decide ((n : Int) ≤ k) = false := decide_eq_false (by omega)
  have h2 : (k : Int) < n := by omega
  clear h hn
  go_enter Tryz.func85, Tryz.ntmps85
  go_wp2
  go_ret2
  exact ⟨rfl, rfl⟩
set_option maxHeartbeats 1000000 in
theorem dhand_err (hE : ErrC B ev w) (h : CD B w X pd pc pz gh mn lw hi O e v A V vp U d) (k : Int) (hk : k < 0 ∨ (d.H.length : Int) ≤ k) :
    Calls Tryz.prog 85 #[.pointer (some ⟨pd, 0, none⟩), .int .i64 k] w fun r w' => r = .returned (.tuple #[.pointer none, errV ev 2]) ∧ Below w.heap.size w w' := by
  have c0 := h.de.d.c 0 _ rfl; have c1 := h.de.d.c 1 _ rfl; have cl := h.de.d.lt
  obtain ⟨n, hn⟩ : ∃ n, n = d.H.length := ⟨_, rfl⟩
  rw [← hn] at c1 hk
  have r2 := hE.c2
  have e1 : errV ev 2 = .iface 291 (.pointer (some (ev 2))) := rfl
  have l2 := Nat.lt_of_lt_of_le hE.l2 hE.size
  rw [e1] at r2 ⊢
  clear h hn hE
  by_cases h1 : k < 0
  · have d1 : decide (k < 0) = true := decide_eq_true h1
    go_enter Tryz.func85, Tryz.ntmps85
    go_wp2_with fail
    go_quiet (fail)
    go_wp2
    go_ret2
    exact ⟨rfl, (by repeat (first | exact Below.refl _ _ | refine Below.drew ?_ | refine below_drewN ?_ _ | refine Below.trans ?_ (Below.mono (by assumption) (by first | omega | (simp; omega) | (simp; done))) | refine Below.alloc ?_ (by first | omega | (simp; omega) | (simp; done)) _ | refine Below.setCell ?_ (by first | omega | (simp; omega) | (simp; done)) _))⟩
  · have d1 : decide (k < 0) = false := decide_eq_false h1
    have d2 : decide ((n : Int) ≤ k) = true := decide_eq_true (by omega)
    go_enter Tryz.func85, Tryz.ntmps85
    go_wp2_with fail
    go_quiet (fail)
    go_wp2
    go_ret2
    exact ⟨rfl, (by repeat (first | exact Below.refl _ _ | refine Below.drew ?_ | refine below_drewN ?_ _ | refine Below.trans ?_ (Below.mono (by assumption) (by first | omega | (simp; omega) | (simp; done))) | refine Below.alloc ?_ (by first | omega | (simp; omega) | (simp; done)) _ | refine Below.setCell ?_ (by first | omega | (simp; omega) | (simp; done)) _))⟩
set_option maxHeartbeats 2000000 in
theorem dswap_ok (g o : Nat) (p p' : Option Addr) (n n' k k' : Nat) (a b : Value) (ha : a = .slice p n k) (hb : b = .slice p' n' k') (w : World) (h0 : w.cell? ⟨g, o, none⟩ = some a) (h1 : w.cell? ⟨g, o + 1, none⟩ = some b) (f0 : w.frozen? ⟨g, o, none⟩ = false) (f1 : w.frozen? ⟨g, o + 1, none⟩ = false) (hl : g < w.heap.size) :
    Calls Tryz.prog 86 #[.pointer (some ⟨g, o, none⟩)] w fun r w' => r = .returned (.tuple #[]) ∧ w' = ((w.setCell ⟨g, o, none⟩ b).setCell ⟨g, o + 1, none⟩ a).drew := by
  subst ha hb
  go_enter Tryz.func86, Tryz.ntmps86
  go_wp2_with fail
  go_region
  exact bodyPost_end (v := .tuple #[]) (by simp [results, Tryz.results86, go_sem]) rfl ⟨rfl, rfl⟩
end
end Go.Proofs.YtcokmiidgdmdlaaGreatDoor

namespace Go.Proofs.YtcokmiidgdmdlaaGreatDoor
open Go.RowKit Go.Maps
set_option linter.unusedSimpArgs false
set_option linter.unusedVariables false
attribute [local go_sem ↓] Go.wp_at_zero Go.wp_at_succ

section
variable {X Y S F : List Nat} {B : Nat} {ev : Nat → Addr} {w w' : World} {pd pc pz gh e : Nat} {mn lw hi : Int} {O : List (List Int)} {v vp vp' : Value} {A : SA} {V : HV} {U U' : List Value} {d : De} {c : Ca} {P' : List (List Ob)}
theorem CD.far (h : CD B w X pd pc pz gh mn lw hi O e v A V vp U d) (y : Nat) (hy : y ∈ day pd gh vp) : y ∈ X ∧ y ∉ cay pc v A ∧ y ∉ ys d.c.L := ⟨h.de.mem y hy, h.ne y hy⟩
theorem CD.gh_mem (h : CD B w X pd pc pz gh mn lw hi O e v A V vp U d) : gh ∈ day pd gh vp := List.mem_cons_of_mem _ (List.mem_cons_self ..)
theorem CD.pd_mem (h : CD B w X pd pc pz gh mn lw hi O e v A V vp U d) : pd ∈ day pd gh vp := List.mem_cons_self ..
theorem CD.setHand (h : CD B w X pd pc pz gh mn lw hi O e v A V vp U d) (k : Nat) {p' : Value × Value} {h' : Hd} (hk : k < d.H.length) (r1 : RowO X w p'.1 h'.1) (r2 : RowO X w p'.2 h'.2) (kk : Keep [gh] w w') (hg : LocN w' gh (handL (V.set k p'))) :
    CD B w' X pd pc pz gh mn lw hi O e v A (V.set k p') vp U ⟨d.c, d.H.set k h', d.P⟩ := by
  obtain ⟨n0, nn⟩ := List.nodup_cons.1 h.de.nd
  obtain ⟨n1, n2⟩ := List.nodup_cons.1 nn
  have hpg : pd ≠ gh := fun q => n0 (q ▸ List.mem_cons_self ..)
  have fg := h.far gh h.gh_mem
  have hs : ∀ s ∈ [gh], s ∈ X ∨ w.heap.size ≤ s := fun s q => by simp at q; subst q; exact .inl fg.1
  refine ⟨h.x, h.limK kk, h.cs.z.keep kk (fun s q => by simp at q; subst q; exact .inl ⟨fg.1, fg.2.2⟩) |> fun z => ⟨z, h.cs.ch.keep kk (fun s q => by simp at q; subst q; exact fg.2.1), h.cs.ne, h.cs.l0⟩, ?_, h.ne⟩
  refine ⟨?_, hg, by simp [h.de.hl], fun i p g hp hg' => ?_, own_keep h.de.row kk (fun s q => by simp at q; subst q; exact n1), h.de.ul, fun i u m hu hm => (h.de.po i u m hu hm).keep kk hs, h.de.mem, h.de.nd, fun y hy => ⟨(h.de.lim y hy).1, Nat.lt_of_lt_of_le (h.de.lim y hy).2 kk.size⟩⟩
  · rw [List.length_set]
    exact h.de.d.keep kk (by simpa using hpg)
  · by_cases q : k = i
    · subst q
      rw [List.getElem?_set_self (by rw [h.de.hl]; exact hk)] at hp
      rw [List.getElem?_set_self hk] at hg'
      obtain rfl := Option.some.inj hp
      obtain rfl := Option.some.inj hg'
      exact ⟨r1.keep kk hs, r2.keep kk hs⟩
    · rw [List.getElem?_set_ne q] at hp hg'
      exact ⟨(h.de.ho i p g hp hg').1.keep kk hs, (h.de.ho i p g hp hg').2.keep kk hs⟩
theorem CD.setBoth (h : CD B w X pd pc pz gh mn lw hi O e v A V vp U d) (k : Nat) {p' : Value × Value} {h' : Hd} (hk : k < d.H.length) (r1 : RowO X w p'.1 h'.1) (r2 : RowO X w p'.2 h'.2) (kk : Keep [gh, pd] w w') (hg : LocN w' gh (handL (V.set k p')))
    (hd : LocN w' pd [.pointer (some ⟨pc, 0, none⟩), .slice (some ⟨gh, 0, none⟩) d.H.length d.H.length, vp']) (row : w'.ownsRow B 70 1 vp' P'.length U') (ul : U'.length = P'.length)
    (po : ∀ (i : Nat) (u : Value) (m : List Ob), U'[i]? = some u → P'[i]? = some m → RowO X w u m) (hown : ownX vp' = ownX vp) :
    CD B w' X pd pc pz gh mn lw hi O e v A (V.set k p') vp' U' ⟨d.c, d.H.set k h', P'⟩ := by
  have fg := h.far gh h.gh_mem
  have fp := h.far pd h.pd_mem
  have hs : ∀ s ∈ [gh, pd], s ∈ X ∨ w.heap.size ≤ s := fun s q => by
    simp at q
    rcases q with rfl | rfl
    · exact .inl fg.1
    · exact .inl fp.1
  have ed : day pd gh vp' = day pd gh vp := by unfold day; rw [hown]
  refine ⟨by unfold xd; rw [ed]; exact h.x, h.limK kk, h.cs.z.keep kk (fun s q => by
    simp at q
    rcases q with rfl | rfl
    · exact .inl ⟨fg.1, fg.2.2⟩
    · exact .inl ⟨fp.1, fp.2.2⟩) |> fun z => ⟨z, h.cs.ch.keep kk (fun s q => by
    simp at q
    rcases q with rfl | rfl
    · exact fg.2.1
    · exact fp.2.1), h.cs.ne, h.cs.l0⟩, ?_, by rw [ed]; exact h.ne⟩
  refine ⟨by rw [List.length_set]; exact hd, hg, by simp [h.de.hl], fun i p g hp hg' => ?_, row, ul, fun i u m hu hm => (po i u m hu hm).keep kk hs, by rw [ed]; exact h.de.mem, by rw [ed]; exact h.de.nd, fun y hy => ?_⟩
  · by_cases q : k = i
    · subst q
      rw [List.getElem?_set_self (by rw [h.de.hl]; exact hk)] at hp
      rw [List.getElem?_set_self hk] at hg'
      obtain rfl := Option.some.inj hp
      obtain rfl := Option.some.inj hg'
      exact ⟨r1.keep kk hs, r2.keep kk hs⟩
    · rw [List.getElem?_set_ne q] at hp hg'
      exact ⟨(h.de.ho i p g hp hg').1.keep kk hs, (h.de.ho i p g hp hg').2.keep kk hs⟩
  · rw [ed] at hy
    exact ⟨(h.de.lim y hy).1, Nat.lt_of_lt_of_le (h.de.lim y hy).2 kk.size⟩
theorem CD.hand (h : CD B w X pd pc pz gh mn lw hi O e v A V vp U d) {k : Nat} {g : Hd} (hk : d.H[k]? = some g) : ∃ p, V[k]? = some p ∧ RowO X w p.1 g.1 ∧ RowO X w p.2 g.2 ∧ w.cell? ⟨gh, k * 2, none⟩ = some p.1 ∧ w.cell? ⟨gh, k * 2 + 1, none⟩ = some p.2 ∧ w.frozen? ⟨gh, k * 2, none⟩ = false ∧ w.frozen? ⟨gh, k * 2 + 1, none⟩ = false ∧ gh < w.heap.size := by
  have hl := (List.getElem?_eq_some_iff.1 hk).1
  obtain ⟨p, hp⟩ : ∃ p, V[k]? = some p := ⟨V[k]'(by rw [h.de.hl]; exact hl), List.getElem?_eq_getElem _⟩
  obtain ⟨g1, g2⟩ := handL_get hp
  obtain ⟨o1, o2⟩ := h.de.ho k p g hp hk
  have hv : V.length = d.H.length := h.de.hl
  exact ⟨p, hp, o1, o2, h.de.hs.c _ _ g1, h.de.hs.c _ _ g2, h.de.hs.f _ (by rw [handL_length]; omega), h.de.hs.f _ (by rw [handL_length]; omega), h.de.hs.lt⟩
theorem CD.loc1 (h : CD B w X pd pc pz gh mn lw hi O e v A V vp U d) {k : Nat} {p : Value × Value} (hp : V[k]? = some p) (hk : k < d.H.length) (x : Value) : LocN (w.setCell ⟨gh, k * 2, none⟩ x) gh (handL (V.set k (x, p.2))) := by
  have hv : V.length = d.H.length := h.de.hl
  have h1 := h.de.hs.store (k * 2) x (by rw [handL_length]; omega)
  rw [handL_set _ (by omega)]
  have h2 := (handL_get hp).2
  have e1 : ((handL V).set (k * 2) x).set (k * 2 + 1) p.2 = (handL V).set (k * 2) x := by
    apply List.ext_getElem?
    intro i
    by_cases q : k * 2 + 1 = i
    · subst q
      rw [List.getElem?_set_self (by rw [List.length_set, handL_length]; omega), List.getElem?_set_ne (by omega), h2]
    · rw [List.getElem?_set_ne q]
  simp only [e1]
  exact h1
theorem hloc1 {g k : Nat} {W : World} (h : LocN W g (handL V)) {p : Value × Value} (hp : V[k]? = some p) (x : Value) : LocN (W.setCell ⟨g, k * 2, none⟩ x) g (handL (V.set k (x, p.2))) := by
  have hk := (List.getElem?_eq_some_iff.1 hp).1
  have h1 := h.store (k * 2) x (by rw [handL_length]; omega)
  rw [handL_set _ hk]
  have h2 := (handL_get hp).2
  have e1 : ((handL V).set (k * 2) x).set (k * 2 + 1) p.2 = (handL V).set (k * 2) x := by
    apply List.ext_getElem?
    intro i
    by_cases q : k * 2 + 1 = i
    · subst q
      rw [List.getElem?_set_self (by rw [List.length_set, handL_length]; omega), List.getElem?_set_ne (by omega), h2]
    · rw [List.getElem?_set_ne q]
  simp only [e1]
  exact h1
theorem hloc2 {g k : Nat} {W : World} (h : LocN W g (handL V)) {p : Value × Value} (hp : V[k]? = some p) (x : Value) : LocN (W.setCell ⟨g, k * 2 + 1, none⟩ x) g (handL (V.set k (p.1, x))) := by
  have hk := (List.getElem?_eq_some_iff.1 hp).1
  have h1 := h.store (k * 2 + 1) x (by rw [handL_length]; omega)
  rw [handL_set _ hk]
  have h2 := (handL_get hp).1
  have e1 : (handL V).set (k * 2) p.1 = handL V := by
    apply List.ext_getElem?
    intro i
    by_cases q : k * 2 = i
    · subst q
      rw [List.getElem?_set_self (by rw [handL_length]; omega), h2]
    · rw [List.getElem?_set_ne q]
  simp only [e1]
  exact h1
theorem hset1 {k : Nat} (p q : Value × Value) : (V.set k p).set k q = V.set k q := List.set_set ..
theorem hset2 {k : Nat} (hk : k < V.length) (p : Value × Value) : (V.set k p)[k]? = some p := List.getElem?_set_self hk
/-- what a take of a depot comes to -/
def DtkPost (B : Nat) (ev : Nat → Addr) (pd pc pz gh : Nat) (mn lw hi : Int) (O : List (List Int)) (e : Nat) (X F : List Nat) (w : World) (r : De × Nat × Ob) (en : Ending) (w' : World) : Prop :=
  en = .returned (.tuple #[obV r.2.2, errV ev r.2.1]) ∧ ∃ X', CDx B w' X' F pd pc pz gh mn lw hi O e r.1 ∧ Keep (off X F) w w' ∧ (∀ x ∈ X', x ∈ X ∨ w.heap.size ≤ x) ∧ ∀ x ∈ X, x ∈ X'
set_option maxHeartbeats 1000000 in
theorem dtake_bad (k n : Int) (u : Bool) (hE : ErrZ B ev w) (h : CD B w X pd pc pz gh mn lw hi O e v A V vp U d) (hF : Hid (∀ f ∈ F, f ∈ X ∧ f ∉ xd pc v A d.c.L pd gh vp)) (hk : handD d k = none) :
    Calls Tryz.prog 33 #[.pointer (some ⟨pd, 0, none⟩), .int .i64 k, .int .i64 n, .bool u] w (DtkPost B ev pd pc pz gh mn lw hi O e X F w (takeD mn O e d k n u)) := by
  rw [takeD_bad hk]
  have b1 : Below w.heap.size w (w.alloc (.cells #[.int .i64 0, .int .i64 0] 72)) := (by repeat (first | exact Below.refl _ _ | refine Below.drew ?_ | refine below_drewN ?_ _ | refine Below.trans ?_ (Below.mono (by assumption) (by first | omega | (simp; omega) | (simp; done))) | refine Below.alloc ?_ (by first | omega | (simp; omega) | (simp; done)) _ | refine Below.setCell ?_ (by first | omega | (simp; omega) | (simp; done)) _))
  have L1 := Lib.hid (LocN.mk_ w [.int .i64 0, .int .i64 0] 72 rfl)
  have NO := Lib.hid (dhand_err (hE.go b1).c (h.below b1) k (handD_none hk))
  have e1 : errV ev 2 = .iface 291 (.pointer (some (ev 2))) := rfl
  have FIN : Hid (∀ W, Below w.heap.size w W → DtkPost B ev pd pc pz gh mn lw hi O e X F w (d, 2, (0, 0)) (.returned (.tuple #[.agg #[.int .i64 0, .int .i64 0], .iface 291 (.pointer (some (ev 2)))])) W) := fun W b => ⟨rfl, X, ⟨_, _, _, _, _, h.below b, hF.out⟩, Keep.of b, fun _ q => .inl q, fun _ q => q⟩
  rw [e1] at NO
  clear h hk hE e1 b1
  go_enter Tryz.func33, Tryz.ntmps33
  go_wp2_with fail
  refine NO.out.mono ?_
  rintro r w1 ⟨rfl, hb1⟩
  have M := L1.out.go hb1
  have m0 := M.c 0 _ rfl; have m1 := M.c 1 _ rfl; have f0 := M.f 0 (by simp); have f1 := M.f 1 (by simp); have ml := M.lt
  have HM := Lib.hid (M.store2 (.int .i64 0) (.int .i64 0))
  clear M NO L1
  go_wp2
  have x0 := HM.out.c 0 _ rfl; have x1 := HM.out.c 1 _ rfl
  exact bodyPost_ret (v := .tuple #[.agg #[.int .i64 0, .int .i64 0], .iface 291 (.pointer (some (ev 2)))]) (by simp [x0, x1, results, Tryz.results33, go_sem]) rfl (FIN.out _ (by repeat (first | exact Below.refl _ _ | refine Below.drew ?_ | refine below_drewN ?_ _ | refine Below.trans ?_ (Below.mono (by assumption) (by first | omega | (simp; omega) | (simp; done))) | refine Below.alloc ?_ (by first | omega | (simp; omega) | (simp; done)) _ | refine Below.setCell ?_ (by first | omega | (simp; omega) | (simp; done)) _)))
end
end Go.Proofs.YtcokmiidgdmdlaaGreatDoor
