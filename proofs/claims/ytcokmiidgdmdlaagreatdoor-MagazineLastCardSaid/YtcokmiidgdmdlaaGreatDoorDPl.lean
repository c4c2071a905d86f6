/- Plain: depots of magazines: workers' hands, the pile; what lies in them; what acts come to. -/
import Derived.Test.YtcokmiidgdmdlaaGreatDoorSApart
namespace Go.Proofs.YtcokmiidgdmdlaaGreatDoor
set_option linter.unusedSimpArgs false
set_option linter.unusedVariables false

section
variable {e : Nat} {c : Ca}
theorem obsC_at {C : List Sl} {x : Ob} : x ∈ obsC e C ↔ ∃ (i : Nat) (s : Sl) (k : Nat), C[i]? = some s ∧ s.T[k]? = some true ∧ x = obOf e s k := by
  rw [obsC_mem]
  constructor
  · rintro ⟨s, hs, k, hk, rfl⟩
    obtain ⟨i, hi, rfl⟩ := List.mem_iff_getElem.1 hs
    exact ⟨i, _, k, List.getElem?_eq_getElem hi, hk, rfl⟩
  · rintro ⟨i, s, k, hs, hk, rfl⟩
    exact ⟨s, List.mem_of_getElem? hs, k, hk, rfl⟩
theorem ob_pg (e1 : 1 ≤ e) {s : Sl} (hl : s.T.length = roomE e) {k : Nat} (hk : k < s.T.length) : 0 ≤ (k : Int) * e ∧ (k : Int) * e + e ≤ 64 := by
  rw [hl] at hk
  have h1 : (k + 1) * e ≤ 64 := Nat.le_trans (Nat.mul_le_mul_right e (show k + 1 ≤ roomE e by omega)) (Nat.div_mul_le_self 64 e)
  have h2 : ((k : Int) + 1) * e ≤ 64 := by exact_mod_cast h1
  rw [Int.add_mul, Int.one_mul] at h2
  exact ⟨Int.mul_nonneg (by omega) (by omega), h2⟩
theorem mul_inj {e k k' : Nat} (e1 : 1 ≤ e) (h : (k : Int) * e = (k' : Int) * e) : k = k' := by
  have h2 : k * e = k' * e := by exact_mod_cast h
  exact Nat.eq_of_mul_eq_mul_right (by omega) h2
theorem ob_at (h : InvC e c) {i j : Nat} {s t : Sl} {k k' : Nat} (hs : c.C[i]? = some s) (ht : c.C[j]? = some t) (hk : k < s.T.length) (hk' : k' < t.T.length) (heq : obOf e s k = obOf e t k') : i = j ∧ k = k' := by
  have e1 := h.e1
  have a := ob_pg e1 (h.len s (List.mem_of_getElem? hs)) hk
  have b := ob_pg e1 (h.len t (List.mem_of_getElem? ht)) hk'
  unfold obOf at heq
  injection heq with q1 q2
  have hi := (List.getElem?_eq_some_iff.1 hs)
  have hj := (List.getElem?_eq_some_iff.1 ht)
  obtain ⟨li, ei⟩ := hi
  obtain ⟨lj, ej⟩ := hj
  have hp : s.pg = t.pg := by omega
  have hij : i = j := by
    rcases Nat.lt_trichotomy i j with q | q | q
    · have := List.pairwise_iff_getElem.1 h.srt i j li lj q
      rw [ei, ej] at this
      unfold ltS ltP at this; omega
    · exact q
    · have := List.pairwise_iff_getElem.1 h.srt j i lj li q
      rw [ei, ej] at this
      unfold ltS ltP at this; omega
  refine ⟨hij, mul_inj e1 ?_⟩
  omega
/-- one mark of a slab set -/
theorem obs_set (h : InvC e c) {i : Nat} {s : Sl} (hs : c.C[i]? = some s) {k : Nat} (hk : k < s.T.length) (b : Bool) (x : Ob) :
    x ∈ obsC e (c.C.set i (useS s k b)) ↔ (x = obOf e s k ∧ b = true) ∨ (x ∈ obsC e c.C ∧ x ≠ obOf e s k) := by
  have hil := (List.getElem?_eq_some_iff.1 hs).1
  rw [obsC_at]
  constructor
  · rintro ⟨j, z, m, hz, hm, rfl⟩
    by_cases hij : i = j
    · subst hij
      rw [List.getElem?_set_self hil] at hz
      obtain rfl := Option.some.inj hz
      simp only [useS] at hm
      by_cases hmk : k = m
      · subst hmk
        rw [List.getElem?_set_self hk] at hm
        exact .inl ⟨rfl, Option.some.inj hm⟩
      · rw [List.getElem?_set_ne hmk] at hm
        refine .inr ⟨obsC_at.2 ⟨i, s, m, hs, hm, rfl⟩, fun q => hmk ?_⟩
        exact (ob_at h hs hs hk (List.getElem?_eq_some_iff.1 hm).1 (show obOf e s k = obOf e s m from q.symm)).2
    · rw [List.getElem?_set_ne hij] at hz
      refine .inr ⟨obsC_at.2 ⟨j, z, m, hz, hm, rfl⟩, fun q => hij ?_⟩
      exact (ob_at h hs hz hk (List.getElem?_eq_some_iff.1 hm).1 q.symm).1
  · rintro (⟨rfl, rfl⟩ | ⟨hx, hne⟩)
    · exact ⟨i, useS s k true, k, List.getElem?_set_self hil, by simp only [useS]; exact List.getElem?_set_self hk, rfl⟩
    · obtain ⟨j, z, m, hz, hm, rfl⟩ := obsC_at.1 hx
      by_cases hij : i = j
      · subst hij
        rw [hs] at hz
        obtain rfl := Option.some.inj hz
        have hmk : k ≠ m := fun q => hne (by rw [q])
        exact ⟨i, useS s k b, m, List.getElem?_set_self hil, by simp only [useS]; rw [List.getElem?_set_ne hmk]; exact hm, rfl⟩
      · exact ⟨j, z, m, by rw [List.getElem?_set_ne hij]; exact hz, hm, rfl⟩
theorem give_obs (h : InvC e c) {o : Ob} (x : Ob) : x ∈ obsC e (giveC e c o).1.C ↔ x ∈ obsC e c.C ∧ x ≠ o := by
  cases hf : findS e o c.C with
  | none =>
    have : (giveC e c o).1 = c := by unfold giveC; rw [hf]
    rw [this]
    refine ⟨fun hx => ⟨hx, fun q => ?_⟩, And.left⟩
    subst q
    obtain ⟨i, s, k, hs, hk, rfl⟩ := obsC_at.1 hx
    have h1 := findS_none hf s (List.mem_of_getElem? hs)
    have h2 : hasS e (obOf e s k) s = true := (hasS_iff h.e1).2 ⟨by rw [kOf_uniq h.e1 rfl]; exact hk, by rw [kOf_uniq h.e1 rfl]⟩
    rw [h1] at h2; cases h2
  | some i =>
    obtain ⟨s, hs, hh, _⟩ := findS_some hf
    obtain ⟨k1, k2⟩ := (hasS_iff h.e1).1 hh
    have : (giveC e c o).1.C = c.C.set i (useS s (kOf e o s) false) := by unfold giveC; rw [hf]; simp only [hs]
    rw [this, obs_set h hs (List.getElem?_eq_some_iff.1 k1).1]
    rw [← k2]
    simp
theorem obs_none (e : Nat) (nd pg : Int) : obsS e ⟨nd, pg, noneT e⟩ = [] := by
  unfold obsS
  rw [List.filterMap_eq_nil_iff]
  intro k hk
  rw [if_neg]
  intro q
  unfold noneT at q
  rw [List.getElem?_replicate] at q
  split at q <;> simp at q
/-- a take: one object more, or none -/
theorem take_obs {mn : Int} {O : List (List Int)} (hO : OrdZ O c.L.length) (h : InvC e c) (v : Int) (u : Bool) :
    ((takeC mn O e c v u).2.1 = 0 ∧ (takeC mn O e c v u).2.2 ∉ obsC e c.C ∧ ∀ x, x ∈ obsC e (takeC mn O e c v u).1.C ↔ x = (takeC mn O e c v u).2.2 ∨ x ∈ obsC e c.C) ∨
    ((takeC mn O e c v u).2.1 ≠ 0 ∧ (takeC mn O e c v u).1.C = c.C) := by
  have hI' := takeC_inv (mn := mn) (v := v) (u := u) hO h
  revert hI'
  unfold takeC
  by_cases hv : v < 0 ∨ (c.L.length : Int) ≤ v
  · rw [if_pos hv]; intro _; exact .inr ⟨by simp, rfl⟩
  rw [if_neg hv]
  cases hb : bestS v c.C c.C.length with
  | some i =>
    obtain ⟨_, s, hs, _, hm⟩ := bestS_some hb
    simp only [hs]
    intro _
    obtain ⟨f1, f2, _⟩ := freeAt_spec (T := s.T) hm
    refine .inl ⟨trivial, fun hx => ?_, fun x => ?_⟩
    · obtain ⟨j, z, m, hz, hm', he⟩ := obsC_at.1 hx
      obtain ⟨q1, q2⟩ := ob_at h hs hz f1 (List.getElem?_eq_some_iff.1 hm').1 he
      subst q1 q2
      rw [hs] at hz
      obtain rfl := Option.some.inj hz
      rw [f2] at hm'
      cases hm'
    · rw [obs_set h hs f1]
      constructor
      · rintro (⟨q, _⟩ | ⟨q, _⟩)
        · exact .inl q
        · exact .inr q
      · rintro (q | q)
        · exact .inl ⟨q, rfl⟩
        · by_cases hq : x = obOf e s (freeAt s.T)
          · exact .inl ⟨hq, rfl⟩
          · exact .inr ⟨q, hq⟩
  | none =>
    simp only
    by_cases hz : (takeZ mn O c.L v 0 u).2.1 = 0
    · rw [if_pos hz]
      intro hI'
      generalize hnd : (takeZ mn O c.L v 0 u).2.2.1 = nd at *
      generalize hpg : (takeZ mn O c.L v 0 u).2.2.2.1 = pg at *
      generalize (takeZ mn O c.L v 0 u).1 = L' at *
      have e1 := h.e1
      have hr := roomE_pos h.e1 h.e2
      have hnl : (noneT e).length = roomE e := by unfold noneT; simp
      have hob : ∀ x, x ∈ obsS e (useS ⟨nd, pg, noneT e⟩ 0 true) ↔ x = (nd, pg * 64) := fun x => by
        rw [obsS_mem]
        constructor
        · rintro ⟨k, hk, rfl⟩
          simp only [useS] at hk
          by_cases hk0 : k = 0
          · subst hk0; simp [obOf, useS]
          · rw [List.getElem?_set_ne (Ne.symm hk0)] at hk
            unfold noneT at hk
            rw [List.getElem?_replicate] at hk
            split at hk <;> simp at hk
        · rintro rfl
          exact ⟨0, by simp only [useS]; exact List.getElem?_set_self (by rw [hnl]; exact hr), by simp [obOf, useS]⟩
      refine .inl ⟨rfl, fun hx => ?_, fun x => ?_⟩
      · obtain ⟨z, hzm, m, hm, he⟩ := obsC_mem.1 hx
        have hs := hI'.srt
        have hz' := (mem_insS (C := c.C) (s := useS ⟨nd, pg, noneT e⟩ 0 true)).2 (.inr hzm)
        have hp := ob_page e1 (h.len z hzm) hm
        rw [← he] at hp
        simp only at hp
        have hpg2 : z.pg = pg := by omega
        have hnd2 : z.nd = nd := by omega
        unfold insS at hs
        obtain ⟨s1, s2, s3⟩ := List.pairwise_append.1 hs
        rw [← List.take_append_drop (posS (useS ⟨nd, pg, noneT e⟩ 0 true).nd (useS ⟨nd, pg, noneT e⟩ 0 true).pg c.C) c.C] at hzm
        rcases List.mem_append.1 hzm with q | q
        · have := s3 z q _ (List.mem_cons_self ..)
          unfold ltS ltP at this
          simp only [useS] at this
          omega
        · have := (List.pairwise_cons.1 s2).1 z q
          unfold ltS ltP at this
          simp only [useS] at this
          omega
      · constructor
        · intro hx
          obtain ⟨z, hzm, m, hm, he⟩ := obsC_mem.1 hx
          rcases mem_insS.1 hzm with q | q
          · exact .inl ((hob x).1 (obsS_mem.2 ⟨m, by rw [← q]; exact hm, by rw [← q]; exact he⟩))
          · exact .inr (obsC_mem.2 ⟨z, q, m, hm, he⟩)
        · rintro (q | q)
          · obtain ⟨m, hm, he⟩ := obsS_mem.1 ((hob x).2 q)
            exact obsC_mem.2 ⟨_, mem_insS.2 (.inl rfl), m, hm, he⟩
          · obtain ⟨z, hzm, m, hm, he⟩ := obsC_mem.1 q
            exact obsC_mem.2 ⟨z, mem_insS.2 (.inr hzm), m, hm, he⟩
    · rw [if_neg hz]
      intro _
      exact .inr ⟨hz, rfl⟩
/-- all of some objects given back -/
def backC (e : Nat) (c : Ca) (l : List Ob) : Ca := l.foldl (fun c o => (giveC e c o).1) c
theorem backC_app (l m : List Ob) : backC e c (l ++ m) = backC e (backC e c l) m := by unfold backC; rw [List.foldl_append]
theorem backC_inv : ∀ {l : List Ob} {c : Ca}, InvC e c → InvC e (backC e c l) ∧ (backC e c l).L = c.L ∧ ∀ x, x ∈ obsC e (backC e c l).C ↔ x ∈ obsC e c.C ∧ x ∉ l
  | [], c, h => ⟨h, rfl, fun x => by simp [backC]⟩
  | o :: l, c, h => by
    obtain ⟨h1, h2, h3⟩ := backC_inv (l := l) (giveC_inv (o := o) h)
    refine ⟨h1, h2.trans (giveC_same e c o), fun x => ?_⟩
    show x ∈ obsC e (backC e (giveC e c o).1 l).C ↔ _
    rw [h3 x, give_obs h]
    simp
    constructor
    · rintro ⟨⟨a, b⟩, d⟩; exact ⟨a, b, d⟩
    · rintro ⟨a, b, d⟩; exact ⟨⟨a, b⟩, d⟩
end

/-- a worker's hand: its loaded magazine, its other one -/
abbrev Hd := List Ob × List Ob
structure De where
  c : Ca
  H : List Hd
  P : List (List Ob)
/-- a magazine to take from: the loaded one, the other one, one of the pile -/
def loadD (h : Hd) (P : List (List Ob)) : Hd × List (List Ob) :=
  if h.1 = [] then (if h.2 = [] then (match P.getLast? with | some m => ((m, []), P.dropLast) | none => (h, P)) else ((h.2, []), P)) else (h, P)
/-- a magazine to lay into -/
def fillD (h : Hd) (P : List (List Ob)) : Hd × List (List Ob) :=
  if h.1.length = 4 then (if h.2 = [] then (([], h.1), P) else (([], h.2), P ++ [h.1])) else (h, P)
def handD (d : De) (k : Int) : Option Hd := if k < 0 then none else d.H[k.toNat]?
def heldH (H : List Hd) : List Ob := H.flatMap fun h => h.1 ++ h.2
def held (d : De) : List Ob := heldH d.H ++ d.P.flatten
def outD (e : Nat) (d : De) (o : Ob) : Bool := decide (o ∈ obsC e d.c.C) && !decide (o ∈ held d)
def takeD (mn : Int) (O : List (List Int)) (e : Nat) (d : De) (k v : Int) (u : Bool) : De × Nat × Ob := match handD d k with
  | none => (d, 2, (0, 0))
  | some h => match (loadD h d.P).1.1.getLast? with
    | some o => (⟨d.c, d.H.set k.toNat ((loadD h d.P).1.1.dropLast, (loadD h d.P).1.2), (loadD h d.P).2⟩, 0, o)
    | none => (⟨(takeC mn O e d.c v u).1, d.H, d.P⟩, (takeC mn O e d.c v u).2.1, (takeC mn O e d.c v u).2.2)
def giveD (e : Nat) (d : De) (k : Int) (o : Ob) : De × Nat := match handD d k with
  | none => (d, 2)
  | some h => if outD e d o = true then (⟨d.c, d.H.set k.toNat ((fillD h d.P).1.1 ++ [o], (fillD h d.P).1.2), (fillD h d.P).2⟩, 0) else (d, 9)
def drainD (e : Nat) (d : De) (k : Int) : De × Nat × Nat := match handD d k with
  | none => (d, 2, 0)
  | some h => (⟨backC e d.c (h.1 ++ h.2), d.H.set k.toNat ([], []), d.P⟩, 0, (h.1 ++ h.2).length)
def emptyD (e : Nat) (d : De) : De × Nat := (⟨backC e d.c d.P.flatten, d.H, []⟩, d.P.flatten.length)

structure InvD (e : Nat) (d : De) : Prop where
  c : InvC e d.c
  hl : 1 ≤ d.H.length ∧ d.H.length ≤ 4
  sub : ∀ o ∈ held d, o ∈ obsC e d.c.C
  nd : (held d).Nodup
  h4 : ∀ h ∈ d.H, h.1.length ≤ 4 ∧ h.2.length ≤ 4
  p4 : ∀ m ∈ d.P, m.length = 4
theorem handD_some {d : De} {k : Int} {h : Hd} (q : handD d k = some h) : 0 ≤ k ∧ d.H[k.toNat]? = some h ∧ k.toNat < d.H.length ∧ (k.toNat : Int) = k := by
  unfold handD at q
  split at q
  · cases q
  · exact ⟨by omega, q, (List.getElem?_eq_some_iff.1 q).1, by omega⟩
theorem handD_none {d : De} {k : Int} (q : handD d k = none) : k < 0 ∨ (d.H.length : Int) ≤ k := by
  unfold handD at q
  split at q
  · exact .inl ‹_›
  · have := List.getElem?_eq_none_iff.1 q
    exact .inr (by omega)
/-- how often an object lies in magazines -/
theorem heldH_cnt (a : Ob) : ∀ {H : List Hd} {k : Nat} {h : Hd} (g : Hd), H[k]? = some h → (heldH (H.set k g)).count a + h.1.count a + h.2.count a = (heldH H).count a + g.1.count a + g.2.count a
  | [], k, h, g, q => by simp at q
  | b :: H, 0, h, g, q => by
    simp at q; subst q
    show ((g.1 ++ g.2) ++ heldH H).count a + _ + _ = ((b.1 ++ b.2) ++ heldH H).count a + _ + _
    simp only [List.count_append]; omega
  | b :: H, k + 1, h, g, q => by
    have ih := heldH_cnt a (H := H) (k := k) g (by simpa using q)
    show ((b.1 ++ b.2) ++ heldH (H.set k g)).count a + _ + _ = ((b.1 ++ b.2) ++ heldH H).count a + _ + _
    simp only [List.count_append] at ih ⊢; omega
theorem heldH_le (a : Ob) : ∀ {H : List Hd} {k : Nat} {h : Hd}, H[k]? = some h → h.1.count a + h.2.count a ≤ (heldH H).count a
  | [], k, h, q => by simp at q
  | b :: H, 0, h, q => by
    simp at q; subst q
    show _ ≤ ((b.1 ++ b.2) ++ heldH H).count a
    simp only [List.count_append]; omega
  | b :: H, k + 1, h, q => by
    have ih := heldH_le a (H := H) (k := k) (h := h) (by simpa using q)
    show _ ≤ ((b.1 ++ b.2) ++ heldH H).count a
    simp only [List.count_append] at ih ⊢; omega
theorem loadD_cnt (a : Ob) (h : Hd) (P : List (List Ob)) : (loadD h P).1.1.count a + (loadD h P).1.2.count a + (loadD h P).2.flatten.count a = h.1.count a + h.2.count a + P.flatten.count a := by
  unfold loadD
  split
  · rename_i q1
    split
    · rename_i q2
      split
      · rename_i m q3
        obtain ⟨ys, rfl⟩ := List.getLast?_eq_some_iff.1 q3
        simp [q1, q2, List.count_append]
        omega
      · rfl
    · simp [q1]
  · rfl
theorem fillD_cnt (a : Ob) (h : Hd) (P : List (List Ob)) : (fillD h P).1.1.count a + (fillD h P).1.2.count a + (fillD h P).2.flatten.count a = h.1.count a + h.2.count a + P.flatten.count a := by
  unfold fillD
  split
  · split
    · rename_i q2
      simp [q2]
    · simp [List.count_append]; omega
  · rfl
theorem loadD_len {h : Hd} {P : List (List Ob)} (h1 : h.1.length ≤ 4 ∧ h.2.length ≤ 4) (hp : ∀ m ∈ P, m.length = 4) : ((loadD h P).1.1.length ≤ 4 ∧ (loadD h P).1.2.length ≤ 4) ∧ ∀ m ∈ (loadD h P).2, m.length = 4 := by
  unfold loadD
  split
  · split
    · split
      · rename_i m q3
        have := hp m (List.mem_of_getLast? q3)
        exact ⟨⟨by simp; omega, by simp⟩, fun x hx => hp x (List.dropLast_subset _ hx)⟩
      · exact ⟨h1, hp⟩
    · exact ⟨⟨h1.2, by simp⟩, hp⟩
  · exact ⟨h1, hp⟩
theorem fillD_len {h : Hd} {P : List (List Ob)} (h1 : h.1.length ≤ 4 ∧ h.2.length ≤ 4) (hp : ∀ m ∈ P, m.length = 4) : ((fillD h P).1.1.length ≤ 3 ∧ (fillD h P).1.2.length ≤ 4) ∧ ∀ m ∈ (fillD h P).2, m.length = 4 := by
  unfold fillD
  split
  · rename_i q
    split
    · exact ⟨⟨by simp, by simp [q]⟩, hp⟩
    · refine ⟨⟨by simp, h1.2⟩, fun x hx => ?_⟩
      rcases List.mem_append.1 hx with r | r
      · exact hp x r
      · simp at r; subst r; exact q
  · exact ⟨⟨by show h.1.length ≤ 3; omega, h1.2⟩, hp⟩
theorem InvD.of {e : Nat} {d : De} (c : InvC e d.c) (hl : 1 ≤ d.H.length ∧ d.H.length ≤ 4) (hs : ∀ a, (held d).count a ≤ 1 ∧ ((held d).count a = 1 → a ∈ obsC e d.c.C)) (h4 : ∀ h ∈ d.H, h.1.length ≤ 4 ∧ h.2.length ≤ 4) (p4 : ∀ m ∈ d.P, m.length = 4) : InvD e d :=
  ⟨c, hl, fun o ho => (hs o).2 (by have := (hs o).1; have := List.count_pos_iff.2 ho; omega), List.nodup_iff_count.2 fun a => (hs a).1, h4, p4⟩
theorem InvD.cnt {e : Nat} {d : De} (h : InvD e d) (a : Ob) : (held d).count a ≤ 1 ∧ (0 < (held d).count a → a ∈ obsC e d.c.C) := ⟨List.nodup_iff_count.1 h.nd a, fun q => h.sub a (List.count_pos_iff.1 q)⟩
theorem held_cnt (d : De) (a : Ob) : (held d).count a = (heldH d.H).count a + d.P.flatten.count a := by unfold held; rw [List.count_append]
section
variable {mn : Int} {O : List (List Int)} {e : Nat} {d : De} {k v : Int} {u : Bool} {o : Ob} {h : Hd}
theorem takeD_pop (hh : handD d k = some h) (hl : (loadD h d.P).1.1.getLast? = some o) : takeD mn O e d k v u = (⟨d.c, d.H.set k.toNat ((loadD h d.P).1.1.dropLast, (loadD h d.P).1.2), (loadD h d.P).2⟩, 0, o) := by
  unfold takeD; rw [hh]; simp only [hl]
theorem takeD_cache (hh : handD d k = some h) (hl : (loadD h d.P).1.1.getLast? = none) : takeD mn O e d k v u = (⟨(takeC mn O e d.c v u).1, d.H, d.P⟩, (takeC mn O e d.c v u).2.1, (takeC mn O e d.c v u).2.2) := by
  unfold takeD; rw [hh]; simp only [hl]
theorem takeD_bad (hh : handD d k = none) : takeD mn O e d k v u = (d, 2, (0, 0)) := by unfold takeD; rw [hh]
theorem pop_cnt (hh : handD d k = some h) (hl : (loadD h d.P).1.1.getLast? = some o) (a : Ob) : (held (takeD mn O e d k v u).1).count a + (if o = a then 1 else 0) = (held d).count a := by
  rw [takeD_pop hh hl, held_cnt, held_cnt]
  obtain ⟨_, h1, _⟩ := handD_some hh
  have c1 := heldH_cnt a ((loadD h d.P).1.1.dropLast, (loadD h d.P).1.2) h1
  have c2 := loadD_cnt a h d.P
  obtain ⟨ys, hy⟩ := List.getLast?_eq_some_iff.1 hl
  simp only [hy, List.dropLast_concat, List.count_append, List.count_singleton, beq_iff_eq] at c1 c2 ⊢
  by_cases q : o = a
  · simp only [q, if_true] at c2 ⊢; omega
  · simp only [q, if_false] at c2 ⊢; omega
theorem takeD_inv (hO : OrdZ O d.c.L.length) (hI : InvD e d) : InvD e (takeD mn O e d k v u).1 := by
  cases hh : handD d k with
  | none => rw [takeD_bad hh]; exact hI
  | some h =>
    cases hl : (loadD h d.P).1.1.getLast? with
    | some o =>
      have hc := pop_cnt (mn := mn) (O := O) (e := e) (v := v) (u := u) hh hl
      obtain ⟨k0, h1, h2, _⟩ := handD_some hh
      have hm := loadD_len (hI.h4 h (List.mem_of_getElem? h1)) hI.p4
      rw [takeD_pop hh hl] at hc ⊢
      refine InvD.of hI.c (by simpa using hI.hl) (fun a => ?_) (fun g hg => ?_) hm.2
      · obtain ⟨a1, a2⟩ := hI.cnt a
        have := hc a
        exact ⟨by omega, fun q => a2 (by omega)⟩
      · rcases List.mem_or_eq_of_mem_set hg with q | q
        · exact hI.h4 g q
        · subst q
          exact ⟨by simp; omega, hm.1.2⟩
    | none =>
      rw [takeD_cache hh hl]
      refine InvD.of (takeC_inv hO hI.c) hI.hl (fun a => ?_) hI.h4 hI.p4
      obtain ⟨a1, a2⟩ := hI.cnt a
      refine ⟨a1, fun q => ?_⟩
      have := a2 (by show 0 < (held d).count a; exact (by have : (held d).count a = 1 := q; omega))
      rcases take_obs (mn := mn) (O := O) hO hI.c v u with ⟨_, _, t⟩ | ⟨_, t⟩
      · exact (t a).2 (.inr this)
      · show a ∈ obsC e (takeC mn O e d.c v u).1.C
        rw [t]; exact this
theorem give_cnt (hh : handD d k = some h) (ho : outD e d o = true) (a : Ob) : (held (giveD e d k o).1).count a = (held d).count a + (if o = a then 1 else 0) := by
  unfold giveD
  rw [hh]
  simp only [ho, if_true]
  rw [held_cnt, held_cnt]
  obtain ⟨_, h1, _⟩ := handD_some hh
  have c1 := heldH_cnt a ((fillD h d.P).1.1 ++ [o], (fillD h d.P).1.2) h1
  have c2 := fillD_cnt a h d.P
  simp only [List.count_append, List.count_singleton, beq_iff_eq] at c1 c2 ⊢
  by_cases q : o = a
  · simp only [q, if_true] at c1 c2 ⊢; omega
  · simp only [q, if_false] at c1 c2 ⊢; omega
theorem outD_iff : outD e d o = true ↔ o ∈ obsC e d.c.C ∧ o ∉ held d := by unfold outD; simp
theorem giveD_inv (hI : InvD e d) : InvD e (giveD e d k o).1 := by
  cases hh : handD d k with
  | none =>
    have : giveD e d k o = (d, 2) := by unfold giveD; rw [hh]
    rw [this]; exact hI
  | some h =>
    by_cases ho : outD e d o = true
    · have hc := give_cnt hh ho
      obtain ⟨q1, q2⟩ := outD_iff.1 ho
      obtain ⟨k0, h1, h2, _⟩ := handD_some hh
      have hm := fillD_len (hI.h4 h (List.mem_of_getElem? h1)) hI.p4
      have he : giveD e d k o = (⟨d.c, d.H.set k.toNat ((fillD h d.P).1.1 ++ [o], (fillD h d.P).1.2), (fillD h d.P).2⟩, 0) := by unfold giveD; rw [hh]; simp only [ho, if_true]
      rw [he] at hc ⊢
      dsimp only at hc ⊢
      refine InvD.of hI.c (by simpa using hI.hl) (fun a => ?_) (fun g hg => ?_) hm.2
      · obtain ⟨a1, a2⟩ := hI.cnt a
        have := hc a
        by_cases q : o = a
        · subst q
          have z : (held d).count o = 0 := List.count_eq_zero.2 q2
          simp only [if_true] at this
          exact ⟨by omega, fun _ => q1⟩
        · simp only [q, if_false] at this
          exact ⟨by omega, fun r => a2 (by omega)⟩
      · rcases List.mem_or_eq_of_mem_set hg with q | q
        · exact hI.h4 g q
        · subst q
          exact ⟨by simp; omega, hm.1.2⟩
    · have he : giveD e d k o = (d, 9) := by unfold giveD; rw [hh]; simp only [ho]; rfl
      rw [he]; exact hI
theorem drainD_inv (hI : InvD e d) : InvD e (drainD e d k).1 := by
  cases hh : handD d k with
  | none =>
    have : drainD e d k = (d, 2, 0) := by unfold drainD; rw [hh]
    rw [this]; exact hI
  | some h =>
    obtain ⟨k0, h1, h2, _⟩ := handD_some hh
    have he : drainD e d k = (⟨backC e d.c (h.1 ++ h.2), d.H.set k.toNat ([], []), d.P⟩, 0, (h.1 ++ h.2).length) := by unfold drainD; rw [hh]
    rw [he]
    obtain ⟨b1, b2, b3⟩ := backC_inv (l := h.1 ++ h.2) hI.c
    refine InvD.of b1 (by simpa using hI.hl) (fun a => ?_) (fun g hg => ?_) hI.p4
    · obtain ⟨a1, a2⟩ := hI.cnt a
      have c1 := heldH_cnt a (([], []) : Hd) h1
      rw [held_cnt] at a1 a2 ⊢
      simp only [List.count_nil] at c1
      refine ⟨by simp only; omega, fun q => (b3 a).2 ⟨a2 (by simp only at q; omega), fun r => ?_⟩⟩
      have := List.count_pos_iff.2 r
      rw [List.count_append] at this
      simp only at q
      omega
    · rcases List.mem_or_eq_of_mem_set hg with q | q
      · exact hI.h4 g q
      · subst q; simp
theorem emptyD_inv (hI : InvD e d) : InvD e (emptyD e d).1 := by
  obtain ⟨b1, b2, b3⟩ := backC_inv (l := d.P.flatten) hI.c
  refine InvD.of b1 hI.hl (fun a => ?_) hI.h4 (fun m hm => by cases hm)
  obtain ⟨a1, a2⟩ := hI.cnt a
  rw [held_cnt] at a1 a2
  have : (held (emptyD e d).1).count a = (heldH d.H).count a := by rw [held_cnt]; simp [emptyD]
  rw [this]
  refine ⟨by omega, fun q => (b3 a).2 ⟨a2 (by omega), fun r => ?_⟩⟩
  have := List.count_pos_iff.2 r
  omega
theorem nodup_len : ∀ {l r : List Ob}, l.Nodup → (∀ x ∈ l, x ∈ r) → l.length ≤ r.length
  | [], r, _, _ => Nat.zero_le _
  | a :: l, r, h, hs => by
    obtain ⟨h1, h2⟩ := List.nodup_cons.1 h
    have ha := hs a (by simp)
    have := nodup_len (l := l) (r := r.erase a) h2 fun x hx => (List.mem_erase_of_ne (fun q => h1 (by rw [← q]; exact hx))).2 (hs x (List.mem_cons_of_mem _ hx))
    rw [List.length_erase_of_mem ha] at this
    have := List.length_pos_of_mem ha
    simp only [List.length_cons]; omega
theorem held_len (hI : InvD e d) : 4 * d.P.length ≤ (obsC e d.c.C).length ∧ (held d).length ≤ (obsC e d.c.C).length := by
  have h1 := nodup_len hI.nd hI.sub
  have h2 : ∀ {P : List (List Ob)}, (∀ m ∈ P, m.length = 4) → P.flatten.length = 4 * P.length := by
    intro P
    induction P with
    | nil => intro _; rfl
    | cons a P ih =>
      intro h
      simp only [List.flatten_cons, List.length_append, List.length_cons, ih fun m hm => h m (List.mem_cons_of_mem _ hm), h a (by simp)]
      omega
  have h3 : (held d).length = (heldH d.H).length + d.P.flatten.length := by unfold held; simp
  rw [h2 hI.p4] at h3
  omega
end
end Go.Proofs.YtcokmiidgdmdlaaGreatDoor
