/- Lemmas and contracts for the claim's last text: ZPl, BudW. -/
import Derived.Test.YtcokmiidgdmdlaaGreatDoorMo01
import Derived.Test.YtcokmiidgdmdlaaGreatDoorMo03
namespace Go.Proofs.YtcokmiidgdmdlaaGreatDoor
set_option linter.unusedSimpArgs false
set_option linter.unusedVariables false

/-- a node: its buddy's block, the buddy's two maps, its pages, what is free and what is taken -/
structure Nd where
  pb : Nat
  bf : Nat
  bt : Nat
  n : Int
  F : List (Int × Int)
  T : List (Int × Int)
/-- the blocks that acts on the nodes write -/
def ys (L : List Nd) : List Nat := L.flatMap fun x => [x.bf, x.bt]
theorem ys_snoc (L : List Nd) (x : Nd) : ys (L ++ [x]) = ys L ++ [x.bf, x.bt] := by simp [ys]
theorem ys_mem {L : List Nd} {y : Nat} : y ∈ ys L ↔ ∃ x ∈ L, y = x.bf ∨ y = x.bt := by simp [ys]

/-- may a node give a block of order k so? -/
def mayN (mn k : Int) (u : Bool) (x : Nd) : Bool := u || decide (mn ≤ sumL x.F - sz k)
def okN (mn k : Int) (u : Bool) (x : Nd) : Bool := mayN mn k u x && (bestL k x.F).isSome
def okAt (mn k : Int) (u : Bool) (L : List Nd) (j : Int) : Bool := match L[j.toNat]? with | some x => okN mn k u x | none => false
/-- the node that gives a block -/
def pickZ (mn k : Int) (u : Bool) (L : List Nd) (D : List Int) : Option Int := D.find? (okAt mn k u L)
/-- has a node a free block that is as great? -/
def someN (k : Int) (x : Nd) : Bool := x.F.any fun p => decide (k ≤ p.2)
def lowZ (k : Int) (L : List Nd) : Nat := if L.any (someN k) then 7 else 5
def tookN (k : Int) (b : Int × Int) (x : Nd) : Nd := ⟨x.pb, x.bf, x.bt, x.n, takeF k b x.F, putL b.1 k x.T⟩
def gaveN (a k : Int) (x : Nd) : Nd := ⟨x.pb, x.bf, x.bt, x.n, giveF a k x.F, delL a x.T⟩

/-- a place -/
abbrev Pl := Int × Int × Int
/-- what a take comes to: the nodes, the error's number, the place -/
def takeZ (mn : Int) (O : List (List Int)) (L : List Nd) (v k : Int) (u : Bool) : List Nd × Nat × Pl :=
  if v < 0 ∨ (L.length : Int) ≤ v ∨ k < 0 ∨ 6 < k then (L, 2, (0, 0, 0)) else
  match pickZ mn k u L (O.getD v.toNat []) with
  | none => (L, lowZ k L, (0, 0, 0))
  | some j => match L[j.toNat]? with
    | none => (L, 0, (0, 0, 0))
    | some x => match bestL k x.F with
      | none => (L, 0, (0, 0, 0))
      | some b => (L.set j.toNat (tookN k b x), 0, (j, b.1, k))
/-- what giving back comes to -/
def giveZ (L : List Nd) (v a k : Int) : List Nd × Nat :=
  if v < 0 ∨ (L.length : Int) ≤ v then (L, 2) else
  match L[v.toNat]? with
  | none => (L, 2)
  | some x => if getL x.T a = some k then (L.set v.toNat (gaveN a k x), 0) else (L, 4)

theorem find_at {α : Type} {p : α → Bool} {D : List α} {i : Nat} {y : α} (h : ∀ z ∈ D.take i, p z = false) (hy : D[i]? = some y) (hp : p y = true) : D.find? p = some y := by
  have hl := (List.getElem?_eq_some_iff.1 hy).1
  have e : D = D.take i ++ y :: D.drop (i + 1) := by
    conv => lhs; rw [← List.take_append_drop i D]
    rw [List.drop_eq_getElem_cons hl, (List.getElem?_eq_some_iff.1 hy).2]
  rw [e, List.find?_append, List.find?_eq_none.2 (fun z hz => by simp [h z hz])]
  simp [hp]
theorem find_no {α : Type} {p : α → Bool} {D : List α} (h : ∀ z ∈ D, p z = false) : D.find? p = none := List.find?_eq_none.2 fun z hz => by simp [h z hz]

/-- a node and what it came to: the same blocks -/
structure SameN (x y : Nd) : Prop where
  pb : y.pb = x.pb
  bf : y.bf = x.bf
  bt : y.bt = x.bt
  n : y.n = x.n
theorem SameN.refl (x : Nd) : SameN x x := ⟨rfl, rfl, rfl, rfl⟩
/-- zones with the same blocks -/
def SameZ (L M : List Nd) : Prop := L.length = M.length ∧ ∀ (i : Nat) (x y : Nd), L[i]? = some x → M[i]? = some y → SameN x y
theorem SameZ.refl (L : List Nd) : SameZ L L := ⟨rfl, fun i x y h1 h2 => by rw [h1] at h2; obtain rfl := Option.some.inj h2; exact SameN.refl _⟩
theorem SameZ.set {L : List Nd} {i : Nat} {x y : Nd} (hx : L[i]? = some x) (h : SameN x y) : SameZ L (L.set i y) := ⟨by simp, fun j a b ha hb => by
  by_cases e : i = j
  · subst e
    rw [hx] at ha; obtain rfl := Option.some.inj ha
    rw [List.getElem?_set_self (List.getElem?_eq_some_iff.1 hx).1] at hb
    obtain rfl := Option.some.inj hb
    exact h
  · rw [List.getElem?_set_ne e] at hb
    rw [ha] at hb; obtain rfl := Option.some.inj hb
    exact SameN.refl _⟩
theorem SameZ.cons {x y : Nd} {L M : List Nd} (h : SameZ (x :: L) (y :: M)) : SameN x y ∧ SameZ L M :=
  ⟨h.2 0 x y rfl rfl, by have := h.1; simpa using this, fun i a b ha hb => h.2 (i + 1) a b (by simpa using ha) (by simpa using hb)⟩
theorem SameZ.map {α : Type} (f : Nd → α) (hf : ∀ x y, SameN x y → f y = f x) : ∀ {L M : List Nd}, SameZ L M → M.map f = L.map f
  | [], [], _ => rfl
  | [], y :: M, h => by have := h.1; simp at this
  | x :: L, [], h => by have := h.1; simp at this
  | x :: L, y :: M, h => by
    obtain ⟨h1, h2⟩ := h.cons
    simp [hf x y h1, SameZ.map f hf h2]
theorem ys_eq (L : List Nd) : ys L = (L.map fun x => [x.bf, x.bt]).flatten := by simp [ys, List.flatMap]
theorem SameZ.ys {L M : List Nd} (h : SameZ L M) : ys M = ys L := by
  rw [ys_eq, ys_eq, h.map (fun x => [x.bf, x.bt]) fun x y q => by simp [q.bf, q.bt]]
theorem takeZ_same (mn : Int) (O : List (List Int)) (L : List Nd) (v k : Int) (u : Bool) : SameZ L (takeZ mn O L v k u).1 := by
  unfold takeZ
  split
  · exact SameZ.refl _
  split
  · exact SameZ.refl _
  split
  · exact SameZ.refl _
  rename_i x hx
  split
  · exact SameZ.refl _
  · exact SameZ.set hx ⟨rfl, rfl, rfl, rfl⟩
/-- the rows of a zone's order: each a row of all nodes -/
def OrdZ (O : List (List Int)) (n : Nat) : Prop := O.length = n ∧ ∀ D ∈ O, D.length = n ∧ ∀ x : Int, x ∈ D ↔ 0 ≤ x ∧ x < n
theorem OrdZ.get {O : List (List Int)} {n : Nat} (h : OrdZ O n) {i : Nat} (hi : i < n) : ∃ D, O[i]? = some D ∧ D.length = n ∧ ∀ x : Int, x ∈ D ↔ 0 ≤ x ∧ x < n := by
  have hl : i < O.length := by rw [h.1]; exact hi
  exact ⟨O[i], List.getElem?_eq_getElem hl, h.2 _ (List.getElem_mem hl)⟩
theorem okAt_some {mn k : Int} {u : Bool} {L : List Nd} {j : Int} (h : okAt mn k u L j = true) : ∃ x b, L[j.toNat]? = some x ∧ okN mn k u x = true ∧ bestL k x.F = some b := by
  unfold okAt at h
  split at h
  · rename_i x hx
    have h' := h
    unfold okN at h'
    simp only [Bool.and_eq_true] at h'
    obtain ⟨b, hb⟩ := Option.isSome_iff_exists.1 h'.2
    exact ⟨x, b, hx, h, hb⟩
  · cases h
theorem pickZ_some {mn k : Int} {u : Bool} {L : List Nd} {D : List Int} {j : Int} (h : pickZ mn k u L D = some j) : j ∈ D ∧ okAt mn k u L j = true :=
  ⟨List.mem_of_find?_eq_some h, List.find?_some h⟩

theorem takeZ_bad {mn : Int} {O : List (List Int)} {L : List Nd} {v k : Int} {u : Bool} (h : v < 0 ∨ (L.length : Int) ≤ v ∨ k < 0 ∨ 6 < k) : takeZ mn O L v k u = (L, 2, (0, 0, 0)) := by
  unfold takeZ; rw [if_pos h]
theorem takeZ_no {mn : Int} {O : List (List Int)} {L : List Nd} {v k : Int} {u : Bool} (h : ¬ (v < 0 ∨ (L.length : Int) ≤ v ∨ k < 0 ∨ 6 < k)) {D : List Int} (hD : O[v.toNat]? = some D) (hp : pickZ mn k u L D = none) : takeZ mn O L v k u = (L, lowZ k L, (0, 0, 0)) := by
  unfold takeZ; rw [if_neg h, List.getD_eq_getElem?_getD, hD, Option.getD_some, hp]
theorem takeZ_yes {mn : Int} {O : List (List Int)} {L : List Nd} {v k : Int} {u : Bool} (h : ¬ (v < 0 ∨ (L.length : Int) ≤ v ∨ k < 0 ∨ 6 < k)) {D : List Int} (hD : O[v.toNat]? = some D) {j : Int} (hp : pickZ mn k u L D = some j) {x : Nd} {b : Int × Int} (hx : L[j.toNat]? = some x) (hb : bestL k x.F = some b) :
    takeZ mn O L v k u = (L.set j.toNat (tookN k b x), 0, (j, b.1, k)) := by
  unfold takeZ; rw [if_neg h, List.getD_eq_getElem?_getD, hD, Option.getD_some, hp]
  simp only [hx, hb]
theorem takeZ_cases {mn : Int} {O : List (List Int)} {L : List Nd} {v k : Int} {u : Bool} (hO : OrdZ O L.length) (h : ¬ (v < 0 ∨ (L.length : Int) ≤ v ∨ k < 0 ∨ 6 < k)) :
    ∃ D, O[v.toNat]? = some D ∧ D.length = L.length ∧ (∀ x : Int, x ∈ D ↔ 0 ≤ x ∧ x < L.length) ∧
      ((pickZ mn k u L D = none ∧ takeZ mn O L v k u = (L, lowZ k L, (0, 0, 0))) ∨
       ∃ j x b, pickZ mn k u L D = some j ∧ 0 ≤ j ∧ j < L.length ∧ L[j.toNat]? = some x ∧ okN mn k u x = true ∧ bestL k x.F = some b ∧ takeZ mn O L v k u = (L.set j.toNat (tookN k b x), 0, (j, b.1, k))) := by
  obtain ⟨D, hD, hl, hm⟩ := hO.get (i := v.toNat) (by omega)
  refine ⟨D, hD, hl, hm, ?_⟩
  cases hp : pickZ mn k u L D with
  | none => exact .inl ⟨rfl, takeZ_no h hD hp⟩
  | some j =>
    obtain ⟨h1, h2⟩ := pickZ_some hp
    obtain ⟨x, b, hx, hk, hb⟩ := okAt_some h2
    have := (hm j).1 h1
    exact .inr ⟨j, x, b, rfl, this.1, this.2, hx, hk, hb, takeZ_yes h hD hp hx hb⟩
theorem lowZ_pos (k : Int) (L : List Nd) : lowZ k L = 7 ∨ lowZ k L = 5 := by unfold lowZ; split <;> simp
end Go.Proofs.YtcokmiidgdmdlaaGreatDoor

namespace Go.Proofs.YtcokmiidgdmdlaaGreatDoor
set_option linter.unusedSimpArgs false
set_option linter.unusedVariables false

/-- a slab: its node, where its page begins, its objects: which are taken -/
structure Sl where
  nd : Int
  pg : Int
  T : List Bool

def manyT (T : List Bool) : Nat := T.countP id
def manyS (s : Sl) : Nat := manyT s.T
theorem manyT_le (T : List Bool) : manyT T ≤ T.length := List.countP_le_length
theorem manyT_split (T : List Bool) {k : Nat} {b : Bool} (h : T[k]? = some b) : manyT T = manyT (T.take k) + (if b then 1 else 0) + manyT (T.drop (k + 1)) := by
  have hl := (List.getElem?_eq_some_iff.1 h).1
  have hv := (List.getElem?_eq_some_iff.1 h).2
  conv => lhs; rw [← List.take_append_drop k T, List.drop_eq_getElem_cons hl, hv]
  unfold manyT
  rw [List.countP_append, List.countP_cons]
  cases b <;> simp <;> omega
theorem manyT_set {T : List Bool} {k : Nat} {b : Bool} (h : T[k]? = some b) (c : Bool) : manyT (T.set k c) + (if b then 1 else 0) = manyT T + if c then 1 else 0 := by
  have hl := (List.getElem?_eq_some_iff.1 h).1
  rw [manyT_split T h]
  have e : (T.set k c)[k]? = some c := List.getElem?_set_self hl
  rw [manyT_split _ e]
  have e1 : (T.set k c).take k = T.take k := by
    rw [List.take_set_of_le (Nat.le_refl _)]
  have e2 : (T.set k c).drop (k + 1) = T.drop (k + 1) := by
    rw [List.drop_set_of_lt (by omega)]
  rw [e1, e2]
  omega
theorem manyT_pos {T : List Bool} {k : Nat} (h : T[k]? = some true) : 0 < manyT T := by
  have := manyT_split T h
  simp at this; omega
/-- the first object that is not taken -/
def freeAt (T : List Bool) : Nat := T.findIdx fun b => !b
theorem freeAt_spec {T : List Bool} (h : manyT T < T.length) : freeAt T < T.length ∧ T[freeAt T]? = some false ∧ ∀ j, j < freeAt T → T[j]? = some true := by
  have hx : ∃ b ∈ T, (!b) = true := by
    apply Classical.byContradiction
    intro hn
    have : manyT T = T.length := by
      unfold manyT
      rw [List.countP_eq_length]
      intro b hb
      cases b with
      | true => rfl
      | false => exact (hn ⟨false, hb, rfl⟩).elim
    omega
  have hl : freeAt T < T.length := List.findIdx_lt_length_of_exists hx
  refine ⟨hl, ?_, fun j hj => ?_⟩
  · rw [List.getElem?_eq_getElem hl]
    have := List.findIdx_getElem (p := fun b : Bool => !b) (xs := T) (w := hl)
    have e : (!T[freeAt T]) = true := this
    have e2 : T[freeAt T] = false := by simpa using e
    rw [e2]
  · have hjl : j < T.length := by omega
    rw [List.getElem?_eq_getElem hjl]
    have := List.not_of_lt_findIdx (p := fun b : Bool => !b) (xs := T) hj
    simpa using this
theorem freeAt_uniq {T : List Bool} {k : Nat} (hk : T[k]? = some false) (h : ∀ j, j < k → T[j]? = some true) : freeAt T = k := by
  have hm : manyT T < T.length := by
    have h1 := manyT_split T hk
    have h2 := manyT_le (T.take k)
    have h3 := manyT_le (T.drop (k + 1))
    have hl := (List.getElem?_eq_some_iff.1 hk).1
    simp at h1 h2 h3
    omega
  obtain ⟨h1, h2, h3⟩ := freeAt_spec hm
  rcases Nat.lt_trichotomy (freeAt T) k with q | q | q
  · rw [h _ q] at h2; cases h2
  · exact q
  · rw [h3 _ q] at hk; cases hk

def manyAt (C : List Sl) (m : Nat) : Nat := match C[m]? with | some z => manyS z | none => 0
theorem manyAt_of {C : List Sl} {m : Nat} {s : Sl} (h : C[m]? = some s) : manyAt C m = manyS s := by unfold manyAt; rw [h]
/-- the slab of node v that has room and has most objects taken, the first one of these, of the first i -/
def bestS (v : Int) (C : List Sl) : Nat → Option Nat
  | 0 => none
  | i + 1 => match C[i]? with
    | none => bestS v C i
    | some s => if s.nd = v ∧ manyS s < s.T.length then match bestS v C i with
      | none => some i
      | some m => if manyAt C m < manyS s then some i else some m
      else bestS v C i
theorem bestS_some {v : Int} {C : List Sl} : ∀ {i m : Nat}, bestS v C i = some m → m < i ∧ ∃ s, C[m]? = some s ∧ s.nd = v ∧ manyS s < s.T.length
  | 0, m, h => by cases h
  | i + 1, m, h => by
    unfold bestS at h
    split at h
    · have := bestS_some h; exact ⟨by omega, this.2⟩
    rename_i s hs
    split at h
    · rename_i hc
      split at h
      · obtain rfl := Option.some.inj h; exact ⟨by omega, s, hs, hc⟩
      · rename_i m' hm'
        split at h
        · obtain rfl := Option.some.inj h; exact ⟨by omega, s, hs, hc⟩
        · obtain rfl := Option.some.inj h; have := bestS_some hm'; exact ⟨by omega, this.2⟩
    · have := bestS_some h; exact ⟨by omega, this.2⟩
theorem bestS_none {v : Int} {C : List Sl} : ∀ {i : Nat}, bestS v C i = none → ∀ j s, j < i → C[j]? = some s → s.nd = v → s.T.length ≤ manyS s
  | 0, h => fun j s hj => by omega
  | i + 1, h => by
    unfold bestS at h
    intro j s hj hs hv
    split at h
    · rename_i hn
      by_cases e : j = i
      · subst e; rw [hs] at hn; cases hn
      · exact bestS_none h j s (by omega) hs hv
    rename_i z hz
    split at h
    · split at h
      · cases h
      · split at h <;> cases h
    · rename_i hc
      by_cases e : j = i
      · subst e; rw [hs] at hz; obtain rfl := Option.some.inj hz
        have := fun q => hc ⟨hv, q⟩; omega
      · exact bestS_none h j s (by omega) hs hv

/-- does a slab lie ahead of a page? -/
def ltP (s : Sl) (j a : Int) : Prop := s.nd < j ∨ s.nd = j ∧ s.pg < a
instance (s : Sl) (j a : Int) : Decidable (ltP s j a) := by unfold ltP; infer_instance
def ltS (s t : Sl) : Prop := ltP s t.nd t.pg
/-- where a page's slab goes -/
def posS (j a : Int) (C : List Sl) : Nat := C.findIdx fun s => !decide (ltP s j a)
theorem posS_le (j a : Int) (C : List Sl) : posS j a C ≤ C.length := List.findIdx_le_length
theorem posS_lt {j a : Int} {C : List Sl} {i : Nat} {s : Sl} (hi : i < posS j a C) (hs : C[i]? = some s) : ltP s j a := by
  have := List.not_of_lt_findIdx (p := fun s => !decide (ltP s j a)) (xs := C) hi
  have e := (List.getElem?_eq_some_iff.1 hs).2
  simp [e] at this
  exact this
theorem posS_at {j a : Int} {C : List Sl} {s : Sl} (hs : C[posS j a C]? = some s) : ¬ ltP s j a := by
  have hl := (List.getElem?_eq_some_iff.1 hs).1
  have := List.findIdx_getElem (p := fun s => !decide (ltP s j a)) (xs := C) (w := hl)
  have e := (List.getElem?_eq_some_iff.1 hs).2
  have t2 : (!decide (ltP C[posS j a C] j a)) = true := this
  rw [e] at t2
  simpa using t2
theorem ltS_trans {s t u : Sl} (h : ltS s t) (k : ltS t u) : ltS s u := by unfold ltS ltP at *; omega
theorem posS_ge {j a : Int} {C : List Sl} (hp : C.Pairwise ltS) {i : Nat} {s : Sl} (hi : posS j a C ≤ i) (hs : C[i]? = some s) : ¬ ltP s j a := by
  have hl := (List.getElem?_eq_some_iff.1 hs).1
  obtain ⟨t, ht⟩ : ∃ t, C[posS j a C]? = some t := ⟨C[posS j a C]'(by omega), List.getElem?_eq_getElem _⟩
  have h0 := posS_at ht
  by_cases e : posS j a C = i
  · rw [e] at ht; rw [hs] at ht; obtain rfl := Option.some.inj ht; exact h0
  · have := List.pairwise_iff_getElem.1 hp (posS j a C) i (by omega) hl (by omega)
    rw [(List.getElem?_eq_some_iff.1 ht).2, (List.getElem?_eq_some_iff.1 hs).2] at this
    unfold ltS ltP at *; omega
def insS (C : List Sl) (s : Sl) : List Sl := C.take (posS s.nd s.pg C) ++ s :: C.drop (posS s.nd s.pg C)

/-- objects of a page -/
def roomE (e : Nat) : Nat := 64 / e
def noneT (e : Nat) : List Bool := List.replicate (roomE e) false
theorem roomE_pos {e : Nat} (h1 : 1 ≤ e) (h2 : e ≤ 64) : 0 < roomE e := Nat.div_pos h2 h1
theorem manyT_none (e : Nat) : manyT (noneT e) = 0 := by unfold manyT noneT; simp [List.countP_replicate]
theorem freeAt_none {e : Nat} (h1 : 1 ≤ e) (h2 : e ≤ 64) : freeAt (noneT e) = 0 := freeAt_uniq (by have := roomE_pos h1 h2; unfold noneT; simp [List.getElem?_replicate]; omega) (fun j hj => by omega)

/-- an object: its node, and where it begins -/
abbrev Ob := Int × Int
def obOf (e : Nat) (s : Sl) (k : Nat) : Ob := (s.nd, s.pg * 64 + k * e)
def useS (s : Sl) (k : Nat) (b : Bool) : Sl := ⟨s.nd, s.pg, s.T.set k b⟩
/-- a cache: its zone's nodes, its slabs -/
structure Ca where
  L : List Nd
  C : List Sl
/-- what a take comes to: the cache, the error's number, the object -/
def takeC (mn : Int) (O : List (List Int)) (e : Nat) (c : Ca) (v : Int) (u : Bool) : Ca × Nat × Ob :=
  if v < 0 ∨ (c.L.length : Int) ≤ v then (c, 2, (0, 0)) else
  match bestS v c.C c.C.length with
  | some i => match c.C[i]? with
    | none => (c, 2, (0, 0))
    | some s => (⟨c.L, c.C.set i (useS s (freeAt s.T) true)⟩, 0, obOf e s (freeAt s.T))
  | none => if (takeZ mn O c.L v 0 u).2.1 = 0 then
      (⟨(takeZ mn O c.L v 0 u).1, insS c.C (useS ⟨(takeZ mn O c.L v 0 u).2.2.1, (takeZ mn O c.L v 0 u).2.2.2.1, noneT e⟩ 0 true)⟩, 0, ((takeZ mn O c.L v 0 u).2.2.1, (takeZ mn O c.L v 0 u).2.2.2.1 * 64))
    else (⟨(takeZ mn O c.L v 0 u).1, c.C⟩, (takeZ mn O c.L v 0 u).2.1, (0, 0))
/-- has a slab an object that is taken? -/
def hasS (e : Nat) (o : Ob) (s : Sl) : Bool := decide (s.nd = o.1) && decide (0 ≤ o.2 - s.pg * 64) && decide ((o.2 - s.pg * 64) % e = 0) && (s.T[((o.2 - s.pg * 64) / e).toNat]? == some true)
def kOf (e : Nat) (o : Ob) (s : Sl) : Nat := ((o.2 - s.pg * 64) / e).toNat
theorem hasS_iff {e : Nat} (e1 : 1 ≤ e) {o : Ob} {s : Sl} : hasS e o s = true ↔ s.T[kOf e o s]? = some true ∧ o = obOf e s (kOf e o s) := by
  unfold hasS kOf obOf
  simp only [Bool.and_eq_true, decide_eq_true_eq, beq_iff_eq]
  constructor
  · rintro ⟨⟨⟨h1, h2⟩, h3⟩, h4⟩
    refine ⟨h4, Prod.ext h1.symm ?_⟩
    have hq : 0 ≤ (o.2 - s.pg * 64) / (e : Int) := Int.ediv_nonneg h2 (by omega)
    have := Int.mul_ediv_add_emod (o.2 - s.pg * 64) e
    show o.2 = s.pg * 64 + (((o.2 - s.pg * 64) / (e : Int)).toNat : Int) * e
    rw [Int.toNat_of_nonneg hq, Int.mul_comm ((o.2 - s.pg * 64) / (e : Int)) e]
    omega
  · rintro ⟨h4, h⟩
    have h1 : o.1 = s.nd := congrArg Prod.fst h
    have h2 : o.2 = s.pg * 64 + (((o.2 - s.pg * 64) / e).toNat : Int) * e := congrArg Prod.snd h
    obtain ⟨q, hq⟩ : ∃ q : Nat, q = ((o.2 - s.pg * 64) / e).toNat := ⟨_, rfl⟩
    rw [← hq] at h2 h4 ⊢
    have h3 : o.2 - s.pg * 64 = (q : Int) * e := by omega
    have h5 : 0 ≤ (q : Int) * e := Int.mul_nonneg (by omega) (by omega)
    refine ⟨⟨⟨h1.symm, by omega⟩, ?_⟩, h4⟩
    rw [h3, Int.mul_emod_left]
theorem kOf_uniq {e : Nat} (e1 : 1 ≤ e) {o : Ob} {s : Sl} {k : Nat} (h : o = obOf e s k) : kOf e o s = k := by
  unfold kOf
  have h2 : o.2 = s.pg * 64 + (k : Int) * e := congrArg Prod.snd h
  rw [show o.2 - s.pg * 64 = (k : Int) * e by omega, Int.mul_ediv_cancel _ (by omega)]
  omega
/-- the slab that has an object -/
def findS (e : Nat) (o : Ob) (C : List Sl) : Option Nat := C.findIdx? (hasS e o)
theorem findS_some {e : Nat} {o : Ob} {C : List Sl} {i : Nat} (h : findS e o C = some i) : ∃ s, C[i]? = some s ∧ hasS e o s = true ∧ ∀ j z, j < i → C[j]? = some z → hasS e o z = false := by
  obtain ⟨hl, h1, h2⟩ := List.findIdx?_eq_some_iff_getElem.1 h
  refine ⟨C[i], List.getElem?_eq_getElem hl, h1, fun j z hj hz => ?_⟩
  have := h2 j hj
  rw [(List.getElem?_eq_some_iff.1 hz).2] at this
  simpa using this
theorem findS_none {e : Nat} {o : Ob} {C : List Sl} (h : findS e o C = none) : ∀ s ∈ C, hasS e o s = false := by
  have := List.findIdx?_eq_none_iff.1 h
  exact this
def giveC (e : Nat) (c : Ca) (o : Ob) : Ca × Nat := match findS e o c.C with
  | none => (c, 9)
  | some i => match c.C[i]? with
    | none => (c, 9)
    | some s => (⟨c.L, c.C.set i (useS s (kOf e o s) false)⟩, 0)
/-- is a slab to go? -/
def goS (v : Int) (s : Sl) : Bool := decide (s.nd = v) && decide (manyS s = 0)
/-- what shrinking comes to, from slab i - 1 on down: the cache, how many went -/
def shrinkC (v most : Int) : Nat → Ca × Nat → Ca × Nat
  | 0, r => r
  | i + 1, (c, n) => match c.C[i]? with
    | none => shrinkC v most i (c, n)
    | some s => if (n : Int) < most ∧ goS v s = true then shrinkC v most i (⟨(giveZ c.L s.nd s.pg 0).1, c.C.eraseIdx i⟩, n + 1) else shrinkC v most i (c, n)
/-- slabs' pages, and counts, and objects -/
def placesC (C : List Sl) : List Pl := C.map fun s => (s.nd, s.pg, 0)
def takenN (C : List Sl) : Nat := (C.map manyS).sum
def roomN (C : List Sl) : Nat := (C.map fun s => s.T.length).sum
def obsS (e : Nat) (s : Sl) : List Ob := (List.range s.T.length).filterMap fun k => if s.T[k]? = some true then some (obOf e s k) else none
def obsC (e : Nat) (C : List Sl) : List Ob := C.flatMap (obsS e)
end Go.Proofs.YtcokmiidgdmdlaaGreatDoor

namespace Go.Proofs.YtcokmiidgdmdlaaGreatDoor
set_option linter.unusedSimpArgs false
set_option linter.unusedVariables false

theorem getL_range {n : Int} {F T : List (Int × Int)} (h : Inv n F T) {a k : Int} (hg : getL T a = some k) : 0 ≤ a ∧ a < 256 := by
  have := h.rngT (getL_mem hg); exact ⟨this.1, this.2.1⟩
/-- each slab's page is taken of its node -/
def TakenP (L : List Nd) (s : Sl) : Prop := 0 ≤ s.nd ∧ ∃ x, L[s.nd.toNat]? = some x ∧ getL x.T s.pg = some 0
/-- what stays true of a cache of objects of e bytes -/
structure InvC (e : Nat) (c : Ca) : Prop where
  e1 : 1 ≤ e
  e2 : e ≤ 64
  zi : ∀ x ∈ c.L, Inv x.n x.F x.T
  zl : c.L.length ≤ 4
  srt : c.C.Pairwise ltS
  len : ∀ s ∈ c.C, s.T.length = roomE e
  tk : ∀ s ∈ c.C, TakenP c.L s
theorem TakenP.rng {L : List Nd} {s : Sl} (h : TakenP L s) (hI : ∀ x ∈ L, Inv x.n x.F x.T) : 0 ≤ s.nd ∧ s.nd < L.length ∧ 0 ≤ s.pg ∧ s.pg < 256 := by
  obtain ⟨h0, x, hx, hg⟩ := h
  have hl := (List.getElem?_eq_some_iff.1 hx).1
  have := getL_range (hI x (List.mem_of_getElem? hx)) hg
  exact ⟨h0, by omega, this.1, this.2⟩
theorem strict_len : ∀ (n : Nat) (l : List Int), l.Pairwise (· < ·) → (∀ x ∈ l, 0 ≤ x ∧ x < n) → l.length ≤ n
  | n, [], _, _ => by simp
  | n, x :: r, hp, h => by
    obtain ⟨p1, p2⟩ := List.pairwise_cons.1 hp
    obtain ⟨m, rfl⟩ : ∃ m, n = m + 1 := ⟨n - 1, by have := h x (by simp); omega⟩
    have := strict_len m (r.map fun y => y - 1) (by
      rw [List.pairwise_map]; exact p2.imp fun q => by omega) (fun y hy => by
      obtain ⟨z, hz, rfl⟩ := List.mem_map.1 hy
      have a := p1 z hz
      have b := h z (List.mem_cons_of_mem _ hz)
      have c := h x (by simp)
      omega)
    simp at this ⊢; omega
theorem InvC.rng {e : Nat} {c : Ca} (h : InvC e c) {s : Sl} (hs : s ∈ c.C) : 0 ≤ s.nd ∧ s.nd < 4 ∧ 0 ≤ s.pg ∧ s.pg < 256 := by
  have := (h.tk s hs).rng h.zi
  have := h.zl
  omega
theorem slabs_few {C : List Sl} (hp : C.Pairwise ltS) (hr : ∀ s ∈ C, 0 ≤ s.nd ∧ s.nd < 4 ∧ 0 ≤ s.pg ∧ s.pg < 256) : C.length ≤ 1024 := by
  have := strict_len 1024 (C.map fun s => s.nd * 256 + s.pg) (by
    rw [List.pairwise_map]
    refine hp.imp_of_mem fun {a b} ha hb q => ?_
    have := hr a ha; have := hr b hb
    unfold ltS ltP at q; omega) (fun x hx => by
    obtain ⟨s, hs, rfl⟩ := List.mem_map.1 hx
    have := hr s hs; omega)
  simpa using this
theorem InvC.few {e : Nat} {c : Ca} (h : InvC e c) : c.C.length ≤ 1024 := slabs_few h.srt fun s hs => h.rng hs
theorem InvC.get {e : Nat} {c : Ca} (h : InvC e c) {i : Nat} {s : Sl} (hs : c.C[i]? = some s) : s ∈ c.C := List.mem_of_getElem? hs

theorem InvC.use {e : Nat} {c : Ca} (h : InvC e c) {i : Nat} {s : Sl} (hs : c.C[i]? = some s) (k : Nat) (b : Bool) : InvC e ⟨c.L, c.C.set i (useS s k b)⟩ := by
  have hm := List.mem_of_getElem? hs
  have hl := (List.getElem?_eq_some_iff.1 hs).1
  have hv := (List.getElem?_eq_some_iff.1 hs).2
  refine ⟨h.e1, h.e2, h.zi, h.zl, ?_, fun z hz => ?_, fun z hz => ?_⟩
  · rw [List.pairwise_iff_getElem]
    intro a d ha hd hlt
    simp at ha hd
    have hp := List.pairwise_iff_getElem.1 h.srt a d ha hd hlt
    simp only [List.getElem_set]
    by_cases e1 : i = a
    · subst e1
      have : i ≠ d := by omega
      rw [if_pos rfl, if_neg this]
      rw [hv] at hp; exact hp
    · rw [if_neg e1]
      by_cases e2 : i = d
      · subst e2
        rw [if_pos rfl]
        rw [hv] at hp; exact hp
      · rw [if_neg e2]; exact hp
  · rcases List.mem_or_eq_of_mem_set hz with q | q
    · exact h.len z q
    · subst q; simp [useS]; exact h.len s hm
  · rcases List.mem_or_eq_of_mem_set hz with q | q
    · exact h.tk z q
    · subst q; exact h.tk s hm
theorem mem_insS {C : List Sl} {s z : Sl} : z ∈ insS C s ↔ z = s ∨ z ∈ C := by
  unfold insS
  rw [List.mem_append, List.mem_cons]
  constructor
  · rintro (h | h | h)
    · exact .inr (List.mem_of_mem_take h)
    · exact .inl h
    · exact .inr (List.mem_of_mem_drop h)
  · rintro (h | h)
    · exact .inr (.inl h)
    · rw [← List.take_append_drop (posS s.nd s.pg C) C, List.mem_append] at h
      rcases h with h | h
      · exact .inl h
      · exact .inr (.inr h)
theorem insS_length (C : List Sl) (s : Sl) : (insS C s).length = C.length + 1 := by
  have := posS_le s.nd s.pg C
  unfold insS; simp; omega
theorem insS_sorted {C : List Sl} {s : Sl} (hp : C.Pairwise ltS) (hn : ∀ z ∈ C, ¬ (z.nd = s.nd ∧ z.pg = s.pg)) : (insS C s).Pairwise ltS := by
  unfold insS
  have hall : ∀ a ∈ C.take (posS s.nd s.pg C), ltS a s := fun a ha => by
    obtain ⟨i, hi⟩ := List.getElem?_of_mem ha
    have hl := (List.getElem?_eq_some_iff.1 hi).1
    rw [List.length_take] at hl
    rw [List.getElem?_take_of_lt (by omega)] at hi
    exact posS_lt (by omega) hi
  have hge : ∀ a ∈ C.drop (posS s.nd s.pg C), ltS s a := fun a ha => by
    obtain ⟨i, hi⟩ := List.getElem?_of_mem ha
    rw [List.getElem?_drop] at hi
    have h1 := posS_ge (j := s.nd) (a := s.pg) hp (i := posS s.nd s.pg C + i) (by omega) hi
    have h2 := hn a (List.mem_of_getElem? hi)
    unfold ltS ltP at *; omega
  refine List.pairwise_append.2 ⟨hp.sublist (List.take_sublist _ _), List.pairwise_cons.2 ⟨hge, hp.sublist (List.drop_sublist _ _)⟩, fun a ha b hb => ?_⟩
  rcases List.mem_cons.1 hb with rfl | hb
  · exact hall a ha
  · exact ltS_trans (hall a ha) (hge b hb)
theorem TakenP.set {L : List Nd} {s : Sl} (h : TakenP L s) {j : Nat} {x y : Nd} (hx : L[j]? = some x) (hy : s.nd = j → getL x.T s.pg = some 0 → getL y.T s.pg = some 0) : TakenP (L.set j y) s := by
  obtain ⟨h0, z, hz, hg⟩ := h
  refine ⟨h0, ?_⟩
  by_cases e : j = s.nd.toNat
  · subst e
    rw [hx] at hz; obtain rfl := Option.some.inj hz
    exact ⟨y, List.getElem?_set_self (List.getElem?_eq_some_iff.1 hx).1, hy (by omega) hg⟩
  · exact ⟨z, by rw [List.getElem?_set_ne e]; exact hz, hg⟩
theorem fresh_page {n : Int} {F T : List (Int × Int)} (h : Inv n F T) {b : Int × Int} (hb : b ∈ F) : getL T b.1 = none := by
  cases hg : getL T b.1 with
  | none => rfl
  | some k => exact ((h.hand hb).other (List.mem_append_right _ (getL_mem hg)) rfl).elim
theorem page_cases {mn : Int} {O : List (List Int)} {L : List Nd} {v : Int} {u : Bool} (hO : OrdZ O L.length) (hI : ∀ x ∈ L, Inv x.n x.F x.T) (h : ¬ (v < 0 ∨ (L.length : Int) ≤ v)) :
    (∃ k, (k = 7 ∨ k = 5) ∧ takeZ mn O L v 0 u = (L, k, (0, 0, 0))) ∨
    ∃ (j : Nat) (x : Nd) (b : Int × Int), L[j]? = some x ∧ bestL 0 x.F = some b ∧ getL x.T b.1 = none ∧ 0 ≤ b.1 ∧ b.1 < 256 ∧ takeZ mn O L v 0 u = (L.set j (tookN 0 b x), 0, ((j : Int), b.1, 0)) := by
  obtain ⟨D, hD, hl, hm, hc⟩ := takeZ_cases (mn := mn) (u := u) (k := 0) hO (by omega : ¬ (v < 0 ∨ (L.length : Int) ≤ v ∨ (0 : Int) < 0 ∨ (6 : Int) < 0))
  rcases hc with ⟨hp, e⟩ | ⟨j, x, b, hp, j0, j1, hx, hk, hb, e⟩
  · exact .inl ⟨lowZ 0 L, lowZ_pos 0 L, e⟩
  · refine .inr ⟨j.toNat, x, b, hx, hb, ?_, ?_, ?_, ?_⟩
    · exact fresh_page (hI x (List.mem_of_getElem? hx)) (bestL_some hb).1
    · exact ((hI x (List.mem_of_getElem? hx)).rngF (bestL_some hb).1).1
    · exact ((hI x (List.mem_of_getElem? hx)).rngF (bestL_some hb).1).2.1
    · rw [e, Int.toNat_of_nonneg j0]
theorem tookN_inv {x : Nd} (h : Inv x.n x.F x.T) {k : Int} (k0 : 0 ≤ k) {b : Int × Int} (hb : bestL k x.F = some b) : Inv (tookN k b x).n (tookN k b x).F (tookN k b x).T := h.take k0 hb
theorem zi_set {L : List Nd} (h : ∀ x ∈ L, Inv x.n x.F x.T) {j : Nat} {y : Nd} (hy : Inv y.n y.F y.T) : ∀ x ∈ L.set j y, Inv x.n x.F x.T := fun x hx => by
  rcases List.mem_or_eq_of_mem_set hx with q | q
  · exact h x q
  · subst q; exact hy
theorem TakenP.took {L : List Nd} {s : Sl} (h : TakenP L s) {j : Nat} {x : Nd} (hx : L[j]? = some x) {b : Int × Int} (hi : Inv x.n x.F x.T) (hb : getL x.T b.1 = none) : TakenP (L.set j (tookN 0 b x)) s :=
  h.set hx fun _ hg => by
    show getL (putL b.1 0 x.T) s.pg = some 0
    rw [getL_put _ _ _ hi.ta]
    split
    · rfl
    · exact hg
theorem takeC_inv {mn : Int} {O : List (List Int)} {e : Nat} {c : Ca} {v : Int} {u : Bool} (hO : OrdZ O c.L.length) (h : InvC e c) : InvC e (takeC mn O e c v u).1 := by
  unfold takeC
  by_cases hv : v < 0 ∨ (c.L.length : Int) ≤ v
  · rw [if_pos hv]; exact h
  rw [if_neg hv]
  cases hb : bestS v c.C c.C.length with
  | some i =>
    obtain ⟨_, s, hs, _⟩ := bestS_some hb
    simp only [hs]
    exact h.use hs _ _
  | none =>
    simp only
    rcases page_cases (mn := mn) (u := u) hO h.zi hv with ⟨k, hk, e⟩ | ⟨j, x, b, hx, hbb, hf, b0, b1, e⟩
    · rw [e]
      have : ¬ (k = 0) := by rcases hk with q | q <;> omega
      simp only [this, if_false]
      exact h
    · rw [e]
      simp only [if_true]
      have hix := h.zi x (List.mem_of_getElem? hx)
      have hjl := (List.getElem?_eq_some_iff.1 hx).1
      refine ⟨h.e1, h.e2, zi_set h.zi (tookN_inv hix (by omega) hbb), by simpa using h.zl, ?_, fun z hz => ?_, fun z hz => ?_⟩
      · refine insS_sorted h.srt fun z hz q => ?_
        obtain ⟨q1, q2⟩ := q
        obtain ⟨_, y, hy, hg⟩ := h.tk z hz
        simp only [useS] at q1 q2
        rw [q1, Int.toNat_natCast, hx] at hy
        obtain rfl := Option.some.inj hy
        rw [q2, hf] at hg; cases hg
      · rcases mem_insS.1 hz with rfl | q
        · simp [useS, noneT]
        · exact h.len z q
      · rcases mem_insS.1 hz with rfl | q
        · refine ⟨by simp [useS], tookN 0 b x, ?_, ?_⟩
          · simp only [useS, Int.toNat_natCast]
            exact List.getElem?_set_self hjl
          · show getL (putL b.1 0 x.T) b.1 = some 0
            rw [getL_put _ _ _ hix.ta, if_pos rfl]
        · exact (h.tk z q).took hx hix hf
theorem giveC_inv {e : Nat} {c : Ca} {o : Ob} (h : InvC e c) : InvC e (giveC e c o).1 := by
  unfold giveC
  split
  · exact h
  · split
    · exact h
    · rename_i hs; exact h.use hs _ _
theorem takeC_same (mn : Int) (O : List (List Int)) (e : Nat) (c : Ca) (v : Int) (u : Bool) : SameZ c.L (takeC mn O e c v u).1.L := by
  unfold takeC
  split
  · exact SameZ.refl _
  split
  · split <;> exact SameZ.refl _
  · split <;> exact takeZ_same ..
theorem giveC_same (e : Nat) (c : Ca) (o : Ob) : (giveC e c o).1.L = c.L := by
  unfold giveC
  split
  · rfl
  · split <;> rfl
end Go.Proofs.YtcokmiidgdmdlaaGreatDoor

namespace Go.Proofs.YtcokmiidgdmdlaaGreatDoor
open Go.RowKit Go.Maps
set_option linter.unusedSimpArgs false

theorem fitL_nil_of {k : Int} {F : List (Int × Int)} (h : bestL k F = none) : fitL k F = [] := by
  unfold bestL at h
  split at h
  · assumption
  · cases h
theorem fitL_cons_of {k : Int} {F : List (Int × Int)} {x : Int × Int} (h : bestL k F = some x) : ∃ y r, fitL k F = y :: r ∧ minL y r = x := by
  unfold bestL at h
  split at h
  · cases h
  · rename_i y r e
    exact ⟨y, r, e, Option.some.inj h⟩

set_option maxHeartbeats 1000000 in
theorem take_full {B : Nat} {ev : Nat → Addr} (pb : Nat) (n : Int) (bf bt : Nat) (F T : List (Int × Int)) (k : Int) (w : World) (hE : ErrD B ev w) (hb : Bud w pb n bf bt F T) (k0 : 0 ≤ k) (k6 : k ≤ 6) (h : bestL k F = none) :
    Calls Tryz.prog 60 #[.pointer (some ⟨pb, 0, none⟩), .int .i64 k] w fun e w' => e = .returned (.tuple #[.agg #[.int .i64 0, .int .i64 0], errV ev 5]) ∧ Below w.heap.size w w' := by
  have hB := hE.size
  have hmf : ∀ (fn : Fn) (first cap : Array Value) (w : World), (Instr.makeFunc fn first cap).run Tryz.prog w = .ok (.func fn first cap) w := fun _ _ _ _ => rfl
  have c1 := hb.c1
  have lp := hb.ltp
  have HF := Lib.hid hb.free
  have lf := hb.ltf
  have few := hb.free.few
  have fit := fitL_nil_of h
  have FIT := Lib.hid fit
  clear hb h fit
  go_enter Tryz.func60, Tryz.ntmps60
  go_wp2_with (go_at_call 58; refine (size_yes _ _ ⟨k0, k6⟩).mono ?_; rintro e w' ⟨rfl, rfl⟩)
  refine (sorted_ok bf F _ (HF.out.below (n := w.heap.size) (by repeat (first | exact Below.refl _ _ | refine Below.drew ?_ | refine below_drewN ?_ _ | refine Below.trans ?_ (Below.mono (by assumption) (by first | omega | (simp; omega) | (simp; done))) | refine Below.alloc ?_ (by first | omega | (simp; omega) | (simp; done)) _ | refine Below.setCell ?_ (by first | omega | (simp; omega) | (simp; done)) _)) lf)).mono ?_
  rintro e w1 ⟨v, rfl, hv⟩
  have hb1 := hv.2
  have z1 := hb1.size
  simp at z1
  have kc : w1.cell? ⟨w.heap.size, 0, none⟩ = some (.int .i64 k) := (hb1.cell (p := ⟨w.heap.size, 0, none⟩) (by first | omega | (simp; omega) | (simp; done))).trans (by rw [World.cell?_alloc_past _ _ _ (by first | omega | (simp; omega) | (simp; done)), World.cell?_alloc_at _ _ _ _ (by simp)]; rfl)
  have r0 : w1.cell? ⟨w.heap.size + 1, 0, none⟩ = some (.int .i64 0) := (hb1.cell (p := ⟨w.heap.size + 1, 0, none⟩) (by first | omega | (simp; omega) | (simp; done))).trans (by rw [World.cell?_alloc_at _ _ _ _ (by simp)]; rfl)
  have r1 : w1.cell? ⟨w.heap.size + 1, 1, none⟩ = some (.int .i64 0) := (hb1.cell (p := ⟨w.heap.size + 1, 1, none⟩) (by simp)).trans (by rw [World.cell?_alloc_at _ _ _ _ (by simp)]; rfl)
  have f0 : w1.frozen? ⟨w.heap.size + 1, 0, none⟩ = false := (hb1.frozen (p := ⟨w.heap.size + 1, 0, none⟩) (by simp)).trans (World.frozen?_alloc_at _ _ _ _ (by simp))
  have f1 : w1.frozen? ⟨w.heap.size + 1, 1, none⟩ = false := (hb1.frozen (p := ⟨w.heap.size + 1, 1, none⟩) (by simp)).trans (World.frozen?_alloc_at _ _ _ _ (by simp))
  have hE1 : ErrD B ev w1 := hE.below (by repeat (first | exact Below.refl _ _ | refine Below.drew ?_ | refine below_drewN ?_ _ | refine Below.trans ?_ (Below.mono (by assumption) (by first | omega | (simp; omega) | (simp; done))) | refine Below.alloc ?_ (by first | omega | (simp; omega) | (simp; done)) _ | refine Below.setCell ?_ (by first | omega | (simp; omega) | (simp; done)) _))
  have K1 : Below w.heap.size w w1 := (by repeat (first | exact Below.refl _ _ | refine Below.drew ?_ | refine below_drewN ?_ _ | refine Below.trans ?_ (Below.mono (by assumption) (by first | omega | (simp; omega) | (simp; done))) | refine Below.alloc ?_ (by first | omega | (simp; omega) | (simp; done)) _ | refine Below.setCell ?_ (by first | omega | (simp; omega) | (simp; done)) _))
  have z5 := hE1.z5
  have c5 := hE1.c5
  have HE1 := Lib.hid hE1
  -- what DeleteFunc leaves: nothing
  have key : Calls Tryz.prog 108 #[v, clos w.heap.size] w1 fun e w' => ∃ p c, e = .returned (.slice p 0 c) ∧ Below (w.heap.size + 2) w1 w' := by
    rcases hv.mrow with ⟨rfl, hnil⟩ | ⟨g, cap, rfl, hg0, hg, hcap, hc⟩
    · exact (delF_nil _ _).mono fun e w' ⟨h1, h2⟩ => ⟨_, _, h1, by rw [← h2]; exact Below.refl _ _⟩
    · have hg1 : w.heap.size + 2 ≤ g := by simpa using hg0
      have hcl : w.heap.size < w1.heap.size := by omega
      have hcg : w.heap.size ≠ g := by omega
      refine (delF_any g cap w.heap.size k F w1 hc hg few hcap kc hcl hcg).mono fun e w' ⟨h1, _, h3⟩ => ?_
      rw [FIT.out] at h1
      exact ⟨_, _, h1, h3.below (by omega) (fun s hs => by rw [List.mem_singleton.1 hs]; exact hg1)⟩
  have KEY := Lib.hid key
  clear key hv
  unfold clos at KEY
  go_wp2_with fail
  refine KEY.out.mono ?_
  rintro e w2 ⟨p, c, rfl, hb2⟩
  have z2 := hb2.size
  have c5' : w2.cell? ⟨1, 0, none⟩ = some (errV ev 5) := (hb2.cell (p := ⟨1, 0, none⟩) (show 1 < w.heap.size + 2 by have := hE.z5; omega)).trans c5
  have r0' : w2.cell? ⟨w.heap.size + 1, 0, none⟩ = some (.int .i64 0) := (hb2.cell (p := ⟨w.heap.size + 1, 0, none⟩) (by simp)).trans r0
  have r1' : w2.cell? ⟨w.heap.size + 1, 1, none⟩ = some (.int .i64 0) := (hb2.cell (p := ⟨w.heap.size + 1, 1, none⟩) (by simp)).trans r1
  have f0' : w2.frozen? ⟨w.heap.size + 1, 0, none⟩ = false := (hb2.frozen (p := ⟨w.heap.size + 1, 0, none⟩) (by simp)).trans f0
  have f1' : w2.frozen? ⟨w.heap.size + 1, 1, none⟩ = false := (hb2.frozen (p := ⟨w.heap.size + 1, 1, none⟩) (by simp)).trans f1
  clear c5 r0 r1 f0 f1 kc
  have z5' := hE.z5
  have ne5 : ¬ (w.heap.size + 1 = 1) := by omega
  have ne5' : ¬ (1 = w.heap.size + 1) := by omega
  go_wp2
  go_region
  all_goals go_wp2
  all_goals
    have e0 := set_cell_same (.int .i64 0) r0'
    have e1 := set_cell_same (w := w2.setCell ⟨w.heap.size + 1, 0, none⟩ (.int .i64 0)) (.int .i64 0) ((set_cell_other _ (by omega)).trans r1')
    have e2 := (set_cell_other (w := w2.setCell ⟨w.heap.size + 1, 0, none⟩ (.int .i64 0)) (g := w.heap.size + 1) (o := 1) (o' := 0) (.int .i64 0) (by omega)).trans e0
    exact bodyPost_ret (v := .tuple #[.agg #[.int .i64 0, .int .i64 0], errV ev 5]) (by simp [e0, e1, e2, results, Tryz.results60, go_sem]) rfl ⟨rfl, (by repeat (first | exact Below.refl _ _ | refine Below.drew ?_ | refine below_drewN ?_ _ | refine Below.trans ?_ (Below.mono (by assumption) (by first | omega | (simp; omega) | (simp; done))) | refine Below.alloc ?_ (by first | omega | (simp; omega) | (simp; done)) _ | refine Below.setCell ?_ (by first | omega | (simp; omega) | (simp; done)) _))⟩
/-- a block of pages in a local variable: what its two cells hold; it may be written -/
structure Loc2 (w : World) (b : Nat) (a m : Int) : Prop where
  lt : b < w.heap.size
  c0 : w.cell? ⟨b, 0, none⟩ = some (.int .i64 a)
  c1 : w.cell? ⟨b, 1, none⟩ = some (.int .i64 m)
  f0 : w.frozen? ⟨b, 0, none⟩ = false
  f1 : w.frozen? ⟨b, 1, none⟩ = false
theorem Loc2.keep {S : List Nat} {w w' : World} {b : Nat} {a m : Int} (h : Loc2 w b a m) (k : Keep S w w') (hb : b ∉ S) : Loc2 w' b a m :=
  ⟨Nat.lt_of_lt_of_le h.lt k.size, (k.cell h.lt hb).trans h.c0, (k.cell h.lt hb).trans h.c1, (k.frozen h.lt hb).trans h.f0, (k.frozen h.lt hb).trans h.f1⟩
theorem Loc2.new (w : World) (a m : Int) (t : TypeId) : Loc2 (w.alloc (.cells #[.int .i64 a, .int .i64 m] t)) w.heap.size a m :=
  ⟨by simp, by rw [World.cell?_alloc_at _ _ _ _ (by simp)]; rfl, by rw [World.cell?_alloc_at _ _ _ _ (by simp)]; rfl, World.frozen?_alloc_at _ _ _ _ (by simp), World.frozen?_alloc_at _ _ _ _ (by simp)⟩
theorem Loc2.store {w : World} {b : Nat} {a m : Int} (h : Loc2 w b a m) (a' m' : Int) : Loc2 ((w.setCell ⟨b, 0, none⟩ (.int .i64 a')).setCell ⟨b, 1, none⟩ (.int .i64 m')) b a' m' := by
  have e0 := set_cell_same (.int .i64 a') h.c0
  exact ⟨by simpa [World.setCell] using h.lt, (set_cell_other (.int .i64 m') (by omega)).trans e0, set_cell_same _ ((set_cell_other _ (by omega)).trans h.c1), by rw [set_frozen, set_frozen]; exact h.f0, by rw [set_frozen, set_frozen]; exact h.f1⟩
theorem Keep.store2 {S : List Nat} {w0 w : World} {b : Nat} (h : Keep S w0 w) (hb : b ∈ S ∨ w0.heap.size ≤ b) (u v : Value) : Keep S w0 ((w.setCell ⟨b, 0, none⟩ u).setCell ⟨b, 1, none⟩ v) := (h.setCell (p := ⟨b, 0, none⟩) hb u).setCell (p := ⟨b, 1, none⟩) hb v

theorem downF_succ {k m : Int} {a : Int} {F : List (Int × Int)} (h : k < m) : downF (m - k).toNat a k F = downF (m - 1 - k).toNat a k (putL (a + sz (m - 1)) (m - 1) F) := by
  obtain ⟨d, hd⟩ : ∃ d, (m - k).toNat = d + 1 := ⟨(m - k).toNat - 1, by omega⟩
  have e1 : (m - 1 - k).toNat = d := by omega
  have e2 : k + (d : Int) = m - 1 := by omega
  rw [hd, e1, downF, e2]
theorem InvH.down0 {n : Int} {F T : List (Int × Int)} {a k : Int} (h : InvH n F T (a, k)) : downE a k = 0 ↔ k ≠ 0 := by
  obtain ⟨b0, b1, b2, b3⟩ := h.blk
  have bn := h.t.bound (List.mem_cons_self ..)
  have := sz_pos k
  have := h.n2
  simp only at b0 b1 b2 b3 bn
  have ha : aloneE a k = 0 := aloneE_mk b0 (by omega) b1 b2 b3
  exact ⟨fun q => (downE_zero q).2, fun q => downE_mk ha q⟩

set_option maxHeartbeats 4000000 in
set_option maxRecDepth 100000 in
theorem take_ok {B : Nat} {ev : Nat → Addr} (pb : Nat) (n : Int) (bf bt : Nat) (F T : List (Int × Int)) (k : Int) (x : Int × Int) (w : World) (hE : ErrC B ev w) (hBf : B ≤ bf) (hb : Bud w pb n bf bt F T) (hI : Inv n F T) (k0 : 0 ≤ k) (k6 : k ≤ 6) (h : bestL k F = some x) :
    Calls Tryz.prog 60 #[.pointer (some ⟨pb, 0, none⟩), .int .i64 k] w fun e w' => e = .returned (.tuple #[.agg #[.int .i64 x.1, .int .i64 k], .nilIface]) ∧ Bud w' pb n bf bt (takeF k x F) (putL x.1 k T) ∧ Keep [bf, bt] w w' := by
  have hB := hE.size
  have hmf : ∀ (fn : Fn) (first cap : Array Value) (w : World), (Instr.makeFunc fn first cap).run Tryz.prog w = .ok (.func fn first cap) w := fun _ _ _ _ => rfl
  have c1 := hb.c1
  have lp := hb.ltp
  have lf := hb.ltf
  have lt := hb.ltt
  have few := hb.free.few
  obtain ⟨y, r, hfit, hmin⟩ := fitL_cons_of h
  obtain ⟨hxF, hkx⟩ := bestL_some h
  have hIH := hI.hand hxF
  have hfin := hI.take k0 h
  have hrx := hI.rngF hxF
  have FIT := Lib.hid hfit; have MIN := Lib.hid hmin; have IH := Lib.hid hIH; have HB := Lib.hid hb; have HI := Lib.hid hI; have FIN := Lib.hid hfin; have XF := Lib.hid hxF
  have hfl : (fitL k F).length ≤ 256 := Nat.le_trans (List.length_filter_le _ _) few
  rw [hfit] at hfl
  clear hb h hfit hmin hIH hfin hI hxF
  go_enter Tryz.func60, Tryz.ntmps60
  go_wp2_with (go_at_call 58; refine (size_yes _ _ ⟨k0, k6⟩).mono ?_; rintro e w' ⟨rfl, rfl⟩)
  refine (sorted_ok bf F _ (HB.out.free.below (n := w.heap.size) (by repeat (first | exact Below.refl _ _ | refine Below.drew ?_ | refine below_drewN ?_ _ | refine Below.trans ?_ (Below.mono (by assumption) (by first | omega | (simp; omega) | (simp; done))) | refine Below.alloc ?_ (by first | omega | (simp; omega) | (simp; done)) _ | refine Below.setCell ?_ (by first | omega | (simp; omega) | (simp; done)) _)) lf)).mono ?_
  rintro e w1 ⟨v, rfl, hv⟩
  have hb1 := hv.2
  have z1 := hb1.size
  simp at z1
  have kc : w1.cell? ⟨w.heap.size, 0, none⟩ = some (.int .i64 k) := (hb1.cell (p := ⟨w.heap.size, 0, none⟩) (by first | omega | (simp; omega) | (simp; done))).trans (by rw [World.cell?_alloc_past _ _ _ (by first | omega | (simp; omega) | (simp; done)), World.cell?_alloc_at _ _ _ _ (by simp)]; rfl)
  have r0 : w1.cell? ⟨w.heap.size + 1, 0, none⟩ = some (.int .i64 0) := (hb1.cell (p := ⟨w.heap.size + 1, 0, none⟩) (by first | omega | (simp; omega) | (simp; done))).trans (by rw [World.cell?_alloc_at _ _ _ _ (by simp)]; rfl)
  have r1 : w1.cell? ⟨w.heap.size + 1, 1, none⟩ = some (.int .i64 0) := (hb1.cell (p := ⟨w.heap.size + 1, 1, none⟩) (by first | omega | (simp; omega) | (simp; done))).trans (by rw [World.cell?_alloc_at _ _ _ _ (by simp)]; rfl)
  have f0 : w1.frozen? ⟨w.heap.size + 1, 0, none⟩ = false := (hb1.frozen (p := ⟨w.heap.size + 1, 0, none⟩) (by simp)).trans (World.frozen?_alloc_at _ _ _ _ (by simp))
  have f1 : w1.frozen? ⟨w.heap.size + 1, 1, none⟩ = false := (hb1.frozen (p := ⟨w.heap.size + 1, 1, none⟩) (by simp)).trans (World.frozen?_alloc_at _ _ _ _ (by simp))
  have K1 : Keep [] w w1 := Keep.of ((by repeat (first | exact Below.refl _ _ | refine Below.drew ?_ | refine below_drewN ?_ _ | refine Below.trans ?_ (Below.mono (by assumption) (by first | omega | (simp; omega) | (simp; done))) | refine Below.alloc ?_ (by first | omega | (simp; omega) | (simp; done)) _ | refine Below.setCell ?_ (by first | omega | (simp; omega) | (simp; done)) _)))
  -- what DeleteFunc leaves
  have key : ∃ g cap, w.heap.size + 2 ≤ g ∧ Calls Tryz.prog 108 #[v, clos w.heap.size] w1 fun e w' => e = .returned (.slice (some ⟨g, 0, none⟩) (y :: r).length cap) ∧ Row2 w' g (y :: r) ∧ Keep [g] w1 w' ∧ g < w'.heap.size := by
    rcases hv.mrow with ⟨rfl, hnil⟩ | ⟨g, cap, rfl, hg0, hg, hcap, hc⟩
    · have := XF.out
      rw [hnil] at this
      cases this
    · have hg1 : w.heap.size + 2 ≤ g := by simpa using hg0
      have hcl : w.heap.size < w1.heap.size := by omega
      have hcg : w.heap.size ≠ g := by omega
      refine ⟨g, cap, hg1, (delF_any g cap w.heap.size k F w1 hc hg few hcap kc hcl hcg).mono fun e w' ⟨h1, h2, h3⟩ => ?_⟩
      rw [FIT.out] at h1 h2
      exact ⟨h1, h2, h3, by have := h3.size; omega⟩
  obtain ⟨g, cap, hg, key⟩ := key
  have KEY := Lib.hid key
  clear key hv XF FIT
  unfold clos at KEY
  obtain ⟨m, hm⟩ : ∃ m, m = (y :: r).length := ⟨_, rfl⟩
  have hm1 : 1 ≤ m := by rw [hm]; simp
  rw [← hm] at KEY hfl
  have hm0 : ((m : Int) == 0) = false := beq_eq_false_iff_ne.2 (by omega)
  have HM := Lib.hid hm
  clear hm
  go_wp2_with fail
  refine KEY.out.mono ?_
  rintro e w2 ⟨rfl, row2, hk2, hg2⟩
  have z2 := hk2.size
  have r0' := (hk2.cell (b := w.heap.size + 1) (o := 0) (by first | omega | (simp; omega) | (simp; done)) (by simp; omega)).trans r0
  have r1' := (hk2.cell (b := w.heap.size + 1) (o := 1) (by first | omega | (simp; omega) | (simp; done)) (by simp; omega)).trans r1
  have f0' := (hk2.frozen (b := w.heap.size + 1) (o := 0) (by first | omega | (simp; omega) | (simp; done)) (by simp; omega)).trans f0
  have f1' := (hk2.frozen (b := w.heap.size + 1) (o := 1) (by first | omega | (simp; omega) | (simp; done)) (by simp; omega)).trans f1
  have kc' := (hk2.cell (b := w.heap.size) (o := 0) (by first | omega | (simp; omega) | (simp; done)) (by simp; omega)).trans kc
  have K2 : Keep [] w w2 := K1.trans hk2 (fun s hs => .inr (by rw [List.mem_singleton.1 hs]; omega))
  have MF := Lib.hid (minF_any g cap y r w2 row2 hg2 (by rw [← HM.out]; exact hfl))
  rw [← HM.out, MIN.out] at MF
  clear kc r0 r1 f0 f1 hk2 row2
  go_wp2_with fail
  refine MF.out.mono ?_
  rintro e w3 ⟨rfl, hb3⟩
  clear MF hm0
  have z3 := hb3.size
  have K3 : Keep [] w w3 := K2.step hb3
  have r0 := (hb3.cell (p := ⟨w.heap.size + 1, 0, none⟩) (by first | omega | (simp; omega) | (simp; done))).trans r0'
  have r1 := (hb3.cell (p := ⟨w.heap.size + 1, 1, none⟩) (by first | omega | (simp; omega) | (simp; done))).trans r1'
  have f0 := (hb3.frozen (p := ⟨w.heap.size + 1, 0, none⟩) (by first | omega | (simp; omega) | (simp; done))).trans f0'
  have f1 := (hb3.frozen (p := ⟨w.heap.size + 1, 1, none⟩) (by first | omega | (simp; omega) | (simp; done))).trans f1'
  have kc := (hb3.cell (p := ⟨w.heap.size, 0, none⟩) (by first | omega | (simp; omega) | (simp; done))).trans kc'
  clear r0' r1' f0' f1' kc'
  obtain ⟨a, m0⟩ := x
  simp only at hrx hkx
  have L1 : Loc2 w3 (w.heap.size + 1) 0 0 := ⟨by omega, r0, r1, f0, f1⟩
  have HL1 := Lib.hid L1
  have lp3 : pb < w3.heap.size := by omega
  have c1' := (K3.cell (o := 1) lp (by simp)).trans c1
  have ka : Keep [] w3 ((w3.alloc (.cells #[.int .i64 a, .int .i64 m0] 39)).drew) := ((Keep.refl _ _).alloc _).drew
  have M3 : MapB ((w3.alloc (.cells #[.int .i64 a, .int .i64 m0] 39)).drew) bf F := (HB.out.free.keep K3 (by simp)).keep ka (by simp)
  obtain ⟨w4, hrun, hdrop, hturn⟩ := M3.drop (a := a) (wfInt hrx.1 hrx.2.1) 0
  have ne3 : bf ≠ w3.heap.size := by omega
  have ne1 : bf ≠ w.heap.size := by omega
  have ne2 : bf ≠ w.heap.size + 1 := by omega
  have k34 : Keep [bf] w3 w4 := (ka.mono (fun s q => by cases q)).grown hturn.grown (.inl (by simp))
  have kb4 : Keep [bf] ((w3.alloc (.cells #[.int .i64 a, .int .i64 m0] 39)).drew) w4 := (Keep.refl _ _).grown hturn.grown (.inl (by simp))
  have D := Lib.hid hdrop
  have X4 := Lib.hid (((Loc2.new w3 a m0 39).keep (Keep.drew (Keep.refl [] _)) (by simp)).keep kb4 (by simpa using ne3.symm))
  have R4 := Lib.hid (L1.keep k34 (by simpa using ne2.symm))
  have O4 := Lib.hid ((k34.cell (b := w.heap.size) (o := 0) (by omega) (by simpa using ne1.symm)).trans kc)
  have B4 := Lib.hid ((HB.out.keep K3 (by simp) (by simp) (by simp)).turnF hdrop k34)
  have K4 : Keep [bf] w w4 := (K3.mono (fun s q => by cases q)).then k34
  clear hdrop hturn L1 r0 r1 f0 f1 kb4 M3 ka
  go_wp2_with fail
  refine wp_tail 6 (by kernel_rfl) (by kernel_rfl) ?_
  simp only [List.take_succ_cons, List.take_zero, List.drop_succ_cons, List.drop_zero]
  repeat still_step
  refine wpStill_nil ?_
  go_wp2
  clear hrun kc c1' c1
  have z4 := k34.size
  have IH4 := Lib.hid (show InvH n (delL a F) T (a, m0) from IH.out)
  have DF4 := Lib.hid (show downF (m0 - k).toNat a k (delL a F) = takeF k (a, m0) F from rfl)
  clear IH k34 HL1
  go_loopg [10, 11, 12] 7 (fun gg _ _ _ wr => ∃ (q : Int) (F' : List (Int × Int)), (q - k).toNat < gg ∧ k ≤ q ∧ q ≤ 6 ∧ Hid (Bud wr pb n bf bt F' T) ∧ Hid (InvH n F' T (a, q)) ∧ Hid (downF (q - k).toNat a k F' = takeF k (a, m0) F) ∧ Hid (Loc2 wr w3.heap.size a q) ∧ Hid (Loc2 wr (w.heap.size + 1) 0 0)
    ∧ Hid (wr.cell? ⟨w.heap.size, 0, none⟩ = some (.int .i64 k)) ∧ Keep [bf] w wr ∧ w3.heap.size < wr.heap.size)
  case atStart => exact ⟨m0, delL a F, by omega, hkx, by omega, B4, IH4, DF4, X4, R4, O4, K4, X4.out.lt⟩
  case round =>
    obtain ⟨q, F', hgg, hkq, hq6, HBr, IHr, DFr, Xr, Rr, Or, Kr, zr⟩ := hrel
    clear B4 IH4 DF4 X4 R4 O4 K4
    have x0 := Xr.out.c0; have x1 := Xr.out.c1
    have o0 := Or.out
    by_cases hlt : k < q
    · have hcut := InvH.cut (n := n) (F := F') (T := T) (a := a) (k := q - 1) (by omega) (by rw [show q - 1 + 1 = q by omega]; exact IHr.out)
      have hdn := (InvH.down0 IHr.out).2 (by omega)
      have hEr : ErrC B ev wr := hE.below (Kr.below (B := B) (by omega) (fun s hs => by rw [List.mem_singleton.1 hs]; exact hBf))
      have hrg := hcut.rng (p := (a + sz (q - 1), q - 1)) (List.mem_cons_of_mem _ (List.mem_append_left _ ((mem_putL IHr.out.fa).2 (.inl rfl))))
      have hln := asc_len256 hcut.fa (fun p hp => hcut.rng (List.mem_cons_of_mem _ (List.mem_append_left _ hp)))
      have CUT := Lib.hid hcut
      have HO := Lib.hid (halves_ok a q wr hEr hdn)
      clear hcut hdn hEr
      go_wp2_with fail
      refine HO.out.mono ?_
      rintro e w5 ⟨rfl, hb5⟩
      clear HO
      have z5 := hb5.size
      have q1 := (hb5.cell (p := ⟨pb, 1, none⟩) (show pb < wr.heap.size by omega)).trans HBr.out.c1
      have lp5 : pb < w5.heap.size := by omega
      have ka : Keep [] w5 (((w5.alloc (.cells #[.int .i64 a, .int .i64 (q - 1)] 39)).alloc (.cells #[.int .i64 (a + sz (q - 1)), .int .i64 (q - 1)] 39)).drew) := (((Keep.refl _ _).alloc _).alloc _).drew
      have kr5 : Keep [] wr w5 := Keep.of hb5
      have B5 := HBr.out.keep kr5 (by simp) (by simp) (by simp)
      obtain ⟨w7, hrun, hput, hgr⟩ := (B5.free.keep ka (by simp)).put hrg hln
      have k57 : Keep [bf] w5 w7 := (ka.mono (fun s q => by cases q)).grown hgr (.inl (by simp))
      have z7 := k57.size
      have kl : Keep [bf] (((w5.alloc (.cells #[.int .i64 a, .int .i64 (q - 1)] 39)).alloc (.cells #[.int .i64 (a + sz (q - 1)), .int .i64 (q - 1)] 39)).drew) w7 := (Keep.refl _ _).grown hgr (.inl (by simp))
      have nl : w5.heap.size ≠ bf := by omega
      have LO := ((Loc2.new w5 a (q - 1) 39).keep (((Keep.refl [] _).alloc (.cells #[.int .i64 (a + sz (q - 1)), .int .i64 (q - 1)] 39)).drew) (by simp)).keep kl (by simpa using nl)
      have l0 := LO.c0; have l1 := LO.c1
      have kr7 : Keep [bf] wr w7 := (kr5.mono (fun s q => by cases q)).then k57
      have X7 := Xr.out.keep kr7 (by simpa using ne3.symm)
      have R7 := Rr.out.keep kr7 (by simpa using ne2.symm)
      have x2 := X7.c0; have x3 := X7.c1; have x4 := X7.f0; have x5 := X7.f1
      have B7 := B5.turnF hput k57
      have O7 := (kr7.cell (b := w.heap.size) (o := 0) (by omega) (by simpa using ne1.symm)).trans o0
      have np : pb ≠ w3.heap.size := by omega
      have nt' : bt ≠ w3.heap.size := by omega
      have nw1 : w.heap.size ≠ w3.heap.size := by omega
      have nw2 : w.heap.size + 1 ≠ w3.heap.size := by omega
      have ks : Keep [w3.heap.size] w7 ((w7.setCell ⟨w3.heap.size, 0, none⟩ (.int .i64 a)).setCell ⟨w3.heap.size, 1, none⟩ (.int .i64 (q - 1))) := (Keep.refl _ _).store2 (.inl (by simp)) _ _
      have B8 := Lib.hid (B7.keep ks (by simpa using np) (by simpa using ne3) (by simpa using nt'))
      have X8 := Lib.hid (X7.store a (q - 1))
      have R8 := Lib.hid (R7.keep ks (by simpa using nw2))
      have O8 := Lib.hid ((ks.cell (b := w.heap.size) (o := 0) (by omega) (by simpa using nw1)).trans O7)
      have K8 := Lib.hid ((Kr.then kr7).store2 (b := w3.heap.size) (.inr (by omega)) (.int .i64 a) (.int .i64 (q - 1)))
      clear hput hgr ka kr5 B5 k57 kl LO kr7 X7 R7 B7 O7 ks o0 x0 x1 hrg hln
      go_wp2_with fail
      refine wp_tail 8 (by kernel_rfl) (by kernel_rfl) ?_
      simp only [List.take_succ_cons, List.take_zero, List.drop_succ_cons, List.drop_zero]
      repeat still_step
      refine wpStill_nil ?_
      go_wp2
      go_roundg ((q - 1 - k).toNat + 1)
      case measure => omega
      case rel => exact ⟨q - 1, _, by omega, by omega, by omega, B8, CUT, by rw [← DFr.out, downF_succ hlt]; rfl, X8, R8, O8, K8.out, by simp [World.setCell]; omega⟩
    · have eq : q = k := by omega
      subst eq
      have hput := IHr.out
      have e0 : (q - q).toNat = 0 := by omega
      have hF : F' = takeF q (a, m0) F := by have := DFr.out; rwa [e0] at this
      have br := HBr.out
      have c2 := br.c2
      have lpr : pb < wr.heap.size := by omega
      have ka : Keep [] wr wr.drew := (Keep.refl _ _).drew
      have hrg := hput.rng (p := (a, q)) (List.mem_cons_self ..)
      have hln := asc_len256 hput.putT.ta (fun p hp => hput.putT.rngT hp)
      obtain ⟨w7, hrun, hpt, hgr⟩ := (br.taken.keep ka (by simp)).put hrg hln
      have k7 : Keep [bt] wr w7 := (ka.mono (fun s q => by cases q)).grown hgr (.inl (by simp))
      have nt1 : w3.heap.size ≠ bt := by omega
      have nt2 : w.heap.size + 1 ≠ bt := by omega
      have X7 := Xr.out.keep k7 (by simpa using nt1)
      have R7 := Rr.out.keep k7 (by simpa using nt2)
      have x2 := X7.c0; have x3 := X7.c1
      have y0 := R7.c0; have y1 := R7.c1; have y2 := R7.f0; have y3 := R7.f1
      have B7 := br.turnT hpt k7
      have K7 : Keep [bf, bt] w w7 := (Kr.mono (fun s hs => by simp at hs ⊢; exact .inl hs)).then (k7.mono (fun s hs => by simp at hs ⊢; exact .inr hs))
      have np : pb ≠ w.heap.size + 1 := by omega
      have nf : bf ≠ w.heap.size + 1 := by omega
      have nt' : bt ≠ w.heap.size + 1 := by omega
      have ks : Keep [w.heap.size + 1] w7 ((w7.setCell ⟨w.heap.size + 1, 0, none⟩ (.int .i64 a)).setCell ⟨w.heap.size + 1, 1, none⟩ (.int .i64 q)) := (Keep.refl _ _).store2 (.inl (by simp)) _ _
      have B8 := B7.keep ks (by simpa using np) (by simpa using nf) (by simpa using nt')
      rw [hF] at B8
      have HB8 := Lib.hid B8
      have R8 := R7.store a q
      have rc0 := R8.c0; have rc1 := R8.c1
      have K8 := Lib.hid (K7.store2 (b := w.heap.size + 1) (.inr (by omega)) (.int .i64 a) (.int .i64 q))
      have RR := Lib.hid R8
      clear hput hF br hrg hln hpt hgr k7 X7 R7 B7 K7 ks B8 ka R8
      have hnlt : ¬ q < q := by omega
      go_wp2_with fail
      refine wp_tail 8 (by kernel_rfl) (by kernel_rfl) ?_
      simp only [List.take_succ_cons, List.take_zero, List.drop_succ_cons, List.drop_zero]
      repeat still_step
      refine wpStill_nil ?_
      go_wp2
      have e0 := set_cell_same (.int .i64 a) y0
      exact bodyPost_ret (v := .tuple #[.agg #[.int .i64 a, .int .i64 q], .nilIface]) (by simp [e0, rc0, rc1, results, Tryz.results60, go_sem]) rfl ⟨rfl, HB8.out, K8.out⟩
end Go.Proofs.YtcokmiidgdmdlaaGreatDoor

namespace Go.Proofs.YtcokmiidgdmdlaaGreatDoor
open Go.RowKit Go.Maps
set_option linter.unusedSimpArgs false

def upP (a k : Int) (F : List (Int × Int)) : List (Int × Int) := putL (upF (6 - k).toNat a k F).1.1 (upF (6 - k).toNat a k F).1.2 (upF (6 - k).toNat a k F).2
end Go.Proofs.YtcokmiidgdmdlaaGreatDoor
