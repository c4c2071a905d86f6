/- Zones as plain data: what taking, and giving back, does to the nodes. -/
import Derived.Test.YtigginpcokfihaaGreatDoorPlain
namespace Go.Proofs.YtigginpcokfihaaGreatDoor
set_option linter.unusedSimpArgs false
set_option linter.unusedVariables false

/-- a node: its buddy's block, the buddy's two maps, its pages, what is free and what is taken -/
structure Nd where
  pb : Nat
  bf : Nat
  bt : Nat
  n : Int
  F : List (Int × Int)
  T : List (Int × Int)
/-- the blocks that acts on the nodes write -/
def ys (L : List Nd) : List Nat := L.flatMap fun x => [x.bf, x.bt]
theorem ys_snoc (L : List Nd) (x : Nd) : ys (L ++ [x]) = ys L ++ [x.bf, x.bt] := by simp [ys]
theorem ys_mem {L : List Nd} {y : Nat} : y ∈ ys L ↔ ∃ x ∈ L, y = x.bf ∨ y = x.bt := by simp [ys]

/-- may a node give a block of order k so? -/
def mayN (mn k : Int) (u : Bool) (x : Nd) : Bool := u || decide (mn ≤ sumL x.F - sz k)
def okN (mn k : Int) (u : Bool) (x : Nd) : Bool := mayN mn k u x && (bestL k x.F).isSome
def okAt (mn k : Int) (u : Bool) (L : List Nd) (j : Int) : Bool := match L[j.toNat]? with | some x => okN mn k u x | none => false
/-- the node that gives a block -/
def pickZ (mn k : Int) (u : Bool) (L : List Nd) (D : List Int) : Option Int := D.find? (okAt mn k u L)
/-- has a node a free block that is as great? -/
def someN (k : Int) (x : Nd) : Bool := x.F.any fun p => decide (k ≤ p.2)
def lowZ (k : Int) (L : List Nd) : Nat := if L.any (someN k) then 7 else 5
def tookN (k : Int) (b : Int × Int) (x : Nd) : Nd := ⟨x.pb, x.bf, x.bt, x.n, takeF k b x.F, putL b.1 k x.T⟩
def gaveN (a k : Int) (x : Nd) : Nd := ⟨x.pb, x.bf, x.bt, x.n, giveF a k x.F, delL a x.T⟩

/-- a place -/
abbrev Pl := Int × Int × Int
/-- what a take comes to: the nodes, the error's number, the place -/
def takeZ (mn : Int) (O : List (List Int)) (L : List Nd) (v k : Int) (u : Bool) : List Nd × Nat × Pl :=
  if v < 0 ∨ (L.length : Int) ≤ v ∨ k < 0 ∨ 6 < k then (L, 2, (0, 0, 0)) else
  match pickZ mn k u L (O.getD v.toNat []) with
  | none => (L, lowZ k L, (0, 0, 0))
  | some j => match L[j.toNat]? with
    | none => (L, 0, (0, 0, 0))
    | some x => match bestL k x.F with
      | none => (L, 0, (0, 0, 0))
      | some b => (L.set j.toNat (tookN k b x), 0, (j, b.1, k))
/-- what giving back comes to -/
def giveZ (L : List Nd) (v a k : Int) : List Nd × Nat :=
  if v < 0 ∨ (L.length : Int) ≤ v then (L, 2) else
  match L[v.toNat]? with
  | none => (L, 2)
  | some x => if getL x.T a = some k then (L.set v.toNat (gaveN a k x), 0) else (L, 4)

theorem bestL_isSome {k : Int} {F : List (Int × Int)} : (bestL k F).isSome = F.any fun p => decide (k ≤ p.2) := by
  cases h : bestL k F with
  | none =>
    have := bestL_none h
    symm
    simp only [Option.isSome_none, List.any_eq_false, decide_eq_true_eq]
    intro x hx; have := this x hx; omega
  | some b =>
    have := bestL_some h
    symm
    simp only [Option.isSome_some, List.any_eq_true, decide_eq_true_eq]
    exact ⟨b, this.1, this.2⟩

theorem find_at {α : Type} {p : α → Bool} {D : List α} {i : Nat} {y : α} (h : ∀ z ∈ D.take i, p z = false) (hy : D[i]? = some y) (hp : p y = true) : D.find? p = some y := by
  have hl := (List.getElem?_eq_some_iff.1 hy).1
  have e : D = D.take i ++ y :: D.drop (i + 1) := by
    conv => lhs; rw [← List.take_append_drop i D]
    rw [List.drop_eq_getElem_cons hl, (List.getElem?_eq_some_iff.1 hy).2]
  rw [e, List.find?_append, List.find?_eq_none.2 (fun z hz => by simp [h z hz])]
  simp [hp]
theorem find_no {α : Type} {p : α → Bool} {D : List α} (h : ∀ z ∈ D, p z = false) : D.find? p = none := List.find?_eq_none.2 fun z hz => by simp [h z hz]

/-- a node and what it came to: the same blocks -/
structure SameN (x y : Nd) : Prop where
  pb : y.pb = x.pb
  bf : y.bf = x.bf
  bt : y.bt = x.bt
  n : y.n = x.n
theorem SameN.refl (x : Nd) : SameN x x := ⟨rfl, rfl, rfl, rfl⟩
/-- zones with the same blocks -/
def SameZ (L M : List Nd) : Prop := L.length = M.length ∧ ∀ (i : Nat) (x y : Nd), L[i]? = some x → M[i]? = some y → SameN x y
theorem SameZ.refl (L : List Nd) : SameZ L L := ⟨rfl, fun i x y h1 h2 => by rw [h1] at h2; obtain rfl := Option.some.inj h2; exact SameN.refl _⟩
theorem SameZ.trans {L M N : List Nd} (h : SameZ L M) (k : SameZ M N) : SameZ L N := ⟨h.1.trans k.1, fun i x z hx hz => by
  have hi := (List.getElem?_eq_some_iff.1 hx).1
  obtain ⟨y, hy⟩ : ∃ y, M[i]? = some y := ⟨M[i]'(by rw [← h.1]; exact hi), List.getElem?_eq_getElem _⟩
  have a := h.2 i x y hx hy
  have b := k.2 i y z hy hz
  exact ⟨b.pb.trans a.pb, b.bf.trans a.bf, b.bt.trans a.bt, b.n.trans a.n⟩⟩
theorem SameZ.set {L : List Nd} {i : Nat} {x y : Nd} (hx : L[i]? = some x) (h : SameN x y) : SameZ L (L.set i y) := ⟨by simp, fun j a b ha hb => by
  by_cases e : i = j
  · subst e
    rw [hx] at ha; obtain rfl := Option.some.inj ha
    rw [List.getElem?_set_self (List.getElem?_eq_some_iff.1 hx).1] at hb
    obtain rfl := Option.some.inj hb
    exact h
  · rw [List.getElem?_set_ne e] at hb
    rw [ha] at hb; obtain rfl := Option.some.inj hb
    exact SameN.refl _⟩
theorem SameZ.cons {x y : Nd} {L M : List Nd} (h : SameZ (x :: L) (y :: M)) : SameN x y ∧ SameZ L M :=
  ⟨h.2 0 x y rfl rfl, by have := h.1; simpa using this, fun i a b ha hb => h.2 (i + 1) a b (by simpa using ha) (by simpa using hb)⟩
theorem SameZ.map {α : Type} (f : Nd → α) (hf : ∀ x y, SameN x y → f y = f x) : ∀ {L M : List Nd}, SameZ L M → M.map f = L.map f
  | [], [], _ => rfl
  | [], y :: M, h => by have := h.1; simp at this
  | x :: L, [], h => by have := h.1; simp at this
  | x :: L, y :: M, h => by
    obtain ⟨h1, h2⟩ := h.cons
    simp [hf x y h1, SameZ.map f hf h2]
theorem ys_eq (L : List Nd) : ys L = (L.map fun x => [x.bf, x.bt]).flatten := by simp [ys, List.flatMap]
theorem SameZ.ys {L M : List Nd} (h : SameZ L M) : ys M = ys L := by
  rw [ys_eq, ys_eq, h.map (fun x => [x.bf, x.bt]) fun x y q => by simp [q.bf, q.bt]]
theorem SameZ.ns {L M : List Nd} (h : SameZ L M) : M.map (·.n) = L.map (·.n) := h.map _ fun x y q => q.n

theorem takeZ_same (mn : Int) (O : List (List Int)) (L : List Nd) (v k : Int) (u : Bool) : SameZ L (takeZ mn O L v k u).1 := by
  unfold takeZ
  split
  · exact SameZ.refl _
  split
  · exact SameZ.refl _
  split
  · exact SameZ.refl _
  rename_i x hx
  split
  · exact SameZ.refl _
  · exact SameZ.set hx ⟨rfl, rfl, rfl, rfl⟩
theorem giveZ_same (L : List Nd) (v a k : Int) : SameZ L (giveZ L v a k).1 := by
  unfold giveZ
  split
  · exact SameZ.refl _
  split
  · exact SameZ.refl _
  rename_i x hx
  split
  · exact SameZ.set hx ⟨rfl, rfl, rfl, rfl⟩
  · exact SameZ.refl _

/-- the rows of a zone's order: each a row of all nodes -/
def OrdZ (O : List (List Int)) (n : Nat) : Prop := O.length = n ∧ ∀ D ∈ O, D.length = n ∧ ∀ x : Int, x ∈ D ↔ 0 ≤ x ∧ x < n
theorem OrdZ.get {O : List (List Int)} {n : Nat} (h : OrdZ O n) {i : Nat} (hi : i < n) : ∃ D, O[i]? = some D ∧ D.length = n ∧ ∀ x : Int, x ∈ D ↔ 0 ≤ x ∧ x < n := by
  have hl : i < O.length := by rw [h.1]; exact hi
  exact ⟨O[i], List.getElem?_eq_getElem hl, h.2 _ (List.getElem_mem hl)⟩
theorem okAt_some {mn k : Int} {u : Bool} {L : List Nd} {j : Int} (h : okAt mn k u L j = true) : ∃ x b, L[j.toNat]? = some x ∧ okN mn k u x = true ∧ bestL k x.F = some b := by
  unfold okAt at h
  split at h
  · rename_i x hx
    have h' := h
    unfold okN at h'
    simp only [Bool.and_eq_true] at h'
    obtain ⟨b, hb⟩ := Option.isSome_iff_exists.1 h'.2
    exact ⟨x, b, hx, h, hb⟩
  · cases h
theorem pickZ_some {mn k : Int} {u : Bool} {L : List Nd} {D : List Int} {j : Int} (h : pickZ mn k u L D = some j) : j ∈ D ∧ okAt mn k u L j = true :=
  ⟨List.mem_of_find?_eq_some h, List.find?_some h⟩

theorem takeZ_bad {mn : Int} {O : List (List Int)} {L : List Nd} {v k : Int} {u : Bool} (h : v < 0 ∨ (L.length : Int) ≤ v ∨ k < 0 ∨ 6 < k) : takeZ mn O L v k u = (L, 2, (0, 0, 0)) := by
  unfold takeZ; rw [if_pos h]
theorem takeZ_no {mn : Int} {O : List (List Int)} {L : List Nd} {v k : Int} {u : Bool} (h : ¬ (v < 0 ∨ (L.length : Int) ≤ v ∨ k < 0 ∨ 6 < k)) {D : List Int} (hD : O[v.toNat]? = some D) (hp : pickZ mn k u L D = none) : takeZ mn O L v k u = (L, lowZ k L, (0, 0, 0)) := by
  unfold takeZ; rw [if_neg h, List.getD_eq_getElem?_getD, hD, Option.getD_some, hp]
theorem takeZ_yes {mn : Int} {O : List (List Int)} {L : List Nd} {v k : Int} {u : Bool} (h : ¬ (v < 0 ∨ (L.length : Int) ≤ v ∨ k < 0 ∨ 6 < k)) {D : List Int} (hD : O[v.toNat]? = some D) {j : Int} (hp : pickZ mn k u L D = some j) {x : Nd} {b : Int × Int} (hx : L[j.toNat]? = some x) (hb : bestL k x.F = some b) :
    takeZ mn O L v k u = (L.set j.toNat (tookN k b x), 0, (j, b.1, k)) := by
  unfold takeZ; rw [if_neg h, List.getD_eq_getElem?_getD, hD, Option.getD_some, hp]
  simp only [hx, hb]
/-- the three ways of a take -/
theorem takeZ_cases {mn : Int} {O : List (List Int)} {L : List Nd} {v k : Int} {u : Bool} (hO : OrdZ O L.length) (h : ¬ (v < 0 ∨ (L.length : Int) ≤ v ∨ k < 0 ∨ 6 < k)) :
    ∃ D, O[v.toNat]? = some D ∧ D.length = L.length ∧ (∀ x : Int, x ∈ D ↔ 0 ≤ x ∧ x < L.length) ∧
      ((pickZ mn k u L D = none ∧ takeZ mn O L v k u = (L, lowZ k L, (0, 0, 0))) ∨
       ∃ j x b, pickZ mn k u L D = some j ∧ 0 ≤ j ∧ j < L.length ∧ L[j.toNat]? = some x ∧ okN mn k u x = true ∧ bestL k x.F = some b ∧ takeZ mn O L v k u = (L.set j.toNat (tookN k b x), 0, (j, b.1, k))) := by
  obtain ⟨D, hD, hl, hm⟩ := hO.get (i := v.toNat) (by omega)
  refine ⟨D, hD, hl, hm, ?_⟩
  cases hp : pickZ mn k u L D with
  | none => exact .inl ⟨rfl, takeZ_no h hD hp⟩
  | some j =>
    obtain ⟨h1, h2⟩ := pickZ_some hp
    obtain ⟨x, b, hx, hk, hb⟩ := okAt_some h2
    have := (hm j).1 h1
    exact .inr ⟨j, x, b, rfl, this.1, this.2, hx, hk, hb, takeZ_yes h hD hp hx hb⟩
theorem lowZ_pos (k : Int) (L : List Nd) : lowZ k L = 7 ∨ lowZ k L = 5 := by unfold lowZ; split <;> simp
/-- what is told as low is had by who is urgent -/
theorem low_had {mn : Int} {O : List (List Int)} {L : List Nd} {v k : Int} (hO : OrdZ O L.length) {u : Bool} (h : (takeZ mn O L v k u).2.1 = 7) : (takeZ mn O L v k true).2.1 = 0 := by
  by_cases hb : v < 0 ∨ (L.length : Int) ≤ v ∨ k < 0 ∨ 6 < k
  · rw [takeZ_bad hb] at h; cases h
  · obtain ⟨D, hD, hl, hm, hc⟩ := takeZ_cases (mn := mn) (u := u) hO hb
    have hlow : L.any (someN k) = true := by
      rcases hc with ⟨_, e⟩ | ⟨j, x, b, _, _, _, _, _, _, e⟩
      · rw [e] at h
        unfold lowZ at h
        simp only at h
        split at h
        · assumption
        · cases h
      · rw [e] at h; cases h
    obtain ⟨D2, hD2, _, _, hc2⟩ := takeZ_cases (mn := mn) (u := true) hO hb
    rw [hD] at hD2; obtain rfl := Option.some.inj hD2
    rcases hc2 with ⟨e, _⟩ | ⟨j, x, b, _, _, _, _, _, _, e⟩
    · exfalso
      obtain ⟨x, hx, hs⟩ := List.any_eq_true.1 hlow
      obtain ⟨i, hi⟩ := List.getElem?_of_mem hx
      have hil := (List.getElem?_eq_some_iff.1 hi).1
      have := List.find?_eq_none.1 e (i : Int) ((hm _).2 ⟨by omega, by omega⟩)
      apply this
      unfold okAt
      rw [Int.toNat_natCast, hi]
      unfold okN mayN
      unfold someN at hs
      simp [bestL_isSome, hs]
    · rw [e]
/-- who is not urgent leaves Min -/
theorem take_min {mn : Int} {O : List (List Int)} {L : List Nd} {v k : Int} (hI : ∀ x ∈ L, Inv x.n x.F x.T) (hO : OrdZ O L.length) (h : (takeZ mn O L v k false).2.1 = 0) :
    ∃ x, (takeZ mn O L v k false).1[(takeZ mn O L v k false).2.2.1.toNat]? = some x ∧ 0 ≤ (takeZ mn O L v k false).2.2.1 ∧ (takeZ mn O L v k false).2.2.1 < L.length ∧ mn ≤ sumL x.F := by
  by_cases hb : v < 0 ∨ (L.length : Int) ≤ v ∨ k < 0 ∨ 6 < k
  · rw [takeZ_bad hb] at h; cases h
  · obtain ⟨D, hD, hl, hm, hc⟩ := takeZ_cases (mn := mn) (u := false) hO hb
    rcases hc with ⟨_, e⟩ | ⟨j, x, b, _, j0, j1, hx, hk, hbb, e⟩
    · rw [e] at h
      simp only at h
      rcases lowZ_pos k L with q | q <;> rw [q] at h <;> cases h
    · rw [e]
      refine ⟨tookN k b x, ?_, j0, j1, ?_⟩
      · simp only
        rw [List.getElem?_set_self (List.getElem?_eq_some_iff.1 hx).1]
      · unfold okN mayN at hk
        simp at hk
        have := (hI x (List.mem_of_getElem? hx)).sum_take (by omega) hbb
        show mn ≤ sumL (takeF k b x.F)
        omega
end Go.Proofs.YtigginpcokfihaaGreatDoor
