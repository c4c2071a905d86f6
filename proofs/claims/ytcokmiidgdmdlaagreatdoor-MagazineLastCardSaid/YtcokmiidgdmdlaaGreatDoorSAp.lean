/- A cache that acts are done on, without the document: what stays true; its acts by their contracts. -/
import Derived.Test.YtcokmiidgdmdlaaGreatDoorSShrink
import Derived.Test.YtcokmiidgdmdlaaGreatDoorSTaken
import Derived.Test.YtcokmiidgdmdlaaGreatDoorSApart
namespace Go.Proofs.YtcokmiidgdmdlaaGreatDoor
open Go.RowKit Go.Maps
set_option linter.unusedSimpArgs false
set_option linter.unusedVariables false

theorem OwnO.rowS {w w' : World} {v : Value} {l : List Ob} (h : OwnO w w' v l) : RowS w.heap.size w' v l := by
  obtain ⟨ho, _⟩ := h
  have ho' := ho
  obtain ⟨_, h2⟩ := ho
  rcases h2 with ⟨rfl, h3⟩ | ⟨g, cap, cur, rfl, hg, hh, hcap, hmax, _⟩
  · have : l = [] := by
      cases l with
      | nil => rfl
      | cons b r => simp at h3
    subst this
    exact ⟨none, 0, rfl, fun _ => .inl ⟨rfl, rfl⟩, fun j a k hj => by simp at hj⟩
  · refine ⟨some ⟨g, 0, none⟩, cap, rfl, fun _ => .inr ⟨g, rfl, hg, (ho'.lt g rfl).2⟩, fun j a k hj => ⟨g, rfl, hg, (ho'.lt g rfl).2, ?_⟩⟩
    have hlt : j < l.length := (List.getElem?_eq_some_iff.1 hj).1
    obtain ⟨e1, e2⟩ := encB_get l j a k hj
    rw [ho'.cellAt (j * 2) (by omega), ho'.cellAt (j * 2 + 1) (by omega)]
    exact ⟨e1, e2⟩
theorem obs_len_le (e : Nat) (C : List Sl) : (obsC e C).length = takenN C := by
  unfold obsC takenN
  rw [List.length_flatMap]
  congr 1
  refine List.map_congr_left fun s _ => ?_
  unfold obsS manyS manyT
  rw [List.length_filterMap_eq_countP]
  have key : ∀ T : List Bool, (List.range T.length).countP (fun k => (if T[k]? = some true then some (obOf e s k) else none).isSome) = T.countP id := by
    intro T
    induction T with
    | nil => rfl
    | cons b T ih =>
      rw [List.length_cons, List.range_succ_eq_map, List.countP_cons, List.countP_map]
      have e2 : (List.range T.length).countP ((fun k => (if (b :: T)[k]? = some true then some (obOf e s k) else none).isSome) ∘ Nat.succ) = (List.range T.length).countP (fun k => (if T[k]? = some true then some (obOf e s k) else none).isSome) := by
        refine List.countP_congr fun k _ => ?_
        simp only [Function.comp, List.getElem?_cons_succ, Nat.succ_eq_add_one]
        by_cases q : T[k]? = some true <;> simp [q]
      rw [e2, ih]
      cases b <;> simp
  exact key s.T
theorem obs_few {e : Nat} {c : Ca} (h : InvC e c) : (obsC e c.C).length ≤ 65536 := by
  rw [obs_len_le]
  obtain ⟨h1, h2⟩ := roomN_le (C := c.C) fun s hs => by rw [h.len s hs]; unfold roomE; exact Nat.div_le_self _ _
  have := h.few
  omega

/-- a cache that acts are done on -/
structure ApS (B : Nat) (w0 : World) (pc pz : Nat) (mn lw hi : Int) (O : List (List Int)) (e : Nat) (L : List Nd) (X : List Nat) (v : Value) (A : SA) (c : Ca) (w : World) : Prop where
  cs : CS B w pc pz mn lw hi O e X v A c
  inv : InvC e c
  only : OnlyP c
  same : SameZ L c.L
  bel : Below B w0 w
section
variable {B : Nat} {ev : Nat → Addr} {w0 w w' : World} {pc pz e : Nat} {mn lw hi : Int} {O : List (List Int)} {L : List Nd} {X : List Nat} {v : Value} {A : SA} {c : Ca}
theorem ApS.go (h : ApS B w0 pc pz mn lw hi O e L X v A c w) (hB : B ≤ w.heap.size) (k : Below w.heap.size w w') : ApS B w0 pc pz mn lw hi O e L X v A c w' := ⟨h.cs.below k, h.inv, h.only, h.same, h.bel.trans (k.mono hB)⟩
theorem ApS.size (h : ApS B w0 pc pz mn lw hi O e L X v A c w) (hB : B ≤ w0.heap.size) : B ≤ w.heap.size := Nat.le_trans hB h.bel.size
theorem ap_take (j : Int) (u : Bool) (hE : ErrZ B ev w0) (h : ApS B w0 pc pz mn lw hi O e L X v A c w) :
    Calls Tryz.prog 36 #[.pointer (some ⟨pc, 0, none⟩), .int .i64 j, .bool u] w fun r w' => r = .returned (.tuple #[obV (takeC mn O e c j u).2.2, errV ev (takeC mn O e c j u).2.1]) ∧ Keep (cay pc v A ++ ys c.L) w w' ∧ ∃ X' v' A', (∀ x ∈ X', x ∈ X ∨ w.heap.size ≤ x) ∧ (∀ y ∈ cay pc v' A', y ∈ cay pc v A ∨ w.heap.size ≤ y) ∧ ApS B w0 pc pz mn lw hi O e L X' v' A' (takeC mn O e c j u).1 w' := by
  have hB := hE.size
  refine (stake_any j u (hE.below h.bel) h.cs h.inv).mono fun r w' ⟨hr, X', v', A', h1, h2, h3, h4, h5⟩ => ⟨hr, h2, X', v', A', h4, h5, ?_⟩
  exact ⟨h1, takeC_inv h.cs.z.ord h.inv, only_take h.cs.z.ord h.inv h.only, h.same.trans (takeC_same mn O e c j u), h.bel.trans (h.cs.belowK (h.size hB) h2)⟩
theorem ap_give (n oa : Int) (hE : ErrZ B ev w0) (h : ApS B w0 pc pz mn lw hi O e L X v A c w) (ho : (n, oa) ∈ obsC e c.C) :
    Calls Tryz.prog 39 #[.pointer (some ⟨pc, 0, none⟩), .agg #[.int .i64 n, .int .i64 oa]] w fun r w' => r = .returned .nilIface ∧ Keep (cay pc v A) w w' ∧ ApS B w0 pc pz mn lw hi O e L X v A (giveC e c (n, oa)).1 w' := by
  have hB := hE.size
  have h1 := ob_one h.inv ho
  have hf : ∃ i, findS e (n, oa) c.C = some i := by
    cases q : findS e (n, oa) c.C with
    | some i => exact ⟨i, rfl⟩
    | none =>
      have := give_has h.inv ho
      unfold giveC at this
      rw [q] at this
      simp at this
  obtain ⟨i, hf⟩ := hf
  refine (sgive_yes n oa h.cs h.inv (by have := h1.1; omega) (by have := h1.2.1; omega) hf).mono fun r w' ⟨hr, h2, h3⟩ => ⟨hr, h3, ?_⟩
  refine ⟨h2, giveC_inv h.inv, only_give h.only, ?_, h.bel.trans (h3.below (h.size hB) fun s hs => (h.cs.ch.lim s hs).1)⟩
  rw [giveC_same]; exact h.same
theorem ap_taken (hE : ErrZ B ev w0) (h : ApS B w0 pc pz mn lw hi O e L X v A c w) :
    Calls Tryz.prog 38 #[.pointer (some ⟨pc, 0, none⟩)] w fun r w' => ∃ q k, r = .returned (.slice q (obsC e c.C).length k) ∧ RowS w.heap.size w' (.slice q (obsC e c.C).length k) (obsC e c.C) ∧ Below w.heap.size w w' := by
  refine (staken_ok h.cs h.inv).mono fun r w' ⟨t, hr, ho⟩ => ?_
  obtain ⟨p, cap, h1, _⟩ := ho.rowS
  exact ⟨p, cap, by rw [hr, h1], by rw [← h1]; exact ho.rowS, ho.2⟩
theorem ap_shrink (j : Nat) (hE : ErrZ B ev w0) (h : ApS B w0 pc pz mn lw hi O e L X v A c w) (hj : j < L.length) (hm : ∀ s ∈ c.C, manyS s = 0) :
    Calls Tryz.prog 40 #[.pointer (some ⟨pc, 0, none⟩), .int .i64 j, .int .i64 256] w fun r w' => ∃ n, r = .returned (.tuple #[.int .i64 n, .nilIface]) ∧ ∃ v' A' c', ApS B w0 pc pz mn lw hi O e L X v' A' c' w' ∧ (∀ s ∈ c'.C, manyS s = 0 ∧ s.nd ≠ j ∧ s ∈ c.C) := by
  have hB := hE.size
  refine (sshrink_ok j 256 (hE.below h.bel) h.cs h.inv (by rw [← h.same.1]; exact hj) (by omega)).mono fun r w' ⟨hr, v', A', h1, h2, h3⟩ => ⟨_, hr, v', A', (shrinkC j 256 c.C.length (c, 0)).1, ?_, ?_⟩
  · obtain ⟨a1, a2⟩ := shrink_all (v := (j : Int)) (i := c.C.length) (n := 0) h.inv h.only hm (by have := cnt_few h.inv j; omega) (Nat.le_refl _) (fun k s hk hs => by have := (List.getElem?_eq_some_iff.1 hs).1; omega)
    exact ⟨h1, shrinkC_inv h.inv, a1, h.same.trans shrinkC_same, h.bel.trans (h.cs.belowK (h.size hB) h2)⟩
  · exact (shrink_all (v := (j : Int)) (i := c.C.length) (n := 0) h.inv h.only hm (by have := cnt_few h.inv j; omega) (Nat.le_refl _) (fun k s hk hs => by have := (List.getElem?_eq_some_iff.1 hs).1; omega)).2
end
end Go.Proofs.YtcokmiidgdmdlaaGreatDoor
