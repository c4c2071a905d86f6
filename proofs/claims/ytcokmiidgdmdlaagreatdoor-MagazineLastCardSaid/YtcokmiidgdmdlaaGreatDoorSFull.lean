/- Plain: of so many pages just so many objects are had. -/
import Derived.Test.YtcokmiidgdmdlaaGreatDoorZPl
namespace Go.Proofs.YtcokmiidgdmdlaaGreatDoor
set_option linter.unusedSimpArgs false
set_option linter.unusedVariables false

theorem sum_zero {n : Int} {F T : List (Int × Int)} (h : Inv n F T) (hs : sumL F = 0) : F = [] := by
  cases F with
  | nil => rfl
  | cons p r =>
    have h1 := sumL_nonneg r
    have h2 : sumL (p :: r) = sz p.2 + sumL r := rfl
    have h3 : 0 < sz p.2 := sz_pos _
    omega
theorem best_none {n : Int} {F T : List (Int × Int)} (h : Inv n F T) (hb : bestL 0 F = none) : sumL F = 0 := by
  cases F with
  | nil => rfl
  | cons p r =>
    have := bestL_none hb p (by simp)
    have := (h.rngF (p := p) (by simp)).2.2.1
    omega
theorem take_one {mn : Int} {O : List (List Int)} {x : Nd} (hO : OrdZ O 1) (hI : Inv x.n x.F x.T) :
    (sumL x.F = 0 → takeZ mn O [x] 0 0 true = ([x], 5, (0, 0, 0))) ∧
    (0 < sumL x.F → ∃ b, bestL 0 x.F = some b ∧ getL x.T b.1 = none ∧ takeZ mn O [x] 0 0 true = ([tookN 0 b x], 0, (0, b.1, 0))) := by
  obtain ⟨D, hD, hl, hm, hc⟩ := takeZ_cases (mn := mn) (u := true) (k := 0) (L := [x]) (v := 0) (by simpa using hO) (by simp)
  have h0 : (0 : Int) ∈ D := (hm 0).2 (by simp)
  rcases hc with ⟨hp, e⟩ | ⟨j, y, b, hp, j0, j1, hx, hk, hb, e⟩
  · have hn : okAt mn 0 true [x] 0 = false := by
      have := List.find?_eq_none.1 hp 0 h0
      simpa using this
    have hb : bestL 0 x.F = none := by
      simp only [okAt, okN, mayN, Int.toNat_zero, List.getElem?_cons_zero, Bool.true_or, Bool.true_and] at hn
      cases hq : bestL 0 x.F with
      | none => rfl
      | some b => rw [hq] at hn; cases hn
    have hs := best_none hI hb
    have hF := sum_zero hI hs
    refine ⟨fun _ => ?_, fun q => by omega⟩
    rw [e]
    have : lowZ 0 [x] = 5 := by unfold lowZ someN; simp [hF]
    rw [this]
  · obtain rfl : j = 0 := by simp at j1; omega
    simp at hx
    subst hx
    refine ⟨fun q => ?_, fun _ => ⟨b, hb, fresh_page hI (bestL_some hb).1, by rw [e]; rfl⟩⟩
    have := sum_zero hI q
    have h2 := (bestL_some hb).1
    rw [this] at h2; cases h2

theorem sum_ins (f : Sl → Nat) (C : List Sl) (s : Sl) : ((insS C s).map f).sum = (C.map f).sum + f s := by
  have : ((C.take (posS s.nd s.pg C)).map f).sum + ((C.drop (posS s.nd s.pg C)).map f).sum = (C.map f).sum := by
    rw [← List.sum_append, ← List.map_append, List.take_append_drop]
  unfold insS
  simp only [List.map_append, List.map_cons, List.sum_append, List.sum_cons]
  omega
theorem sum_set (f : Sl → Nat) : ∀ (C : List Sl) (i : Nat) (s t : Sl), C[i]? = some s → ((C.set i t).map f).sum + f s = (C.map f).sum + f t
  | [], i, s, t, h => by simp at h
  | c :: C, 0, s, t, h => by simp at h; subst h; simp; omega
  | c :: C, i + 1, s, t, h => by
    have := sum_set f C i s t (by simpa using h)
    simp only [List.set_cons_succ, List.map_cons, List.sum_cons]; omega
theorem sum_all (f : Sl → Nat) (r : Nat) : ∀ (C : List Sl), (∀ s ∈ C, f s = r) → (C.map f).sum = C.length * r
  | [], h => by simp
  | c :: C, h => by
    have := sum_all f r C fun s q => h s (List.mem_cons_of_mem _ q)
    have h1 := h c (by simp)
    simp [this, h1, Nat.succ_mul]; omega
theorem sum_max (f : Sl → Nat) (r : Nat) : ∀ (C : List Sl), (∀ s ∈ C, f s ≤ r) → (C.map f).sum ≤ C.length * r ∧ ((C.map f).sum = C.length * r → ∀ s ∈ C, f s = r)
  | [], h => by simp
  | c :: C, h => by
    obtain ⟨h1, h2⟩ := sum_max f r C fun s q => h s (List.mem_cons_of_mem _ q)
    have h3 := h c (by simp)
    simp only [List.map_cons, List.sum_cons, List.length_cons, Nat.succ_mul]
    refine ⟨by omega, fun q s hs => ?_⟩
    rcases List.mem_cons.1 hs with rfl | hs
    · omega
    · exact h2 (by omega) s hs

/-- a cache on a zone of one node, with so many objects taken -/
structure FullI (pages : Nat) (e i : Nat) (c : Ca) : Prop where
  inv : InvC e c
  one : ∃ x, c.L = [x] ∧ sumL x.F = pages - (c.C.length : Int)
  tk : takenN c.C = i
section
variable {mn : Int} {O : List (List Int)} {pages e i : Nat} {c : Ca}
theorem FullI.nd (h : FullI pages e i c) {s : Sl} (hs : s ∈ c.C) : s.nd = 0 := by
  obtain ⟨x, hx, _⟩ := h.one
  have := (h.inv.tk s hs).rng h.inv.zi
  rw [hx] at this; simp at this; omega
theorem FullI.le (h : FullI pages e i c) : c.C.length ≤ pages := by
  obtain ⟨x, hx, hs⟩ := h.one
  have := sumL_nonneg x.F
  omega
theorem FullI.room (h : FullI pages e i c) : roomN c.C = c.C.length * roomE e := sum_all _ _ _ fun s hs => h.inv.len s hs
theorem FullI.max (h : FullI pages e i c) : i ≤ c.C.length * roomE e := by
  rw [← h.tk]
  exact (sum_max manyS (roomE e) c.C fun s hs => by rw [← h.inv.len s hs]; exact manyT_le _).1
/-- no slab has room -/
theorem FullI.none_ (h : FullI pages e i c) (hb : bestS 0 c.C c.C.length = none) : i = c.C.length * roomE e := by
  rw [← h.tk]
  refine sum_all _ _ _ fun s hs => ?_
  obtain ⟨j, hj, hg⟩ := List.mem_iff_getElem.1 hs
  have h1 := bestS_none hb j s hj (List.getElem?_eq_some_iff.2 ⟨hj, hg⟩) (h.nd hs)
  have h2 : manyS s ≤ s.T.length := manyT_le _
  rw [← h.inv.len s hs]; omega
theorem FullI.take (h : FullI pages e i c) (hO : OrdZ O 1) (hi : i < pages * roomE e) :
    (takeC mn O e c 0 true).2.1 = 0 ∧ (takeC mn O e c 0 true).2.2.1 = 0 ∧ FullI pages e (i + 1) (takeC mn O e c 0 true).1 := by
  have hI := takeC_inv (mn := mn) (O := O) (v := 0) (u := true) (by obtain ⟨x, hx, _⟩ := h.one; rw [hx]; exact hO) h.inv
  obtain ⟨x, hx, hs⟩ := h.one
  have hv : ¬ ((0 : Int) < 0 ∨ (c.L.length : Int) ≤ 0) := by rw [hx]; simp
  revert hI
  unfold takeC
  rw [if_neg hv]
  cases hb : bestS 0 c.C c.C.length with
  | some k =>
    obtain ⟨_, s, hk, hn, hm⟩ := bestS_some hb
    simp only [hk]
    intro hI
    refine ⟨trivial, by rw [obOf]; exact hn, hI, ⟨x, hx, by simpa using hs⟩, ?_⟩
    obtain ⟨f1, f2, _⟩ := freeAt_spec hm
    have h1 := manyT_set f2 true
    have h2 := sum_set manyS c.C k s (useS s (freeAt s.T) true) hk
    have h3 := h.tk
    have h4 : manyS (useS s (freeAt s.T) true) = manyT (s.T.set (freeAt s.T) true) := rfl
    have h5 : manyS s = manyT s.T := rfl
    show ((c.C.set k (useS s (freeAt s.T) true)).map manyS).sum = i + 1
    have h6 : (c.C.map manyS).sum = i := h3
    simp only [if_true, Bool.false_eq_true, if_false] at h1
    omega
  | none =>
    have hfull := h.none_ hb
    have hlt : c.C.length < pages := by
      rcases Nat.lt_or_ge c.C.length pages with q | q
      · exact q
      · have := Nat.mul_le_mul_right (roomE e) q
        omega
    obtain ⟨b, hbb, hf, et⟩ := (take_one (mn := mn) hO (h.inv.zi x (by rw [hx]; simp))).2 (by omega)
    simp only [hx, et, if_true]
    intro hI
    refine ⟨trivial, trivial, hI, ⟨tookN 0 b x, rfl, ?_⟩, ?_⟩
    · rw [insS_length]
      show sumL (takeF 0 b x.F) = _
      rw [(h.inv.zi x (by rw [hx]; simp)).sum_take (by omega) hbb, hs]
      have : sz 0 = 1 := rfl
      push_cast; omega
    · have h1 := sum_ins manyS c.C (useS ⟨0, b.1, noneT e⟩ 0 true)
      have h3 : (c.C.map manyS).sum = i := h.tk
      have h4 := roomE_pos h.inv.e1 h.inv.e2
      have h5 := manyT_set (T := noneT e) (k := 0) (b := false) (by unfold noneT; simp [List.getElem?_replicate]; omega) true
      have h6 := manyT_none e
      have h7 : manyS (useS ⟨0, b.1, noneT e⟩ 0 true) = manyT ((noneT e).set 0 true) := rfl
      show ((insS c.C (useS ⟨0, b.1, noneT e⟩ 0 true)).map manyS).sum = i + 1
      simp only [if_true, Bool.false_eq_true, if_false] at h5
      omega
/-- nothing more is had -/
theorem FullI.stop (h : FullI pages e (pages * roomE e) c) (hO : OrdZ O 1) :
    takeC mn O e c 0 true = (c, 5, (0, 0)) ∧ takenN c.C = pages * roomE e ∧ roomN c.C = pages * roomE e ∧ ∃ x, c.L = [x] ∧ sumL x.F = 0 := by
  have hp := roomE_pos h.inv.e1 h.inv.e2
  have hm := h.max
  have hl := h.le
  have hC : c.C.length = pages := by
    have := Nat.le_of_mul_le_mul_right hm hp
    omega
  obtain ⟨x, hx, hs⟩ := h.one
  have hs0 : sumL x.F = 0 := by omega
  refine ⟨?_, h.tk, by rw [h.room, hC], x, hx, hs0⟩
  have hall := (sum_max manyS (roomE e) c.C fun s hs => by rw [← h.inv.len s hs]; exact manyT_le _).2 (by have := h.tk; unfold takenN at this; rw [this, hC])
  have hv : ¬ ((0 : Int) < 0 ∨ (c.L.length : Int) ≤ 0) := by rw [hx]; simp
  unfold takeC
  rw [if_neg hv]
  have hb : bestS 0 c.C c.C.length = none := by
    cases hb : bestS 0 c.C c.C.length with
    | none => rfl
    | some k =>
      obtain ⟨_, s, hk, hn, hm⟩ := bestS_some hb
      have := hall s (List.mem_of_getElem? hk)
      rw [h.inv.len s (List.mem_of_getElem? hk)] at hm
      omega
  rw [hb]
  simp only [hx, (take_one (mn := mn) hO (h.inv.zi x (by rw [hx]; simp))).1 hs0]
  have : c = ⟨[x], c.C⟩ := by rw [← hx]
  simp
  exact this.symm
end
end Go.Proofs.YtcokmiidgdmdlaaGreatDoor
