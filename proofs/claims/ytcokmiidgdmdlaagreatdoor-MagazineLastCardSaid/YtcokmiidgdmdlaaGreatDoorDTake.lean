/- Package magazine: Take by its contract. -/
import Derived.Test.YtcokmiidgdmdlaaGreatDoorDOps
namespace Go.Proofs.YtcokmiidgdmdlaaGreatDoor
open Go.RowKit Go.Maps
set_option linter.unusedSimpArgs false
set_option linter.unusedVariables false
attribute [local go_sem ↓] Go.wp_at_zero Go.wp_at_succ

section
variable {X Y S F : List Nat} {B : Nat} {ev : Nat → Addr} {w w' : World} {pd pc pz gh e : Nat} {mn lw hi : Int} {O : List (List Int)} {v vp vp' : Value} {A : SA} {V : HV} {U U' : List Value} {d : De} {c : Ca} {P' : List (List Ob)}
theorem CD.far (h : CD B w X pd pc pz gh mn lw hi O e v A V vp U d) (y : Nat) (hy : y ∈ day pd gh vp) : y ∈ X ∧ y ∉ cay pc v A ∧ y ∉ ys d.c.L := ⟨h.de.mem y hy, h.ne y hy⟩
theorem CD.gh_mem (h : CD B w X pd pc pz gh mn lw hi O e v A V vp U d) : gh ∈ day pd gh vp := List.mem_cons_of_mem _ (List.mem_cons_self ..)
theorem CD.pd_mem (h : CD B w X pd pc pz gh mn lw hi O e v A V vp U d) : pd ∈ day pd gh vp := List.mem_cons_self ..
/-- one hand written -/
theorem CD.setHand (h : CD B w X pd pc pz gh mn lw hi O e v A V vp U d) (k : Nat) {p' : Value × Value} {h' : Hd} (hk : k < d.H.length) (r1 : RowO X w p'.1 h'.1) (r2 : RowO X w p'.2 h'.2) (kk : Keep [gh] w w') (hg : LocN w' gh (handL (V.set k p'))) :
    CD B w' X pd pc pz gh mn lw hi O e v A (V.set k p') vp U ⟨d.c, d.H.set k h', d.P⟩ := by
  obtain ⟨n0, nn⟩ := List.nodup_cons.1 h.de.nd
  obtain ⟨n1, n2⟩ := List.nodup_cons.1 nn
  have hpg : pd ≠ gh := fun q => n0 (q ▸ List.mem_cons_self ..)
  have fg := h.far gh h.gh_mem
  have hs : ∀ s ∈ [gh], s ∈ X ∨ w.heap.size ≤ s := fun s q => by simp at q; subst q; exact .inl fg.1
  refine ⟨h.x, h.limK kk, h.cs.z.keep kk (fun s q => by simp at q; subst q; exact .inl ⟨fg.1, fg.2.2⟩) |> fun z => ⟨z, h.cs.ch.keep kk (fun s q => by simp at q; subst q; exact fg.2.1), h.cs.ne, h.cs.l0⟩, ?_, h.ne⟩
  refine ⟨?_, hg, by simp [h.de.hl], fun i p g hp hg' => ?_, own_keep h.de.row kk (fun s q => by simp at q; subst q; exact n1), h.de.ul, fun i u m hu hm => (h.de.po i u m hu hm).keep kk hs, h.de.mem, h.de.nd, fun y hy => ⟨(h.de.lim y hy).1, Nat.lt_of_lt_of_le (h.de.lim y hy).2 kk.size⟩⟩
  · rw [List.length_set]
    exact h.de.d.keep kk (by simpa using hpg)
  · by_cases q : k = i
    · subst q
      rw [List.getElem?_set_self (by rw [h.de.hl]; exact hk)] at hp
      rw [List.getElem?_set_self hk] at hg'
      obtain rfl := Option.some.inj hp
      obtain rfl := Option.some.inj hg'
      exact ⟨r1.keep kk hs, r2.keep kk hs⟩
    · rw [List.getElem?_set_ne q] at hp hg'
      exact ⟨(h.de.ho i p g hp hg').1.keep kk hs, (h.de.ho i p g hp hg').2.keep kk hs⟩
/-- the pile written -/
theorem CD.setPile (h : CD B w X pd pc pz gh mn lw hi O e v A V vp U d) (kk : Keep [pd] w w') (hd : LocN w' pd [.pointer (some ⟨pc, 0, none⟩), .slice (some ⟨gh, 0, none⟩) d.H.length d.H.length, vp']) (row : w'.ownsRow B 70 1 vp' P'.length U') (ul : U'.length = P'.length)
    (po : ∀ (i : Nat) (u : Value) (m : List Ob), U'[i]? = some u → P'[i]? = some m → RowO X w u m) (hown : ownX vp' = ownX vp) :
    CD B w' X pd pc pz gh mn lw hi O e v A V vp' U' ⟨d.c, d.H, P'⟩ := by
  obtain ⟨n0, nn⟩ := List.nodup_cons.1 h.de.nd
  have hpg : gh ≠ pd := fun q => n0 (q ▸ List.mem_cons_self ..)
  have fg := h.far pd h.pd_mem
  have hs : ∀ s ∈ [pd], s ∈ X ∨ w.heap.size ≤ s := fun s q => by simp at q; subst q; exact .inl fg.1
  have ed : day pd gh vp' = day pd gh vp := by unfold day; rw [hown]
  refine ⟨by unfold xd; rw [ed]; exact h.x, h.limK kk, h.cs.z.keep kk (fun s q => by simp at q; subst q; exact .inl ⟨fg.1, fg.2.2⟩) |> fun z => ⟨z, h.cs.ch.keep kk (fun s q => by simp at q; subst q; exact fg.2.1), h.cs.ne, h.cs.l0⟩, ?_, by rw [ed]; exact h.ne⟩
  refine ⟨hd, h.de.hs.keep kk (by simpa using hpg), h.de.hl, fun i p g hp hg' => ⟨(h.de.ho i p g hp hg').1.keep kk hs, (h.de.ho i p g hp hg').2.keep kk hs⟩, row, ul, fun i u m hu hm => (po i u m hu hm).keep kk hs, by rw [ed]; exact h.de.mem, by rw [ed]; exact h.de.nd, fun y hy => ?_⟩
  rw [ed] at hy
  exact ⟨(h.de.lim y hy).1, Nat.lt_of_lt_of_le (h.de.lim y hy).2 kk.size⟩
/-- a hand and the pile written -/
theorem CD.setBoth (h : CD B w X pd pc pz gh mn lw hi O e v A V vp U d) (k : Nat) {p' : Value × Value} {h' : Hd} (hk : k < d.H.length) (r1 : RowO X w p'.1 h'.1) (r2 : RowO X w p'.2 h'.2) (kk : Keep [gh, pd] w w') (hg : LocN w' gh (handL (V.set k p')))
    (hd : LocN w' pd [.pointer (some ⟨pc, 0, none⟩), .slice (some ⟨gh, 0, none⟩) d.H.length d.H.length, vp']) (row : w'.ownsRow B 70 1 vp' P'.length U') (ul : U'.length = P'.length)
    (po : ∀ (i : Nat) (u : Value) (m : List Ob), U'[i]? = some u → P'[i]? = some m → RowO X w u m) (hown : ownX vp' = ownX vp) :
    CD B w' X pd pc pz gh mn lw hi O e v A (V.set k p') vp' U' ⟨d.c, d.H.set k h', P'⟩ := by
  have fg := h.far gh h.gh_mem
  have fp := h.far pd h.pd_mem
  have hs : ∀ s ∈ [gh, pd], s ∈ X ∨ w.heap.size ≤ s := fun s q => by
    simp at q
    rcases q with rfl | rfl
    · exact .inl fg.1
    · exact .inl fp.1
  have ed : day pd gh vp' = day pd gh vp := by unfold day; rw [hown]
  refine ⟨by unfold xd; rw [ed]; exact h.x, h.limK kk, h.cs.z.keep kk (fun s q => by
    simp at q
    rcases q with rfl | rfl
    · exact .inl ⟨fg.1, fg.2.2⟩
    · exact .inl ⟨fp.1, fp.2.2⟩) |> fun z => ⟨z, h.cs.ch.keep kk (fun s q => by
    simp at q
    rcases q with rfl | rfl
    · exact fg.2.1
    · exact fp.2.1), h.cs.ne, h.cs.l0⟩, ?_, by rw [ed]; exact h.ne⟩
  refine ⟨by rw [List.length_set]; exact hd, hg, by simp [h.de.hl], fun i p g hp hg' => ?_, row, ul, fun i u m hu hm => (po i u m hu hm).keep kk hs, by rw [ed]; exact h.de.mem, by rw [ed]; exact h.de.nd, fun y hy => ?_⟩
  · by_cases q : k = i
    · subst q
      rw [List.getElem?_set_self (by rw [h.de.hl]; exact hk)] at hp
      rw [List.getElem?_set_self hk] at hg'
      obtain rfl := Option.some.inj hp
      obtain rfl := Option.some.inj hg'
      exact ⟨r1.keep kk hs, r2.keep kk hs⟩
    · rw [List.getElem?_set_ne q] at hp hg'
      exact ⟨(h.de.ho i p g hp hg').1.keep kk hs, (h.de.ho i p g hp hg').2.keep kk hs⟩
  · rw [ed] at hy
    exact ⟨(h.de.lim y hy).1, Nat.lt_of_lt_of_le (h.de.lim y hy).2 kk.size⟩
/-- a hand's two cells -/
theorem CD.hand (h : CD B w X pd pc pz gh mn lw hi O e v A V vp U d) {k : Nat} {g : Hd} (hk : d.H[k]? = some g) : ∃ p, V[k]? = some p ∧ RowO X w p.1 g.1 ∧ RowO X w p.2 g.2 ∧ w.cell? ⟨gh, k * 2, none⟩ = some p.1 ∧ w.cell? ⟨gh, k * 2 + 1, none⟩ = some p.2 ∧ w.frozen? ⟨gh, k * 2, none⟩ = false ∧ w.frozen? ⟨gh, k * 2 + 1, none⟩ = false ∧ gh < w.heap.size := by
  have hl := (List.getElem?_eq_some_iff.1 hk).1
  obtain ⟨p, hp⟩ : ∃ p, V[k]? = some p := ⟨V[k]'(by rw [h.de.hl]; exact hl), List.getElem?_eq_getElem _⟩
  obtain ⟨g1, g2⟩ := handL_get hp
  obtain ⟨o1, o2⟩ := h.de.ho k p g hp hk
  have hv : V.length = d.H.length := h.de.hl
  exact ⟨p, hp, o1, o2, h.de.hs.c _ _ g1, h.de.hs.c _ _ g2, h.de.hs.f _ (by rw [handL_length]; omega), h.de.hs.f _ (by rw [handL_length]; omega), h.de.hs.lt⟩
theorem CD.loc1 (h : CD B w X pd pc pz gh mn lw hi O e v A V vp U d) {k : Nat} {p : Value × Value} (hp : V[k]? = some p) (hk : k < d.H.length) (x : Value) : LocN (w.setCell ⟨gh, k * 2, none⟩ x) gh (handL (V.set k (x, p.2))) := by
  have hv : V.length = d.H.length := h.de.hl
  have h1 := h.de.hs.store (k * 2) x (by rw [handL_length]; omega)
  rw [handL_set _ (by omega)]
  have h2 := (handL_get hp).2
  have e1 : ((handL V).set (k * 2) x).set (k * 2 + 1) p.2 = (handL V).set (k * 2) x := by
    apply List.ext_getElem?
    intro i
    by_cases q : k * 2 + 1 = i
    · subst q
      rw [List.getElem?_set_self (by rw [List.length_set, handL_length]; omega), List.getElem?_set_ne (by omega), h2]
    · rw [List.getElem?_set_ne q]
  simp only [e1]
  exact h1
theorem hloc1 {g k : Nat} {W : World} (h : LocN W g (handL V)) {p : Value × Value} (hp : V[k]? = some p) (x : Value) : LocN (W.setCell ⟨g, k * 2, none⟩ x) g (handL (V.set k (x, p.2))) := by
  have hk := (List.getElem?_eq_some_iff.1 hp).1
  have h1 := h.store (k * 2) x (by rw [handL_length]; omega)
  rw [handL_set _ hk]
  have h2 := (handL_get hp).2
  have e1 : ((handL V).set (k * 2) x).set (k * 2 + 1) p.2 = (handL V).set (k * 2) x := by
    apply List.ext_getElem?
    intro i
    by_cases q : k * 2 + 1 = i
    · subst q
      rw [List.getElem?_set_self (by rw [List.length_set, handL_length]; omega), List.getElem?_set_ne (by omega), h2]
    · rw [List.getElem?_set_ne q]
  simp only [e1]
  exact h1
theorem hloc2 {g k : Nat} {W : World} (h : LocN W g (handL V)) {p : Value × Value} (hp : V[k]? = some p) (x : Value) : LocN (W.setCell ⟨g, k * 2 + 1, none⟩ x) g (handL (V.set k (p.1, x))) := by
  have hk := (List.getElem?_eq_some_iff.1 hp).1
  have h1 := h.store (k * 2 + 1) x (by rw [handL_length]; omega)
  rw [handL_set _ hk]
  have h2 := (handL_get hp).1
  have e1 : (handL V).set (k * 2) p.1 = handL V := by
    apply List.ext_getElem?
    intro i
    by_cases q : k * 2 = i
    · subst q
      rw [List.getElem?_set_self (by rw [handL_length]; omega), h2]
    · rw [List.getElem?_set_ne q]
  simp only [e1]
  exact h1
theorem hset1 {k : Nat} (p q : Value × Value) : (V.set k p).set k q = V.set k q := List.set_set ..
theorem hset2 {k : Nat} (hk : k < V.length) (p : Value × Value) : (V.set k p)[k]? = some p := List.getElem?_set_self hk
/-- what a take of a depot comes to -/
def DtkPost (B : Nat) (ev : Nat → Addr) (pd pc pz gh : Nat) (mn lw hi : Int) (O : List (List Int)) (e : Nat) (X F : List Nat) (w : World) (r : De × Nat × Ob) (en : Ending) (w' : World) : Prop :=
  en = .returned (.tuple #[obV r.2.2, errV ev r.2.1]) ∧ ∃ X', CDx B w' X' F pd pc pz gh mn lw hi O e r.1 ∧ Keep (off X F) w w' ∧ (∀ x ∈ X', x ∈ X ∨ w.heap.size ≤ x) ∧ ∀ x ∈ X, x ∈ X'
set_option maxHeartbeats 1000000 in
theorem dtake_bad (k n : Int) (u : Bool) (hE : ErrZ B ev w) (h : CD B w X pd pc pz gh mn lw hi O e v A V vp U d) (hF : Hid (∀ f ∈ F, f ∈ X ∧ f ∉ xd pc v A d.c.L pd gh vp)) (hk : handD d k = none) :
    Calls Tryz.prog 33 #[.pointer (some ⟨pd, 0, none⟩), .int .i64 k, .int .i64 n, .bool u] w (DtkPost B ev pd pc pz gh mn lw hi O e X F w (takeD mn O e d k n u)) := by
  rw [takeD_bad hk]
  have b1 : Below w.heap.size w (w.alloc (.cells #[.int .i64 0, .int .i64 0] 72)) := (by repeat (first | exact Below.refl _ _ | refine Below.drew ?_ | refine below_drewN ?_ _ | refine Below.trans ?_ (Below.mono (by assumption) (by first | omega | (simp; omega) | (simp; done))) | refine Below.alloc ?_ (by first | omega | (simp; omega) | (simp; done)) _ | refine Below.setCell ?_ (by first | omega | (simp; omega) | (simp; done)) _))
  have L1 := Lib.hid (LocN.mk_ w [.int .i64 0, .int .i64 0] 72 rfl)
  have NO := Lib.hid (dhand_err (hE.go b1).c (h.below b1) k (handD_none hk))
  have e1 : errV ev 2 = .iface 291 (.pointer (some (ev 2))) := rfl
  have FIN : Hid (∀ W, Below w.heap.size w W → DtkPost B ev pd pc pz gh mn lw hi O e X F w (d, 2, (0, 0)) (.returned (.tuple #[.agg #[.int .i64 0, .int .i64 0], .iface 291 (.pointer (some (ev 2)))])) W) := fun W b => ⟨rfl, X, ⟨_, _, _, _, _, h.below b, hF.out⟩, Keep.of b, fun _ q => .inl q, fun _ q => q⟩
  rw [e1] at NO
  clear h hk hE e1 b1
  go_enter Tryz.func33, Tryz.ntmps33
  go_wp2_with fail
  refine NO.out.mono ?_
  rintro r w1 ⟨rfl, hb1⟩
  have M := L1.out.go hb1
  have m0 := M.c 0 _ rfl; have m1 := M.c 1 _ rfl; have f0 := M.f 0 (by simp); have f1 := M.f 1 (by simp); have ml := M.lt
  have HM := Lib.hid (M.store2 (.int .i64 0) (.int .i64 0))
  clear M NO L1
  go_wp2
  have x0 := HM.out.c 0 _ rfl; have x1 := HM.out.c 1 _ rfl
  exact bodyPost_ret (v := .tuple #[.agg #[.int .i64 0, .int .i64 0], .iface 291 (.pointer (some (ev 2)))]) (by simp [x0, x1, results, Tryz.results33, go_sem]) rfl (FIN.out _ (by repeat (first | exact Below.refl _ _ | refine Below.drew ?_ | refine below_drewN ?_ _ | refine Below.trans ?_ (Below.mono (by assumption) (by first | omega | (simp; omega) | (simp; done))) | refine Below.alloc ?_ (by first | omega | (simp; omega) | (simp; done)) _ | refine Below.setCell ?_ (by first | omega | (simp; omega) | (simp; done)) _)))
end
end Go.Proofs.YtcokmiidgdmdlaaGreatDoor
