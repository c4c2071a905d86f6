/- From the full list of package-level variables (package errors' own, and the ten errors of package api) to what the walks ask. -/
import Derived.Test.YtigginpcokfihaaGreatDoorLaid
namespace Go.Proofs.YtigginpcokfihaaGreatDoor
open Go.RowKit Go.ChangeShapes

def lS : List (String × List UInt8) := (Rows.zoneMinRow.laid.drop 1).map fun x => (x.1, sentT x.2)
theorem lS_filter : (Rows.zoneMinRow.laid.filter fun x => x.2.handleName?.isNone) = lS.map fun x => (x.1, sentD x.2) := by kernel_rfl
theorem lS_handle : (Rows.zoneMinRow.laid.filter fun x => x.2.handleName?.isSome) = Rows.zoneMinRow.laid.take 1 := by kernel_rfl
def hd1 : String × DataW Unit := Rows.zoneMinRow.laid.headD ("", .nil)
theorem take1 : Rows.zoneMinRow.laid.take 1 = [hd1] := rfl
def hName : List UInt8 := [101, 114, 114, 111, 114]
theorem typ_name (x : String × DataW Unit) (hx : x ∈ Rows.zoneMinRow.laid.take 1) : x.2.funcsIn? = none ∧ x.2.handleName? = some hName ∧ Tryz.prog.globalNamed x.1 = some 10 := by
  rw [take1] at hx
  obtain rfl := List.mem_singleton.1 hx
  exact ⟨by kernel_rfl, by kernel_rfl, by kernel_rfl⟩
theorem one_type : ((List.range Tryz.prog.types.size).filter fun t => Tryz.prog.rowNamed t hName) = [33] := by kernel_rfl

theorem errs_of_laid {W : World} (h : laidMetH Tryz.prog Rows.zoneMinRow.laid W) : ∃ ev, Errs W.heap.size ev W := by
  have h' : laidMet Tryz.prog (lS.map fun x => (x.1, sentD x.2)) W ∧ handlesMet Tryz.prog (Rows.zoneMinRow.laid.take 1) W := by
    unfold laidMetH at h
    rw [lS_handle, lS_filter] at h
    exact h
  obtain ⟨hS, hH⟩ := h'
  obtain ⟨al, h1, h2, h3⟩ := sents_of lS (by kernel_rfl) hS
  have htyp : W.cell? ⟨10, 0, none⟩ = some (.iface 160 (.agg #[.pointer (some ⟨11, 33, none⟩)])) := by
    have hx : hd1 ∈ Rows.zoneMinRow.laid.take 1 := by rw [take1]; exact List.mem_singleton.2 rfl
    obtain ⟨n1, n2, n3⟩ := typ_name _ hx
    have := hH _ hx
    rw [n1] at this
    obtain ⟨name, u, ty, e1, e2, e3, e4, e5⟩ := this
    rw [n2] at e1
    obtain rfl := Option.some.inj e1
    have hm : ty ∈ (List.range Tryz.prog.types.size).filter fun t => Tryz.prog.rowNamed t hName := List.mem_filter.2 ⟨List.mem_range.2 e3, e4⟩
    rw [one_type] at hm
    obtain rfl := List.mem_singleton.1 hm
    have hh : typeHandle Tryz.prog 33 = .pointer (some ⟨11, 33, none⟩) := by kernel_rfl
    rw [hh] at e5
    have hu : u = 160 := by
      have e6 := e2.symm
      have : ∀ {y : Option TypeId}, y = some 160 → some u = y → u = 160 := fun a b => Option.some.inj (b.trans a)
      exact this (by kernel_rfl) e6
    subst hu
    simpa using World.var?_cell n3 e5 0
  match al, h1, h2, h3 with
  | [a1, a2, a3, a4, a5, a6, a7, a8, a9, a10], _, h2, h3 =>
    have g : ∀ (i : Nat), 1 ≤ i → i ≤ 10 → ∃ x a, lS[i - 1]? = some x ∧ [a1, a2, a3, a4, a5, a6, a7, a8, a9, a10][i - 1]? = some a ∧ Tryz.prog.globalNamed x.1 = some (errG i) := by
      intro i i1 i2
      match i, i1, i2 with
      | 1, _, _ => exact ⟨_, _, rfl, rfl, by kernel_rfl⟩
      | 2, _, _ => exact ⟨_, _, rfl, rfl, by kernel_rfl⟩
      | 3, _, _ => exact ⟨_, _, rfl, rfl, by kernel_rfl⟩
      | 4, _, _ => exact ⟨_, _, rfl, rfl, by kernel_rfl⟩
      | 5, _, _ => exact ⟨_, _, rfl, rfl, by kernel_rfl⟩
      | 6, _, _ => exact ⟨_, _, rfl, rfl, by kernel_rfl⟩
      | 7, _, _ => exact ⟨_, _, rfl, rfl, by kernel_rfl⟩
      | 8, _, _ => exact ⟨_, _, rfl, rfl, by kernel_rfl⟩
      | 9, _, _ => exact ⟨_, _, rfl, rfl, by kernel_rfl⟩
      | 10, _, _ => exact ⟨_, _, rfl, rfl, by kernel_rfl⟩
    generalize hl : [a1, a2, a3, a4, a5, a6, a7, a8, a9, a10] = L at *
    let ev : Nat → Addr := fun i => L.getD (i - 1) default
    have hev : ∀ i, 1 ≤ i → i ≤ 10 → L[i - 1]? = some (ev i) := by
      intro i i1 i2
      obtain ⟨x, a, _, hb, _⟩ := g i i1 i2
      show L[i - 1]? = some (L.getD (i - 1) default)
      rw [List.getD_eq_getElem?_getD, hb]; rfl
    have hcell : ∀ i, 1 ≤ i → i ≤ 10 → W.cell? ⟨errG i, 0, none⟩ = some (errV ev i) := by
      intro i i1 i2
      obtain ⟨x, a, ha, hb, hg⟩ := g i i1 i2
      have e : a = ev i := Option.some.inj (hb.symm.trans (hev i i1 i2))
      subst e
      have := World.var?_cell hg (h2 _ x _ ha hb).1 0
      rw [this]
      obtain ⟨j, rfl⟩ : ∃ j, i = j + 1 := ⟨i - 1, by omega⟩
      rfl
    have hrow : ∀ i, 1 ≤ i → i ≤ 10 → ∃ c t, W.heap[(ev i).block]? = some (.cells c t (0, 0)) := by
      intro i i1 i2
      obtain ⟨x, a, ha, hb, hg⟩ := g i i1 i2
      have e : a = ev i := Option.some.inj (hb.symm.trans (hev i i1 i2))
      subst e
      exact (h2 _ x _ ha hb).2
    refine ⟨ev, Nat.le_refl _, fun i i1 i2 => lt_of_cell (hcell i i1 i2), hcell, ?_, hrow, fun i i1 i2 => ?_, lt_of_cell htyp, htyp⟩
    · intro i j i1 i2 j1 j2 he
      have hi := hev i i1 i2
      have hj := hev j j1 j2
      rcases Nat.lt_trichotomy i j with hlt | rfl | hlt
      · exfalso
        have := List.pairwise_iff_getElem.1 h3 (i - 1) (j - 1) (List.getElem?_eq_some_iff.1 hi).1 (List.getElem?_eq_some_iff.1 hj).1 (by omega)
        rw [(List.getElem?_eq_some_iff.1 hi).2, (List.getElem?_eq_some_iff.1 hj).2] at this
        exact this he
      · rfl
      · exfalso
        have := List.pairwise_iff_getElem.1 h3 (j - 1) (i - 1) (List.getElem?_eq_some_iff.1 hj).1 (List.getElem?_eq_some_iff.1 hi).1 (by omega)
        rw [(List.getElem?_eq_some_iff.1 hi).2, (List.getElem?_eq_some_iff.1 hj).2] at this
        exact this he.symm
    · obtain ⟨c, t, hr⟩ := hrow i i1 i2
      exact lt_of_row hr
end Go.Proofs.YtigginpcokfihaaGreatDoor
