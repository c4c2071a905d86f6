/- A config that came in: what it reads as. -/
import Derived.Test.YtigginpcokfihaaGreatDoorRowG
import Derived.Test.YtigginpcokfihaaGreatDoorZChk
import Derived.ChangeSlices
import Derived.Lib.SmallJoins
namespace Go.Proofs.YtigginpcokfihaaGreatDoor
open Go.RowKit Go.ChangeShapes Go.WideShapes Go.Joins
set_option linter.unusedSimpArgs false

theorem cells_int : Tryz.prog.cellsOf 3 = 1 := by kernel_rfl
theorem cells_ints : Tryz.prog.cellsOf 22 = 1 := by kernel_rfl
theorem rowG_rowV {α : Type} {f : α → Value} {fits : α → Prop} {w : World} {v : Value} {xs : List α} (h : RowG 1 (fun x => [f x]) fits w v xs) : RowV [] w v (xs.map f) := by
  obtain ⟨p, cap, rfl, hc, h2⟩ := h
  refine ⟨p, cap, by simp, by simpa using hc.1, hc.2, fun j u hj => ?_⟩
  rw [List.getElem?_map] at hj
  cases hx : xs[j]? with
  | none => rw [hx] at hj; cases hj
  | some x =>
    rw [hx] at hj
    obtain rfl := Option.some.inj hj
    obtain ⟨_, g, off, e, hg, hcell⟩ := h2 j x hx
    exact ⟨g, off, e, by simp, hg, by simpa using hcell 0 _ rfl⟩
theorem rowV_ints {H : Type} {enc : TypeId × Value → H} {W : World} {base : Nat} {spare : Nat → Bool} {held : Bool} {fuel : Nat} {v : Value} {x : DataW H × List MemPlace}
    (h : DataW.trod enc Tryz.prog W base spare held fuel 22 [v] = some x) : ∃ xs : List Int, RowV [] W v (ints xs) ∧ ∀ y ∈ xs, Fit64 y := by
  obtain ⟨xs, hx⟩ := rowG_of (α := Int) (s := 1) (cells := fun y => [.int .i64 y]) (fits := Fit64) Tryz.underlying22 cells_int (by omega) (fun n cs y h1 h2 => by
    obtain ⟨u, e, _, w⟩ := DataW.trod_int Tryz.underlying3 h2
    exact ⟨u, e, fit64_wf w⟩) h
  exact ⟨xs, rowG_rowV hx, fun y hy => by
    obtain ⟨j, hj⟩ := List.getElem?_of_mem hy
    obtain ⟨_, _, _, _, h2⟩ := hx
    exact (h2 j y hj).1⟩
theorem rowR_ints {H : Type} {enc : TypeId × Value → H} {W : World} {base : Nat} {spare : Nat → Bool} {held : Bool} {fuel : Nat} {v : Value} {x : DataW H × List MemPlace}
    (h : DataW.trod enc Tryz.prog W base spare held fuel 23 [v] = some x) : ∃ N : List (List Int), RowR [] W v N ∧ ∀ l ∈ N, ∀ y ∈ l, Fit64 y := by
  obtain ⟨xs, hx⟩ := rowG_of (α := Value × List Int) (s := 1) (cells := fun y => [y.1]) (fits := fun y => RowV [] W y.1 (ints y.2) ∧ ∀ z ∈ y.2, Fit64 z) Tryz.underlying23 cells_ints (by omega) (fun n cs y h1 h2 => by
    obtain ⟨u, rfl⟩ : ∃ u, cs = [u] := by match cs, h1 with | [u], _ => exact ⟨u, rfl⟩
    obtain ⟨l, hl⟩ := rowV_ints h2
    exact ⟨(u, l), rfl, hl⟩) h
  have hfit : ∀ (j : Nat) (y : Value × List Int), xs[j]? = some y → RowV [] W y.1 (ints y.2) ∧ ∀ z ∈ y.2, Fit64 z := fun j y hj => by
    obtain ⟨_, _, _, _, h2⟩ := hx
    exact (h2 j y hj).1
  refine ⟨xs.map (·.2), ⟨xs.map (·.1), by simp, rowG_rowV hx, fun j u l hu hl => ?_⟩, fun l hl => ?_⟩
  · rw [List.getElem?_map] at hu hl
    cases hy : xs[j]? with
    | none => rw [hy] at hu; cases hu
    | some y =>
      rw [hy] at hu hl
      obtain rfl := Option.some.inj hu
      obtain rfl := Option.some.inj hl
      exact (hfit j y hy).1
  · obtain ⟨y, hy, rfl⟩ := List.mem_map.1 hl
    obtain ⟨j, hj⟩ := List.getElem?_of_mem hy
    exact (hfit j y hj).2

set_option maxRecDepth 100000 in
/-- the document's config, by value -/
theorem config_of {H : Type} {enc : TypeId × Value → H} {W : World} {base b0 : Nat} {spare : Nat → Bool} {held : Bool} {r : Reach} {v : Value} {d : DataW H} {p : List MemPlace}
    (hv : Value.okWide Tryz.prog W r b0 27 v) (h : DataW.Trod enc Tryz.prog W base spare held 27 v d p) :
    ∃ (vP vN : Value) (P : List Int) (N : List (List Int)) (mn lw hi : Int), v = .agg #[vP, vN, .int .i64 mn, .int .i64 lw, .int .i64 hi] ∧ Cfg [] W vP vN P N ∧ (Fit64 mn ∧ Fit64 lw ∧ Fit64 hi) ∧ (∀ y ∈ P, Fit64 y) ∧ (∀ l ∈ N, ∀ y ∈ l, Fit64 y) := by
  obtain ⟨cs, rfl, hsz⟩ := okWide_struct Tryz.underlying27 hv
  obtain ⟨l⟩ := cs
  have hC : Tryz.prog.cellsOf 27 = 5 := by kernel_rfl
  obtain ⟨v0, v1, v2, v3, v4, rfl⟩ := len5 (hsz.trans hC)
  obtain ⟨fuel, hf⟩ := h
  obtain ⟨ys, k, _, _, _, hl, hg⟩ := DataW.trod_struct Tryz.underlying27 hf
  obtain ⟨y0, y1, y2, rfl⟩ := len3 (hl.trans rfl)
  have k0 : Tryz.prog.cellsOf 22 = 1 := by kernel_rfl
  have k1 : Tryz.prog.cellsOf 23 = 1 := by kernel_rfl
  have k2 : Tryz.prog.cellsOf 25 = 3 := by kernel_rfl
  have k3 : Tryz.prog.cellsOf 3 = 1 := by kernel_rfl
  have g0 := hg 0 _ rfl
  have g1 := hg 1 _ rfl
  have g2 := hg 2 _ rfl
  simp [Value.cells] at g0 g1 g2
  rw [k0] at g0; rw [k1] at g1; rw [k2] at g2
  simp at g0 g1 g2
  obtain ⟨zs, k', _, _, _, hzl, hz⟩ := DataW.trod_struct Tryz.underlying25 g2
  obtain ⟨z0, z1, z2, rfl⟩ := len3 (hzl.trans rfl)
  have u0 := hz 0 _ rfl
  have u1 := hz 1 _ rfl
  have u2 := hz 2 _ rfl
  simp at u0 u1 u2
  rw [k3] at u0 u1 u2
  simp at u0 u1 u2
  obtain ⟨P, hP, fP⟩ := rowV_ints g0
  obtain ⟨N, hN, fN⟩ := rowR_ints g1
  obtain ⟨a, e0, _, w0⟩ := DataW.trod_int Tryz.underlying3 u0
  obtain ⟨b, e1, _, w1⟩ := DataW.trod_int Tryz.underlying3 u1
  obtain ⟨c, e2, _, w2⟩ := DataW.trod_int Tryz.underlying3 u2
  simp at e0 e1 e2
  subst e0 e1 e2
  exact ⟨v0, v1, P, N, a, b, c, rfl, ⟨hP, hN⟩, ⟨fit64_wf w0, fit64_wf w1, fit64_wf w2⟩, fP, fN⟩
end Go.Proofs.YtigginpcokfihaaGreatDoor
