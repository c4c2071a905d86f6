/- RowASl: a slice of these that came in: what it reads as. -/
import Derived.Test.YtcokmiidgdmdlaaGreatDoorMem
namespace Go.Proofs.YtcokmiidgdmdlaaGreatDoor
open Go.RowKit Go.ChangeShapes
set_option linter.unusedSimpArgs false

structure SActD where
  kind : ByteArray
  node : Int
  num : Int
  urgent : Bool
  on : Int
  oa : Int
def SActD.cells (x : SActD) : List Value := [.string x.kind, .int .i64 x.node, .int .i64 x.num, .bool x.urgent, .int .i64 x.on, .int .i64 x.oa]
def SActD.fits (x : SActD) : Prop := x.kind.size ≤ maxLen ∧ Fit64 x.node ∧ Fit64 x.num ∧ Fit64 x.on ∧ Fit64 x.oa
theorem cellsSAct : Tryz.prog.cellsOf 82 = 6 := by kernel_rfl
def RowSAct (w : World) (v : Value) (xs : List SActD) : Prop := RowG 6 SActD.cells SActD.fits w v xs
theorem rowSAct_of {H : Type} {enc : TypeId × Value → H} {W : World} {base : Nat} {spare : Nat → Bool} {held : Bool} {fuel : Nat} {v : Value} {x : DataW H × List MemPlace}
    (h : DataW.trod enc Tryz.prog W base spare held fuel 80 [v] = some x) : ∃ xs, RowSAct W v xs := by
  refine rowG_of Tryz.underlying80 cellsSAct (by omega) (fun n cs y h1 h2 => ?_) h
  obtain ⟨v0, v1, v2, v3, v4, v5, rfl⟩ := len6 h1
  obtain ⟨ys, k, _, _, _, hl, hf⟩ := DataW.trod_struct Tryz.underlying82 h2
  obtain ⟨y0, y1, y2, y3, y4, rfl⟩ := len5 (hl.trans rfl)
  have g0 := hf 0 _ rfl
  simp at g0
  rw [show Tryz.prog.cellsOf 9 = 1 by kernel_rfl] at g0
  simp at g0
  have g1 := hf 1 _ rfl
  simp at g1
  rw [show Tryz.prog.cellsOf 3 = 1 by kernel_rfl] at g1
  simp at g1
  have g2 := hf 2 _ rfl
  simp at g2
  rw [show Tryz.prog.cellsOf 3 = 1 by kernel_rfl] at g2
  simp at g2
  have g3 := hf 3 _ rfl
  simp at g3
  rw [show Tryz.prog.cellsOf 4 = 1 by kernel_rfl] at g3
  simp at g3
  have g4 := hf 4 _ rfl
  simp at g4
  rw [show Tryz.prog.cellsOf 72 = 2 by kernel_rfl] at g4
  simp at g4
  obtain ⟨u0, e0, _, w0⟩ := DataW.trod_string Tryz.underlying9 g0
  simp at e0; subst e0
  obtain ⟨u1, e1, _, w1⟩ := DataW.trod_int Tryz.underlying3 g1
  simp at e1; subst e1
  obtain ⟨u2, e2, _, w2⟩ := DataW.trod_int Tryz.underlying3 g2
  simp at e2; subst e2
  obtain ⟨u3, e3, _⟩ := DataW.trod_bool Tryz.underlying4 g3
  simp at e3; subst e3
  obtain ⟨yse, ke, _, _, _, hle, hfe⟩ := DataW.trod_struct Tryz.underlying72 g4
  obtain ⟨ye0, ye1, rfl⟩ := len2 (hle.trans rfl)
  have ge0 := hfe 0 _ rfl
  simp at ge0
  rw [show Tryz.prog.cellsOf 3 = 1 by kernel_rfl] at ge0
  simp at ge0
  have ge1 := hfe 1 _ rfl
  simp at ge1
  rw [show Tryz.prog.cellsOf 3 = 1 by kernel_rfl] at ge1
  simp at ge1
  obtain ⟨u4, e4, _, w4⟩ := DataW.trod_int Tryz.underlying3 ge0
  simp at e4; subst e4
  obtain ⟨u5, e5, _, w5⟩ := DataW.trod_int Tryz.underlying3 ge1
  simp at e5; subst e5
  exact ⟨⟨u0, u1, u2, u3, u4, u5⟩, rfl, w0, fit64_wf w1, fit64_wf w2, fit64_wf w4, fit64_wf w5⟩
end Go.Proofs.YtcokmiidgdmdlaaGreatDoor
