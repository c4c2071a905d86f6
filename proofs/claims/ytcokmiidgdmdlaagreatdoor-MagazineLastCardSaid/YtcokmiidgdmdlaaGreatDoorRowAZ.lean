/- RowAZ: a slice of these that came in: what it reads as. -/
import Derived.Test.YtcokmiidgdmdlaaGreatDoorMem
namespace Go.Proofs.YtcokmiidgdmdlaaGreatDoor
open Go.RowKit Go.ChangeShapes
set_option linter.unusedSimpArgs false

structure ZActD where
  kind : ByteArray
  node : Int
  order : Int
  urgent : Bool
  pn : Int
  pa : Int
  pk : Int
def ZActD.cells (x : ZActD) : List Value := [.string x.kind, .int .i64 x.node, .int .i64 x.order, .bool x.urgent, .int .i64 x.pn, .int .i64 x.pa, .int .i64 x.pk]
def ZActD.fits (x : ZActD) : Prop := x.kind.size ≤ maxLen ∧ Fit64 x.node ∧ Fit64 x.order ∧ Fit64 x.pn ∧ Fit64 x.pa ∧ Fit64 x.pk
theorem cellsZAct : Tryz.prog.cellsOf 43 = 7 := by kernel_rfl
def RowZAct (w : World) (v : Value) (xs : List ZActD) : Prop := RowG 7 ZActD.cells ZActD.fits w v xs
theorem rowZAct_of {H : Type} {enc : TypeId × Value → H} {W : World} {base : Nat} {spare : Nat → Bool} {held : Bool} {fuel : Nat} {v : Value} {x : DataW H × List MemPlace}
    (h : DataW.trod enc Tryz.prog W base spare held fuel 28 [v] = some x) : ∃ xs, RowZAct W v xs := by
  refine rowG_of Tryz.underlying28 cellsZAct (by omega) (fun n cs y h1 h2 => ?_) h
  obtain ⟨v0, v1, v2, v3, v4, v5, v6, rfl⟩ := len7 h1
  obtain ⟨ys, k, _, _, _, hl, hf⟩ := DataW.trod_struct Tryz.underlying43 h2
  obtain ⟨y0, y1, y2, y3, y4, rfl⟩ := len5 (hl.trans rfl)
  have g0 := hf 0 _ rfl
  simp at g0
  rw [show Tryz.prog.cellsOf 9 = 1 by kernel_rfl] at g0
  simp at g0
  have g1 := hf 1 _ rfl
  simp at g1
  rw [show Tryz.prog.cellsOf 3 = 1 by kernel_rfl] at g1
  simp at g1
  have g2 := hf 2 _ rfl
  simp at g2
  rw [show Tryz.prog.cellsOf 3 = 1 by kernel_rfl] at g2
  simp at g2
  have g3 := hf 3 _ rfl
  simp at g3
  rw [show Tryz.prog.cellsOf 4 = 1 by kernel_rfl] at g3
  simp at g3
  have g4 := hf 4 _ rfl
  simp at g4
  rw [show Tryz.prog.cellsOf 41 = 3 by kernel_rfl] at g4
  simp at g4
  obtain ⟨u0, e0, _, w0⟩ := DataW.trod_string Tryz.underlying9 g0
  simp at e0; subst e0
  obtain ⟨u1, e1, _, w1⟩ := DataW.trod_int Tryz.underlying3 g1
  simp at e1; subst e1
  obtain ⟨u2, e2, _, w2⟩ := DataW.trod_int Tryz.underlying3 g2
  simp at e2; subst e2
  obtain ⟨u3, e3, _⟩ := DataW.trod_bool Tryz.underlying4 g3
  simp at e3; subst e3
  obtain ⟨yse, ke, _, _, _, hle, hfe⟩ := DataW.trod_struct Tryz.underlying41 g4
  obtain ⟨ye0, ye1, rfl⟩ := len2 (hle.trans rfl)
  have ge0 := hfe 0 _ rfl
  simp at ge0
  rw [show Tryz.prog.cellsOf 3 = 1 by kernel_rfl] at ge0
  simp at ge0
  have ge1 := hfe 1 _ rfl
  simp at ge1
  rw [show Tryz.prog.cellsOf 39 = 2 by kernel_rfl] at ge1
  simp at ge1
  obtain ⟨u4, e4, _, w4⟩ := DataW.trod_int Tryz.underlying3 ge0
  simp at e4; subst e4
  obtain ⟨yseb, keb, _, _, _, hleb, hfeb⟩ := DataW.trod_struct Tryz.underlying39 ge1
  obtain ⟨yeb0, yeb1, rfl⟩ := len2 (hleb.trans rfl)
  have geb0 := hfeb 0 _ rfl
  simp at geb0
  rw [show Tryz.prog.cellsOf 3 = 1 by kernel_rfl] at geb0
  simp at geb0
  have geb1 := hfeb 1 _ rfl
  simp at geb1
  rw [show Tryz.prog.cellsOf 3 = 1 by kernel_rfl] at geb1
  simp at geb1
  obtain ⟨u5, e5, _, w5⟩ := DataW.trod_int Tryz.underlying3 geb0
  simp at e5; subst e5
  obtain ⟨u6, e6, _, w6⟩ := DataW.trod_int Tryz.underlying3 geb1
  simp at e6; subst e6
  exact ⟨⟨u0, u1, u2, u3, u4, u5, u6⟩, rfl, w0, fit64_wf w1, fit64_wf w2, fit64_wf w4, fit64_wf w5, fit64_wf w6⟩
end Go.Proofs.YtcokmiidgdmdlaaGreatDoor
