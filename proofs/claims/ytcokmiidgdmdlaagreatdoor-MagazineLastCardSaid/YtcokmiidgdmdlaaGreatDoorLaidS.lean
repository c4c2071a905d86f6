/- The errors of MagazineLast's row, laid. -/
import Derived.Test.YtcokmiidgdmdlaaGreatDoorLaid
import Derived.Test.YtcokmiidgdmdlaaGreatDoorDGive
namespace Go.Proofs.YtcokmiidgdmdlaaGreatDoor
open Go.RowKit Go.ChangeShapes

def l6 : List (String × List UInt8) := Rows.magazineLastRow.laid.map fun x => (x.1, sentT x.2)
theorem errS_of_laid {W : World} (h : laidMetH Tryz.prog Rows.magazineLastRow.laid W) : ∃ ev, ErrS W.heap.size ev W := by
  rw [MakeChecks.laidMetH_plain _ _ _ (by kernel_rfl)] at h
  have e : Rows.magazineLastRow.laid = l6.map fun x => (x.1, sentD x.2) := rfl
  rw [e] at h
  obtain ⟨al, h1, h2, _⟩ := sents_of l6 (by kernel_rfl) h
  match al, h1, h2 with
  | [a2, a3, a4, a5, a7, a9], _, h2 =>
    have x2 := (h2 0 _ a2 rfl rfl).1
    have x3 := (h2 1 _ a3 rfl rfl).1
    have x4 := (h2 2 _ a4 rfl rfl).1
    have x5 := (h2 3 _ a5 rfl rfl).1
    have x7 := (h2 4 _ a7 rfl rfl).1
    have x9 := (h2 5 _ a9 rfl rfl).1
    have c2 := World.var?_cell (g := 2) (by kernel_rfl) x2 0
    have c3 := World.var?_cell (g := 3) (by kernel_rfl) x3 0
    have c4 := World.var?_cell (g := 6) (by kernel_rfl) x4 0
    have c5 := World.var?_cell (g := 1) (by kernel_rfl) x5 0
    have c7 := World.var?_cell (g := 0) (by kernel_rfl) x7 0
    have c9 := World.var?_cell (g := 4) (by kernel_rfl) x9 0
    exact ⟨fun i => if i = 2 then a2 else if i = 3 then a3 else if i = 4 then a4 else if i = 5 then a5 else if i = 7 then a7 else a9, ⟨⟨⟨Nat.le_refl _, lt_of_cell c2, lt_of_cell c3, lt_of_cell c4, c2, c3, c4⟩, lt_of_cell c5, c5⟩, lt_of_cell c7, c7⟩, lt_of_cell c9, c9⟩
end Go.Proofs.YtcokmiidgdmdlaaGreatDoor
