/- From BuddyWhole's list of package-level variables (four errors) to what the walks ask; a slice of ints that came in. -/
import Derived.Test.YtcooflachcimbaaDoorLaid
import Derived.Test.YtcooflachcimbaaDoorRowI
import Derived.ChangeSlices
namespace Go.Proofs.YtcooflachcimbaaDoor
open Go.RowKit Go.ChangeShapes

def l4 : List (String × List UInt8) := Rows.buddyWholeRow.laid.map fun x => (x.1, sentT x.2)
theorem errD_of_laid {W : World} (h : laidMetH Tryd.prog Rows.buddyWholeRow.laid W) : ∃ ev, ErrD W.heap.size ev W := by
  rw [MakeChecks.laidMetH_plain _ _ _ (by kernel_rfl)] at h
  have e : Rows.buddyWholeRow.laid = l4.map fun x => (x.1, sentD x.2) := rfl
  rw [e] at h
  obtain ⟨al, h1, h2, _⟩ := sents_of l4 (by kernel_rfl) h
  match al, h1, h2 with
  | [a2, a3, a4, a5], _, h2 =>
    have x2 := (h2 0 _ a2 rfl rfl).1
    have x3 := (h2 1 _ a3 rfl rfl).1
    have x4 := (h2 2 _ a4 rfl rfl).1
    have x5 := (h2 3 _ a5 rfl rfl).1
    have c2 := World.var?_cell (g := 1) (by kernel_rfl) x2 0
    have c3 := World.var?_cell (g := 2) (by kernel_rfl) x3 0
    have c4 := World.var?_cell (g := 3) (by kernel_rfl) x4 0
    have c5 := World.var?_cell (g := 4) (by kernel_rfl) x5 0
    exact ⟨fun i => if i = 2 then a2 else if i = 3 then a3 else if i = 4 then a4 else a5, ⟨Nat.le_refl _, lt_of_cell c2, lt_of_cell c3, lt_of_cell c4, c2, c3, c4⟩, lt_of_cell c5, c5⟩
end Go.Proofs.YtcooflachcimbaaDoor
