/-
  DERIVED. GIVEN WITH THE SEED: THE PROGRAM's TIES (one call each: nine closed facts by the kernel) AND EACH ROW's TIE, after the 31st guide's Derived/Test/Toyas{Tie, Card}.lean. No idea stands in it: it is a product of the set-up. Laid BY PROGRAM, IN A SANDBOX (cutbox-door.mjs). By AI agents, Wed Nov 11 2026. No macro, syntax, notation, axiom, sorry.
-/
import Derived.Test.YtcooflachcimbaaDoorRows
import Derived.LaidByTextLater
import Derived.SevenTiedAt
import Derived.LaidSub
import Derived.LaidOnce
namespace Go.Proofs.YtcooflachcimbaaDoor
open Go
set_option maxRecDepth 100000
theorem seatTie1 : Tryd.prog.laidByTextLater [("errors.errorType", Rows.laid_errors_errorType), ("slabyard/api.ErrText", Rows.laid_slabyard_api_ErrText), ("slabyard/api.ErrBound", Rows.laid_slabyard_api_ErrBound), ("slabyard/api.ErrShape", Rows.laid_slabyard_api_ErrShape), ("slabyard/api.ErrNone", Rows.laid_slabyard_api_ErrNone), ("slabyard/api.ErrFull", Rows.laid_slabyard_api_ErrFull), ("slabyard/api.ErrHeld", Rows.laid_slabyard_api_ErrHeld), ("slabyard/api.ErrLow", Rows.laid_slabyard_api_ErrLow), ("slabyard/api.ErrWait", Rows.laid_slabyard_api_ErrWait), ("slabyard/api.ErrStale", Rows.laid_slabyard_api_ErrStale), ("slabyard/api.ErrMany", Rows.laid_slabyard_api_ErrMany)] [.handle, .sentinel, .sentinel, .sentinel, .sentinel, .sentinel, .sentinel, .sentinel, .sentinel, .sentinel, .sentinel] true :=
  Program.laidByTextLater_by_one 206 8 2 (by kernel_rfl) (by kernel_rfl) (by kernel_rfl) (by kernel_rfl) (by kernel_rfl) (by kernel_rfl) (fun _ _ => by kernel_rfl)
theorem noOwnUnsafe : Tryd.pinned.checked.prog.headLifts.contains "ownunsafe" = false := by kernel_rfl
theorem tie : Tryd.prog.laidByTextLater [("slabyard/api.ErrBound", Rows.laid_slabyard_api_ErrBound), ("slabyard/api.ErrShape", Rows.laid_slabyard_api_ErrShape), ("slabyard/api.ErrNone", Rows.laid_slabyard_api_ErrNone)] [.sentinel, .sentinel, .sentinel] true :=
  Program.laidByTextLater.sub seatTie1 ["slabyard/api.ErrBound", "slabyard/api.ErrShape", "slabyard/api.ErrNone"] (by kernel_rfl) (by kernel_rfl)
theorem framesTwice_row_tie : Rows.framesTwiceRow.laidByTextAt .later Tryd.pinned [.sentinel, .sentinel, .sentinel] true :=
  OpenClaim.laidByTextAt_later rfl rfl tie noOwnUnsafe
theorem tie2 : Tryd.prog.laidByTextLater [("errors.errorType", Rows.laid_errors_errorType), ("slabyard/api.ErrText", Rows.laid_slabyard_api_ErrText), ("slabyard/api.ErrBound", Rows.laid_slabyard_api_ErrBound), ("slabyard/api.ErrShape", Rows.laid_slabyard_api_ErrShape), ("slabyard/api.ErrNone", Rows.laid_slabyard_api_ErrNone), ("slabyard/api.ErrFull", Rows.laid_slabyard_api_ErrFull), ("slabyard/api.ErrHeld", Rows.laid_slabyard_api_ErrHeld), ("slabyard/api.ErrLow", Rows.laid_slabyard_api_ErrLow), ("slabyard/api.ErrWait", Rows.laid_slabyard_api_ErrWait), ("slabyard/api.ErrStale", Rows.laid_slabyard_api_ErrStale), ("slabyard/api.ErrMany", Rows.laid_slabyard_api_ErrMany)] [.handle, .sentinel, .sentinel, .sentinel, .sentinel, .sentinel, .sentinel, .sentinel, .sentinel, .sentinel, .sentinel] true :=
  Program.laidByTextLater.sub seatTie1 ["errors.errorType", "slabyard/api.ErrText", "slabyard/api.ErrBound", "slabyard/api.ErrShape", "slabyard/api.ErrNone", "slabyard/api.ErrFull", "slabyard/api.ErrHeld", "slabyard/api.ErrLow", "slabyard/api.ErrWait", "slabyard/api.ErrStale", "slabyard/api.ErrMany"] (by kernel_rfl) (by kernel_rfl)
theorem names_row_tie : Rows.namesRow.laidByTextAt .later Tryd.pinned [.handle, .sentinel, .sentinel, .sentinel, .sentinel, .sentinel, .sentinel, .sentinel, .sentinel, .sentinel, .sentinel] true :=
  OpenClaim.laidByTextAt_later rfl rfl tie2 noOwnUnsafe
theorem framesSizes_row_tie : Rows.framesSizesRow.laidByTextAt .later Tryd.pinned [.handle, .sentinel, .sentinel, .sentinel, .sentinel, .sentinel, .sentinel, .sentinel, .sentinel, .sentinel, .sentinel] true :=
  OpenClaim.laidByTextAt_later rfl rfl tie2 noOwnUnsafe
theorem framesBlocks_row_tie : Rows.framesBlocksRow.laidByTextAt .later Tryd.pinned [.handle, .sentinel, .sentinel, .sentinel, .sentinel, .sentinel, .sentinel, .sentinel, .sentinel, .sentinel, .sentinel] true :=
  OpenClaim.laidByTextAt_later rfl rfl tie2 noOwnUnsafe
theorem framesCover_row_tie : Rows.framesCoverRow.laidByTextAt .later Tryd.pinned [.handle, .sentinel, .sentinel, .sentinel, .sentinel, .sentinel, .sentinel, .sentinel, .sentinel, .sentinel, .sentinel] true :=
  OpenClaim.laidByTextAt_later rfl rfl tie2 noOwnUnsafe
theorem buddyLeft_row_tie : Rows.buddyLeftRow.laidByTextAt .later Tryd.pinned [.handle, .sentinel, .sentinel, .sentinel, .sentinel, .sentinel, .sentinel, .sentinel, .sentinel, .sentinel, .sentinel] true :=
  OpenClaim.laidByTextAt_later rfl rfl tie2 noOwnUnsafe
theorem buddyActs_row_tie : Rows.buddyActsRow.laidByTextAt .later Tryd.pinned [.handle, .sentinel, .sentinel, .sentinel, .sentinel, .sentinel, .sentinel, .sentinel, .sentinel, .sentinel, .sentinel] true :=
  OpenClaim.laidByTextAt_later rfl rfl tie2 noOwnUnsafe
theorem tie3 : Tryd.prog.laidByTextLater [("slabyard/api.ErrBound", Rows.laid_slabyard_api_ErrBound), ("slabyard/api.ErrShape", Rows.laid_slabyard_api_ErrShape), ("slabyard/api.ErrNone", Rows.laid_slabyard_api_ErrNone), ("slabyard/api.ErrFull", Rows.laid_slabyard_api_ErrFull)] [.sentinel, .sentinel, .sentinel, .sentinel] true :=
  Program.laidByTextLater.sub seatTie1 ["slabyard/api.ErrBound", "slabyard/api.ErrShape", "slabyard/api.ErrNone", "slabyard/api.ErrFull"] (by kernel_rfl) (by kernel_rfl)
theorem buddyWhole_row_tie : Rows.buddyWholeRow.laidByTextAt .later Tryd.pinned [.sentinel, .sentinel, .sentinel, .sentinel] true :=
  OpenClaim.laidByTextAt_later rfl rfl tie3 noOwnUnsafe
theorem framesTwiceUpto_row_tie : Rows.framesTwiceUptoRow.laidByTextAt .later Tryd.pinned [.sentinel, .sentinel, .sentinel] true :=
  OpenClaim.laidByTextAt_later rfl rfl tie noOwnUnsafe
theorem namesUpto_row_tie : Rows.namesUptoRow.laidByTextAt .later Tryd.pinned [.handle, .sentinel, .sentinel, .sentinel, .sentinel, .sentinel, .sentinel, .sentinel, .sentinel, .sentinel, .sentinel] true :=
  OpenClaim.laidByTextAt_later rfl rfl tie2 noOwnUnsafe
theorem framesSizesUpto_row_tie : Rows.framesSizesUptoRow.laidByTextAt .later Tryd.pinned [.handle, .sentinel, .sentinel, .sentinel, .sentinel, .sentinel, .sentinel, .sentinel, .sentinel, .sentinel, .sentinel] true :=
  OpenClaim.laidByTextAt_later rfl rfl tie2 noOwnUnsafe
theorem framesBlocksUpto_row_tie : Rows.framesBlocksUptoRow.laidByTextAt .later Tryd.pinned [.handle, .sentinel, .sentinel, .sentinel, .sentinel, .sentinel, .sentinel, .sentinel, .sentinel, .sentinel, .sentinel] true :=
  OpenClaim.laidByTextAt_later rfl rfl tie2 noOwnUnsafe
theorem framesCoverUpto_row_tie : Rows.framesCoverUptoRow.laidByTextAt .later Tryd.pinned [.handle, .sentinel, .sentinel, .sentinel, .sentinel, .sentinel, .sentinel, .sentinel, .sentinel, .sentinel, .sentinel] true :=
  OpenClaim.laidByTextAt_later rfl rfl tie2 noOwnUnsafe
theorem buddyWholeUpto_row_tie : Rows.buddyWholeUptoRow.laidByTextAt .later Tryd.pinned [.sentinel, .sentinel, .sentinel, .sentinel] true :=
  OpenClaim.laidByTextAt_later rfl rfl tie3 noOwnUnsafe
theorem buddyLeftUpto_row_tie : Rows.buddyLeftUptoRow.laidByTextAt .later Tryd.pinned [.handle, .sentinel, .sentinel, .sentinel, .sentinel, .sentinel, .sentinel, .sentinel, .sentinel, .sentinel, .sentinel] true :=
  OpenClaim.laidByTextAt_later rfl rfl tie2 noOwnUnsafe
theorem buddyActsUpto_row_tie : Rows.buddyActsUptoRow.laidByTextAt .later Tryd.pinned [.handle, .sentinel, .sentinel, .sentinel, .sentinel, .sentinel, .sentinel, .sentinel, .sentinel, .sentinel, .sentinel] true :=
  OpenClaim.laidByTextAt_later rfl rfl tie2 noOwnUnsafe
end Go.Proofs.YtcooflachcimbaaDoor
