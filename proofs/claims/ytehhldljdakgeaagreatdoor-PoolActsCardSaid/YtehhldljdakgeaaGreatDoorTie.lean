/-
  DERIVED. GIVEN WITH THE SEED: THE PROGRAM's TIES (one call each: nine closed facts by the kernel) AND EACH ROW's TIE, after the 31st guide's Derived/Test/Toyas{Tie, Card}.lean. No idea stands in it: it is a product of the set-up. Laid BY PROGRAM, IN A SANDBOX (cutbox-door.mjs). By AI agents, Wed Nov 11 2026. No macro, syntax, notation, axiom, sorry.
-/
import Derived.Test.YtehhldljdakgeaaGreatDoorRows
import Derived.LaidByTextLater
import Derived.SevenTiedAt
import Derived.LaidSub
import Derived.LaidOnce
namespace Go.Proofs.YtehhldljdakgeaaGreatDoor
open Go
set_option maxRecDepth 100000
theorem seatTie1 : Tryz.prog.laidByTextLater [("errors.errorType", Rows.laid_errors_errorType), ("slabyard/api.ErrText", Rows.laid_slabyard_api_ErrText), ("slabyard/api.ErrBound", Rows.laid_slabyard_api_ErrBound), ("slabyard/api.ErrShape", Rows.laid_slabyard_api_ErrShape), ("slabyard/api.ErrNone", Rows.laid_slabyard_api_ErrNone), ("slabyard/api.ErrFull", Rows.laid_slabyard_api_ErrFull), ("slabyard/api.ErrHeld", Rows.laid_slabyard_api_ErrHeld), ("slabyard/api.ErrLow", Rows.laid_slabyard_api_ErrLow), ("slabyard/api.ErrWait", Rows.laid_slabyard_api_ErrWait), ("slabyard/api.ErrStale", Rows.laid_slabyard_api_ErrStale), ("slabyard/api.ErrMany", Rows.laid_slabyard_api_ErrMany)] [.handle, .sentinel, .sentinel, .sentinel, .sentinel, .sentinel, .sentinel, .sentinel, .sentinel, .sentinel, .sentinel] true :=
  Program.laidByTextLater_by_one 206 8 2 (by kernel_rfl) (by kernel_rfl) (by kernel_rfl) (by kernel_rfl) (by kernel_rfl) (by kernel_rfl) (fun _ _ => by kernel_rfl)
theorem noOwnUnsafe : Tryz.pinned.checked.prog.headLifts.contains "ownunsafe" = false := by kernel_rfl
theorem tie : Tryz.prog.laidByTextLater [("errors.errorType", Rows.laid_errors_errorType), ("slabyard/api.ErrText", Rows.laid_slabyard_api_ErrText), ("slabyard/api.ErrBound", Rows.laid_slabyard_api_ErrBound), ("slabyard/api.ErrShape", Rows.laid_slabyard_api_ErrShape), ("slabyard/api.ErrNone", Rows.laid_slabyard_api_ErrNone), ("slabyard/api.ErrFull", Rows.laid_slabyard_api_ErrFull), ("slabyard/api.ErrHeld", Rows.laid_slabyard_api_ErrHeld), ("slabyard/api.ErrLow", Rows.laid_slabyard_api_ErrLow), ("slabyard/api.ErrWait", Rows.laid_slabyard_api_ErrWait), ("slabyard/api.ErrStale", Rows.laid_slabyard_api_ErrStale), ("slabyard/api.ErrMany", Rows.laid_slabyard_api_ErrMany)] [.handle, .sentinel, .sentinel, .sentinel, .sentinel, .sentinel, .sentinel, .sentinel, .sentinel, .sentinel, .sentinel] true :=
  Program.laidByTextLater.sub seatTie1 ["errors.errorType", "slabyard/api.ErrText", "slabyard/api.ErrBound", "slabyard/api.ErrShape", "slabyard/api.ErrNone", "slabyard/api.ErrFull", "slabyard/api.ErrHeld", "slabyard/api.ErrLow", "slabyard/api.ErrWait", "slabyard/api.ErrStale", "slabyard/api.ErrMany"] (by kernel_rfl) (by kernel_rfl)
theorem poolActs_row_tie : Rows.poolActsRow.laidByTextAt .later Tryz.pinned [.handle, .sentinel, .sentinel, .sentinel, .sentinel, .sentinel, .sentinel, .sentinel, .sentinel, .sentinel, .sentinel] true :=
  OpenClaim.laidByTextAt_later rfl rfl tie noOwnUnsafe
theorem storeGone_row_tie : Rows.storeGoneRow.laidByTextAt .later Tryz.pinned [.handle, .sentinel, .sentinel, .sentinel, .sentinel, .sentinel, .sentinel, .sentinel, .sentinel, .sentinel, .sentinel] true :=
  OpenClaim.laidByTextAt_later rfl rfl tie noOwnUnsafe
theorem storeShared_row_tie : Rows.storeSharedRow.laidByTextAt .later Tryz.pinned [.handle, .sentinel, .sentinel, .sentinel, .sentinel, .sentinel, .sentinel, .sentinel, .sentinel, .sentinel, .sentinel] true :=
  OpenClaim.laidByTextAt_later rfl rfl tie noOwnUnsafe
theorem storeActs_row_tie : Rows.storeActsRow.laidByTextAt .later Tryz.pinned [.handle, .sentinel, .sentinel, .sentinel, .sentinel, .sentinel, .sentinel, .sentinel, .sentinel, .sentinel, .sentinel] true :=
  OpenClaim.laidByTextAt_later rfl rfl tie noOwnUnsafe
theorem poolActsUpto_row_tie : Rows.poolActsUptoRow.laidByTextAt .later Tryz.pinned [.handle, .sentinel, .sentinel, .sentinel, .sentinel, .sentinel, .sentinel, .sentinel, .sentinel, .sentinel, .sentinel] true :=
  OpenClaim.laidByTextAt_later rfl rfl tie noOwnUnsafe
theorem storeGoneUpto_row_tie : Rows.storeGoneUptoRow.laidByTextAt .later Tryz.pinned [.handle, .sentinel, .sentinel, .sentinel, .sentinel, .sentinel, .sentinel, .sentinel, .sentinel, .sentinel, .sentinel] true :=
  OpenClaim.laidByTextAt_later rfl rfl tie noOwnUnsafe
theorem storeSharedUpto_row_tie : Rows.storeSharedUptoRow.laidByTextAt .later Tryz.pinned [.handle, .sentinel, .sentinel, .sentinel, .sentinel, .sentinel, .sentinel, .sentinel, .sentinel, .sentinel, .sentinel] true :=
  OpenClaim.laidByTextAt_later rfl rfl tie noOwnUnsafe
theorem storeActsUpto_row_tie : Rows.storeActsUptoRow.laidByTextAt .later Tryz.pinned [.handle, .sentinel, .sentinel, .sentinel, .sentinel, .sentinel, .sentinel, .sentinel, .sentinel, .sentinel, .sentinel] true :=
  OpenClaim.laidByTextAt_later rfl rfl tie noOwnUnsafe
end Go.Proofs.YtehhldljdakgeaaGreatDoor
