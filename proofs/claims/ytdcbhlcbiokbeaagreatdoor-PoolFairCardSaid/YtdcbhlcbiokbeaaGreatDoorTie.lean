/-
  DERIVED. GIVEN WITH THE SEED: THE PROGRAM's TIES (one call each: nine closed facts by the kernel) AND EACH ROW's TIE, after the 31st guide's Derived/Test/Toyas{Tie, Card}.lean. No idea stands in it: it is a product of the set-up. Laid BY PROGRAM, IN A SANDBOX (cutbox-door.mjs). By AI agents, Wed Nov 11 2026. No macro, syntax, notation, axiom, sorry.
-/
import Derived.Test.YtdcbhlcbiokbeaaGreatDoorRows
import Derived.LaidByTextLater
import Derived.SevenTiedAt
import Derived.LaidSub
import Derived.LaidOnce
namespace Go.Proofs.YtdcbhlcbiokbeaaGreatDoor
open Go
set_option maxRecDepth 100000
theorem seatTie1 : Tryz.prog.laidByTextLater [("errors.errorType", Rows.laid_errors_errorType), ("slabyard/api.ErrText", Rows.laid_slabyard_api_ErrText), ("slabyard/api.ErrBound", Rows.laid_slabyard_api_ErrBound), ("slabyard/api.ErrShape", Rows.laid_slabyard_api_ErrShape), ("slabyard/api.ErrNone", Rows.laid_slabyard_api_ErrNone), ("slabyard/api.ErrFull", Rows.laid_slabyard_api_ErrFull), ("slabyard/api.ErrHeld", Rows.laid_slabyard_api_ErrHeld), ("slabyard/api.ErrLow", Rows.laid_slabyard_api_ErrLow), ("slabyard/api.ErrWait", Rows.laid_slabyard_api_ErrWait), ("slabyard/api.ErrStale", Rows.laid_slabyard_api_ErrStale), ("slabyard/api.ErrMany", Rows.laid_slabyard_api_ErrMany)] [.handle, .sentinel, .sentinel, .sentinel, .sentinel, .sentinel, .sentinel, .sentinel, .sentinel, .sentinel, .sentinel] true :=
  Program.laidByTextLater_by_one 206 8 2 (by kernel_rfl) (by kernel_rfl) (by kernel_rfl) (by kernel_rfl) (by kernel_rfl) (by kernel_rfl) (fun _ _ => by kernel_rfl)
theorem noOwnUnsafe : Tryz.pinned.checked.prog.headLifts.contains "ownunsafe" = false := by kernel_rfl
theorem tie : Tryz.prog.laidByTextLater [("errors.errorType", Rows.laid_errors_errorType), ("slabyard/api.ErrText", Rows.laid_slabyard_api_ErrText), ("slabyard/api.ErrBound", Rows.laid_slabyard_api_ErrBound), ("slabyard/api.ErrShape", Rows.laid_slabyard_api_ErrShape), ("slabyard/api.ErrNone", Rows.laid_slabyard_api_ErrNone), ("slabyard/api.ErrFull", Rows.laid_slabyard_api_ErrFull), ("slabyard/api.ErrHeld", Rows.laid_slabyard_api_ErrHeld), ("slabyard/api.ErrLow", Rows.laid_slabyard_api_ErrLow), ("slabyard/api.ErrWait", Rows.laid_slabyard_api_ErrWait), ("slabyard/api.ErrStale", Rows.laid_slabyard_api_ErrStale), ("slabyard/api.ErrMany", Rows.laid_slabyard_api_ErrMany)] [.handle, .sentinel, .sentinel, .sentinel, .sentinel, .sentinel, .sentinel, .sentinel, .sentinel, .sentinel, .sentinel] true :=
  Program.laidByTextLater.sub seatTie1 ["errors.errorType", "slabyard/api.ErrText", "slabyard/api.ErrBound", "slabyard/api.ErrShape", "slabyard/api.ErrNone", "slabyard/api.ErrFull", "slabyard/api.ErrHeld", "slabyard/api.ErrLow", "slabyard/api.ErrWait", "slabyard/api.ErrStale", "slabyard/api.ErrMany"] (by kernel_rfl) (by kernel_rfl)
theorem slabActs_row_tie : Rows.slabActsRow.laidByTextAt .later Tryz.pinned [.handle, .sentinel, .sentinel, .sentinel, .sentinel, .sentinel, .sentinel, .sentinel, .sentinel, .sentinel, .sentinel] true :=
  OpenClaim.laidByTextAt_later rfl rfl tie noOwnUnsafe
theorem magazineActs_row_tie : Rows.magazineActsRow.laidByTextAt .later Tryz.pinned [.handle, .sentinel, .sentinel, .sentinel, .sentinel, .sentinel, .sentinel, .sentinel, .sentinel, .sentinel, .sentinel] true :=
  OpenClaim.laidByTextAt_later rfl rfl tie noOwnUnsafe
theorem poolFair_row_tie : Rows.poolFairRow.laidByTextAt .later Tryz.pinned [.handle, .sentinel, .sentinel, .sentinel, .sentinel, .sentinel, .sentinel, .sentinel, .sentinel, .sentinel, .sentinel] true :=
  OpenClaim.laidByTextAt_later rfl rfl tie noOwnUnsafe
theorem poolActs_row_tie : Rows.poolActsRow.laidByTextAt .later Tryz.pinned [.handle, .sentinel, .sentinel, .sentinel, .sentinel, .sentinel, .sentinel, .sentinel, .sentinel, .sentinel, .sentinel] true :=
  OpenClaim.laidByTextAt_later rfl rfl tie noOwnUnsafe
theorem storeGone_row_tie : Rows.storeGoneRow.laidByTextAt .later Tryz.pinned [.handle, .sentinel, .sentinel, .sentinel, .sentinel, .sentinel, .sentinel, .sentinel, .sentinel, .sentinel, .sentinel] true :=
  OpenClaim.laidByTextAt_later rfl rfl tie noOwnUnsafe
theorem storeShared_row_tie : Rows.storeSharedRow.laidByTextAt .later Tryz.pinned [.handle, .sentinel, .sentinel, .sentinel, .sentinel, .sentinel, .sentinel, .sentinel, .sentinel, .sentinel, .sentinel] true :=
  OpenClaim.laidByTextAt_later rfl rfl tie noOwnUnsafe
theorem storeActs_row_tie : Rows.storeActsRow.laidByTextAt .later Tryz.pinned [.handle, .sentinel, .sentinel, .sentinel, .sentinel, .sentinel, .sentinel, .sentinel, .sentinel, .sentinel, .sentinel] true :=
  OpenClaim.laidByTextAt_later rfl rfl tie noOwnUnsafe
theorem reclaimEnough_row_tie : Rows.reclaimEnoughRow.laidByTextAt .later Tryz.pinned [.handle, .sentinel, .sentinel, .sentinel, .sentinel, .sentinel, .sentinel, .sentinel, .sentinel, .sentinel, .sentinel] true :=
  OpenClaim.laidByTextAt_later rfl rfl tie noOwnUnsafe
theorem reclaimActs_row_tie : Rows.reclaimActsRow.laidByTextAt .later Tryz.pinned [.handle, .sentinel, .sentinel, .sentinel, .sentinel, .sentinel, .sentinel, .sentinel, .sentinel, .sentinel, .sentinel] true :=
  OpenClaim.laidByTextAt_later rfl rfl tie noOwnUnsafe
theorem tie2 : Tryz.prog.laidByTextLater [("slabyard/api.ErrBound", Rows.laid_slabyard_api_ErrBound), ("slabyard/api.ErrShape", Rows.laid_slabyard_api_ErrShape), ("slabyard/api.ErrNone", Rows.laid_slabyard_api_ErrNone), ("slabyard/api.ErrFull", Rows.laid_slabyard_api_ErrFull), ("slabyard/api.ErrLow", Rows.laid_slabyard_api_ErrLow), ("slabyard/api.ErrStale", Rows.laid_slabyard_api_ErrStale)] [.sentinel, .sentinel, .sentinel, .sentinel, .sentinel, .sentinel] true :=
  Program.laidByTextLater.sub seatTie1 ["slabyard/api.ErrBound", "slabyard/api.ErrShape", "slabyard/api.ErrNone", "slabyard/api.ErrFull", "slabyard/api.ErrLow", "slabyard/api.ErrStale"] (by kernel_rfl) (by kernel_rfl)
theorem reclaimWhole_row_tie : Rows.reclaimWholeRow.laidByTextAt .later Tryz.pinned [.sentinel, .sentinel, .sentinel, .sentinel, .sentinel, .sentinel] true :=
  OpenClaim.laidByTextAt_later rfl rfl tie2 noOwnUnsafe
theorem tie3 : Tryz.prog.laidByTextLater [("slabyard/api.ErrBound", Rows.laid_slabyard_api_ErrBound), ("slabyard/api.ErrShape", Rows.laid_slabyard_api_ErrShape), ("slabyard/api.ErrNone", Rows.laid_slabyard_api_ErrNone), ("slabyard/api.ErrFull", Rows.laid_slabyard_api_ErrFull), ("slabyard/api.ErrHeld", Rows.laid_slabyard_api_ErrHeld), ("slabyard/api.ErrLow", Rows.laid_slabyard_api_ErrLow), ("slabyard/api.ErrWait", Rows.laid_slabyard_api_ErrWait), ("slabyard/api.ErrStale", Rows.laid_slabyard_api_ErrStale), ("slabyard/api.ErrMany", Rows.laid_slabyard_api_ErrMany)] [.sentinel, .sentinel, .sentinel, .sentinel, .sentinel, .sentinel, .sentinel, .sentinel, .sentinel] true :=
  Program.laidByTextLater.sub seatTie1 ["slabyard/api.ErrBound", "slabyard/api.ErrShape", "slabyard/api.ErrNone", "slabyard/api.ErrFull", "slabyard/api.ErrHeld", "slabyard/api.ErrLow", "slabyard/api.ErrWait", "slabyard/api.ErrStale", "slabyard/api.ErrMany"] (by kernel_rfl) (by kernel_rfl)
theorem bufferClones_row_tie : Rows.bufferClonesRow.laidByTextAt .later Tryz.pinned [.sentinel, .sentinel, .sentinel, .sentinel, .sentinel, .sentinel, .sentinel, .sentinel, .sentinel] true :=
  OpenClaim.laidByTextAt_later rfl rfl tie3 noOwnUnsafe
theorem bufferApart_row_tie : Rows.bufferApartRow.laidByTextAt .later Tryz.pinned [.sentinel, .sentinel, .sentinel, .sentinel, .sentinel, .sentinel, .sentinel, .sentinel, .sentinel] true :=
  OpenClaim.laidByTextAt_later rfl rfl tie3 noOwnUnsafe
theorem slabActsUpto_row_tie : Rows.slabActsUptoRow.laidByTextAt .later Tryz.pinned [.handle, .sentinel, .sentinel, .sentinel, .sentinel, .sentinel, .sentinel, .sentinel, .sentinel, .sentinel, .sentinel] true :=
  OpenClaim.laidByTextAt_later rfl rfl tie noOwnUnsafe
theorem magazineActsUpto_row_tie : Rows.magazineActsUptoRow.laidByTextAt .later Tryz.pinned [.handle, .sentinel, .sentinel, .sentinel, .sentinel, .sentinel, .sentinel, .sentinel, .sentinel, .sentinel, .sentinel] true :=
  OpenClaim.laidByTextAt_later rfl rfl tie noOwnUnsafe
theorem poolFairUpto_row_tie : Rows.poolFairUptoRow.laidByTextAt .later Tryz.pinned [.handle, .sentinel, .sentinel, .sentinel, .sentinel, .sentinel, .sentinel, .sentinel, .sentinel, .sentinel, .sentinel] true :=
  OpenClaim.laidByTextAt_later rfl rfl tie noOwnUnsafe
theorem reclaimWholeUpto_row_tie : Rows.reclaimWholeUptoRow.laidByTextAt .later Tryz.pinned [.sentinel, .sentinel, .sentinel, .sentinel, .sentinel, .sentinel] true :=
  OpenClaim.laidByTextAt_later rfl rfl tie2 noOwnUnsafe
theorem poolActsUpto_row_tie : Rows.poolActsUptoRow.laidByTextAt .later Tryz.pinned [.handle, .sentinel, .sentinel, .sentinel, .sentinel, .sentinel, .sentinel, .sentinel, .sentinel, .sentinel, .sentinel] true :=
  OpenClaim.laidByTextAt_later rfl rfl tie noOwnUnsafe
theorem bufferClonesUpto_row_tie : Rows.bufferClonesUptoRow.laidByTextAt .later Tryz.pinned [.sentinel, .sentinel, .sentinel, .sentinel, .sentinel, .sentinel, .sentinel, .sentinel, .sentinel] true :=
  OpenClaim.laidByTextAt_later rfl rfl tie3 noOwnUnsafe
theorem storeGoneUpto_row_tie : Rows.storeGoneUptoRow.laidByTextAt .later Tryz.pinned [.handle, .sentinel, .sentinel, .sentinel, .sentinel, .sentinel, .sentinel, .sentinel, .sentinel, .sentinel, .sentinel] true :=
  OpenClaim.laidByTextAt_later rfl rfl tie noOwnUnsafe
theorem storeSharedUpto_row_tie : Rows.storeSharedUptoRow.laidByTextAt .later Tryz.pinned [.handle, .sentinel, .sentinel, .sentinel, .sentinel, .sentinel, .sentinel, .sentinel, .sentinel, .sentinel, .sentinel] true :=
  OpenClaim.laidByTextAt_later rfl rfl tie noOwnUnsafe
theorem storeActsUpto_row_tie : Rows.storeActsUptoRow.laidByTextAt .later Tryz.pinned [.handle, .sentinel, .sentinel, .sentinel, .sentinel, .sentinel, .sentinel, .sentinel, .sentinel, .sentinel, .sentinel] true :=
  OpenClaim.laidByTextAt_later rfl rfl tie noOwnUnsafe
theorem bufferApartUpto_row_tie : Rows.bufferApartUptoRow.laidByTextAt .later Tryz.pinned [.sentinel, .sentinel, .sentinel, .sentinel, .sentinel, .sentinel, .sentinel, .sentinel, .sentinel] true :=
  OpenClaim.laidByTextAt_later rfl rfl tie3 noOwnUnsafe
theorem reclaimEnoughUpto_row_tie : Rows.reclaimEnoughUptoRow.laidByTextAt .later Tryz.pinned [.handle, .sentinel, .sentinel, .sentinel, .sentinel, .sentinel, .sentinel, .sentinel, .sentinel, .sentinel, .sentinel] true :=
  OpenClaim.laidByTextAt_later rfl rfl tie noOwnUnsafe
theorem reclaimActsUpto_row_tie : Rows.reclaimActsUptoRow.laidByTextAt .later Tryz.pinned [.handle, .sentinel, .sentinel, .sentinel, .sentinel, .sentinel, .sentinel, .sentinel, .sentinel, .sentinel, .sentinel] true :=
  OpenClaim.laidByTextAt_later rfl rfl tie noOwnUnsafe
end Go.Proofs.YtdcbhlcbiokbeaaGreatDoor
