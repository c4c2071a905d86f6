/-
  DERIVED. GIVEN WITH THE SEED: THE PROGRAM's TIES (one call each: nine closed facts by the kernel) AND EACH ROW's TIE, after the 31st guide's Derived/Test/Toyas{Tie, Card}.lean. No idea stands in it: it is a product of the set-up. Laid BY PROGRAM, IN A SANDBOX (cutbox-door.mjs). By AI agents, Wed Nov 11 2026. No macro, syntax, notation, axiom, sorry.
-/
import Derived.Test.YtcokmiidgdmdlaaGreatDoorRows
import Derived.LaidByTextLater
import Derived.SevenTiedAt
import Derived.LaidSub
import Derived.LaidOnce
namespace Go.Proofs.YtcokmiidgdmdlaaGreatDoor
open Go
set_option maxRecDepth 100000
theorem seatTie1 : Tryz.prog.laidByTextLater [("errors.errorType", Rows.laid_errors_errorType), ("slabyard/api.ErrText", Rows.laid_slabyard_api_ErrText), ("slabyard/api.ErrBound", Rows.laid_slabyard_api_ErrBound), ("slabyard/api.ErrShape", Rows.laid_slabyard_api_ErrShape), ("slabyard/api.ErrNone", Rows.laid_slabyard_api_ErrNone), ("slabyard/api.ErrFull", Rows.laid_slabyard_api_ErrFull), ("slabyard/api.ErrHeld", Rows.laid_slabyard_api_ErrHeld), ("slabyard/api.ErrLow", Rows.laid_slabyard_api_ErrLow), ("slabyard/api.ErrWait", Rows.laid_slabyard_api_ErrWait), ("slabyard/api.ErrStale", Rows.laid_slabyard_api_ErrStale), ("slabyard/api.ErrMany", Rows.laid_slabyard_api_ErrMany)] [.handle, .sentinel, .sentinel, .sentinel, .sentinel, .sentinel, .sentinel, .sentinel, .sentinel, .sentinel, .sentinel] true :=
  Program.laidByTextLater_by_one 206 8 2 (by kernel_rfl) (by kernel_rfl) (by kernel_rfl) (by kernel_rfl) (by kernel_rfl) (by kernel_rfl) (fun _ _ => by kernel_rfl)
theorem noOwnUnsafe : Tryz.pinned.checked.prog.headLifts.contains "ownunsafe" = false := by kernel_rfl
theorem tie : Tryz.prog.laidByTextLater [("errors.errorType", Rows.laid_errors_errorType), ("slabyard/api.ErrText", Rows.laid_slabyard_api_ErrText), ("slabyard/api.ErrBound", Rows.laid_slabyard_api_ErrBound), ("slabyard/api.ErrShape", Rows.laid_slabyard_api_ErrShape), ("slabyard/api.ErrNone", Rows.laid_slabyard_api_ErrNone), ("slabyard/api.ErrFull", Rows.laid_slabyard_api_ErrFull), ("slabyard/api.ErrHeld", Rows.laid_slabyard_api_ErrHeld), ("slabyard/api.ErrLow", Rows.laid_slabyard_api_ErrLow), ("slabyard/api.ErrWait", Rows.laid_slabyard_api_ErrWait), ("slabyard/api.ErrStale", Rows.laid_slabyard_api_ErrStale), ("slabyard/api.ErrMany", Rows.laid_slabyard_api_ErrMany)] [.handle, .sentinel, .sentinel, .sentinel, .sentinel, .sentinel, .sentinel, .sentinel, .sentinel, .sentinel, .sentinel] true :=
  Program.laidByTextLater.sub seatTie1 ["errors.errorType", "slabyard/api.ErrText", "slabyard/api.ErrBound", "slabyard/api.ErrShape", "slabyard/api.ErrNone", "slabyard/api.ErrFull", "slabyard/api.ErrHeld", "slabyard/api.ErrLow", "slabyard/api.ErrWait", "slabyard/api.ErrStale", "slabyard/api.ErrMany"] (by kernel_rfl) (by kernel_rfl)
theorem zoneMin_row_tie : Rows.zoneMinRow.laidByTextAt .later Tryz.pinned [.handle, .sentinel, .sentinel, .sentinel, .sentinel, .sentinel, .sentinel, .sentinel, .sentinel, .sentinel, .sentinel] true :=
  OpenClaim.laidByTextAt_later rfl rfl tie noOwnUnsafe
theorem zoneNear_row_tie : Rows.zoneNearRow.laidByTextAt .later Tryz.pinned [.handle, .sentinel, .sentinel, .sentinel, .sentinel, .sentinel, .sentinel, .sentinel, .sentinel, .sentinel, .sentinel] true :=
  OpenClaim.laidByTextAt_later rfl rfl tie noOwnUnsafe
theorem zoneActs_row_tie : Rows.zoneActsRow.laidByTextAt .later Tryz.pinned [.handle, .sentinel, .sentinel, .sentinel, .sentinel, .sentinel, .sentinel, .sentinel, .sentinel, .sentinel, .sentinel] true :=
  OpenClaim.laidByTextAt_later rfl rfl tie noOwnUnsafe
theorem slabFull_row_tie : Rows.slabFullRow.laidByTextAt .later Tryz.pinned [.handle, .sentinel, .sentinel, .sentinel, .sentinel, .sentinel, .sentinel, .sentinel, .sentinel, .sentinel, .sentinel] true :=
  OpenClaim.laidByTextAt_later rfl rfl tie noOwnUnsafe
theorem slabApart_row_tie : Rows.slabApartRow.laidByTextAt .later Tryz.pinned [.handle, .sentinel, .sentinel, .sentinel, .sentinel, .sentinel, .sentinel, .sentinel, .sentinel, .sentinel, .sentinel] true :=
  OpenClaim.laidByTextAt_later rfl rfl tie noOwnUnsafe
theorem slabActs_row_tie : Rows.slabActsRow.laidByTextAt .later Tryz.pinned [.handle, .sentinel, .sentinel, .sentinel, .sentinel, .sentinel, .sentinel, .sentinel, .sentinel, .sentinel, .sentinel] true :=
  OpenClaim.laidByTextAt_later rfl rfl tie noOwnUnsafe
theorem magazineOut_row_tie : Rows.magazineOutRow.laidByTextAt .later Tryz.pinned [.handle, .sentinel, .sentinel, .sentinel, .sentinel, .sentinel, .sentinel, .sentinel, .sentinel, .sentinel, .sentinel] true :=
  OpenClaim.laidByTextAt_later rfl rfl tie noOwnUnsafe
theorem magazineActs_row_tie : Rows.magazineActsRow.laidByTextAt .later Tryz.pinned [.handle, .sentinel, .sentinel, .sentinel, .sentinel, .sentinel, .sentinel, .sentinel, .sentinel, .sentinel, .sentinel] true :=
  OpenClaim.laidByTextAt_later rfl rfl tie noOwnUnsafe
theorem tie2 : Tryz.prog.laidByTextLater [("slabyard/api.ErrBound", Rows.laid_slabyard_api_ErrBound), ("slabyard/api.ErrShape", Rows.laid_slabyard_api_ErrShape), ("slabyard/api.ErrNone", Rows.laid_slabyard_api_ErrNone), ("slabyard/api.ErrFull", Rows.laid_slabyard_api_ErrFull), ("slabyard/api.ErrLow", Rows.laid_slabyard_api_ErrLow), ("slabyard/api.ErrStale", Rows.laid_slabyard_api_ErrStale)] [.sentinel, .sentinel, .sentinel, .sentinel, .sentinel, .sentinel] true :=
  Program.laidByTextLater.sub seatTie1 ["slabyard/api.ErrBound", "slabyard/api.ErrShape", "slabyard/api.ErrNone", "slabyard/api.ErrFull", "slabyard/api.ErrLow", "slabyard/api.ErrStale"] (by kernel_rfl) (by kernel_rfl)
theorem magazineLast_row_tie : Rows.magazineLastRow.laidByTextAt .later Tryz.pinned [.sentinel, .sentinel, .sentinel, .sentinel, .sentinel, .sentinel] true :=
  OpenClaim.laidByTextAt_later rfl rfl tie2 noOwnUnsafe
theorem zoneMinUpto_row_tie : Rows.zoneMinUptoRow.laidByTextAt .later Tryz.pinned [.handle, .sentinel, .sentinel, .sentinel, .sentinel, .sentinel, .sentinel, .sentinel, .sentinel, .sentinel, .sentinel] true :=
  OpenClaim.laidByTextAt_later rfl rfl tie noOwnUnsafe
theorem zoneNearUpto_row_tie : Rows.zoneNearUptoRow.laidByTextAt .later Tryz.pinned [.handle, .sentinel, .sentinel, .sentinel, .sentinel, .sentinel, .sentinel, .sentinel, .sentinel, .sentinel, .sentinel] true :=
  OpenClaim.laidByTextAt_later rfl rfl tie noOwnUnsafe
theorem zoneActsUpto_row_tie : Rows.zoneActsUptoRow.laidByTextAt .later Tryz.pinned [.handle, .sentinel, .sentinel, .sentinel, .sentinel, .sentinel, .sentinel, .sentinel, .sentinel, .sentinel, .sentinel] true :=
  OpenClaim.laidByTextAt_later rfl rfl tie noOwnUnsafe
theorem magazineLastUpto_row_tie : Rows.magazineLastUptoRow.laidByTextAt .later Tryz.pinned [.sentinel, .sentinel, .sentinel, .sentinel, .sentinel, .sentinel] true :=
  OpenClaim.laidByTextAt_later rfl rfl tie2 noOwnUnsafe
theorem slabFullUpto_row_tie : Rows.slabFullUptoRow.laidByTextAt .later Tryz.pinned [.handle, .sentinel, .sentinel, .sentinel, .sentinel, .sentinel, .sentinel, .sentinel, .sentinel, .sentinel, .sentinel] true :=
  OpenClaim.laidByTextAt_later rfl rfl tie noOwnUnsafe
theorem slabApartUpto_row_tie : Rows.slabApartUptoRow.laidByTextAt .later Tryz.pinned [.handle, .sentinel, .sentinel, .sentinel, .sentinel, .sentinel, .sentinel, .sentinel, .sentinel, .sentinel, .sentinel] true :=
  OpenClaim.laidByTextAt_later rfl rfl tie noOwnUnsafe
theorem slabActsUpto_row_tie : Rows.slabActsUptoRow.laidByTextAt .later Tryz.pinned [.handle, .sentinel, .sentinel, .sentinel, .sentinel, .sentinel, .sentinel, .sentinel, .sentinel, .sentinel, .sentinel] true :=
  OpenClaim.laidByTextAt_later rfl rfl tie noOwnUnsafe
theorem magazineOutUpto_row_tie : Rows.magazineOutUptoRow.laidByTextAt .later Tryz.pinned [.handle, .sentinel, .sentinel, .sentinel, .sentinel, .sentinel, .sentinel, .sentinel, .sentinel, .sentinel, .sentinel] true :=
  OpenClaim.laidByTextAt_later rfl rfl tie noOwnUnsafe
theorem magazineActsUpto_row_tie : Rows.magazineActsUptoRow.laidByTextAt .later Tryz.pinned [.handle, .sentinel, .sentinel, .sentinel, .sentinel, .sentinel, .sentinel, .sentinel, .sentinel, .sentinel, .sentinel] true :=
  OpenClaim.laidByTextAt_later rfl rfl tie noOwnUnsafe
end Go.Proofs.YtcokmiidgdmdlaaGreatDoor
