/-
  NARROWER THAN 'FOR EVERY INPUT', by the rows' own cells (each row's printed sentence says how): ZoneMin: laid · ZoneNear: laid · ZoneActs: laid · MagazineLast: laid · SlabFull: laid · SlabApart: laid · SlabActs: laid · MagazineOut: laid · MagazineActs: laid.
  DERIVED. THE GIVEN ROWS OF THIS SEAT. 9 by the template 'for every input the law returns true; each argument reads behind the call as it read before'; 0 by the template 'total and deterministic' (their statements: YtcokmiidgdmdlaaGreatDoorTotals.lean).
  GIVEN WITH THE SEED: the statements are not yours to turn. If you find one false, say at which input.
  Laid BY PROGRAM, IN A SANDBOX (cutbox-rows.mjs): the forced cells as the released guide's own fill.sh prints them over the translation d8cb025cf40a9c04… (all of the seat's roots in one cut). By AI agents, Wed Nov 11 2026. No macro, syntax, notation, axiom, sorry.
-/
import Derived.Test.YtcokmiidgdmdlaaGreatDoorChecked
import GoSem.Claim
import GoSem.ClaimJoined
import GoSem.ClaimMapViews
import Derived.JoinedTies
import Derived.KernelRfl
namespace Go.Proofs.YtcokmiidgdmdlaaGreatDoor
/- THE CELL 'sum', in the pinned program and in every row, IS THE sha256 OF THE DUMP (.gsa) THAT YtcokmiidgdmdlaaGreatDoorProg.lean LOADS. Nothing in Lean hashes anything: it is a label: what it is worth is what the hold of that sum in a sandbox is worth. -/
noncomputable def Tryz.pinned : Pinned := { name := "ytcokmiidgdmdlaagreatdoor", sum := "d8cb025cf40a9c047085608a970c018c891bd250766b0f7b40030e9324c55dec", checked := Tryz.checked }
namespace Rows
def none {H : Type} : Left H := { results := [], args := [] }

/- WHAT THE LISTED PACKAGE-LEVEL VARIABLES READ AS WHEN THE CALL BEGINS. Each datum BY PROGRAM (the guide's laid-datum.mjs) off the statement by which the dump's own 'gosem.cut.vars' lays the variable. In a bare row this is a premise. The card (YtcokmiidgdmdlaaGreatDoorCards.lean) ties it to the program's text. -/
def laid_errors_errorType {H : Type} : DataW H := .iface "internal/reflectlite.rtype" (.agg [.ptr (.lit (.string [101, 114, 114, 111, 114]))])
def laid_slabyard_api_ErrText {H : Type} : DataW H := .iface "*errors.errorString" (.ptr (.agg [.lit (.string [115, 108, 97, 98, 121, 97, 114, 100, 58, 32, 116, 101, 120, 116])]))
def laid_slabyard_api_ErrBound {H : Type} : DataW H := .iface "*errors.errorString" (.ptr (.agg [.lit (.string [115, 108, 97, 98, 121, 97, 114, 100, 58, 32, 98, 111, 117, 110, 100])]))
def laid_slabyard_api_ErrShape {H : Type} : DataW H := .iface "*errors.errorString" (.ptr (.agg [.lit (.string [115, 108, 97, 98, 121, 97, 114, 100, 58, 32, 115, 104, 97, 112, 101])]))
def laid_slabyard_api_ErrNone {H : Type} : DataW H := .iface "*errors.errorString" (.ptr (.agg [.lit (.string [115, 108, 97, 98, 121, 97, 114, 100, 58, 32, 110, 111, 110, 101])]))
def laid_slabyard_api_ErrFull {H : Type} : DataW H := .iface "*errors.errorString" (.ptr (.agg [.lit (.string [115, 108, 97, 98, 121, 97, 114, 100, 58, 32, 102, 117, 108, 108])]))
def laid_slabyard_api_ErrHeld {H : Type} : DataW H := .iface "*errors.errorString" (.ptr (.agg [.lit (.string [115, 108, 97, 98, 121, 97, 114, 100, 58, 32, 104, 101, 108, 100])]))
def laid_slabyard_api_ErrLow {H : Type} : DataW H := .iface "*errors.errorString" (.ptr (.agg [.lit (.string [115, 108, 97, 98, 121, 97, 114, 100, 58, 32, 108, 111, 119])]))
def laid_slabyard_api_ErrWait {H : Type} : DataW H := .iface "*errors.errorString" (.ptr (.agg [.lit (.string [115, 108, 97, 98, 121, 97, 114, 100, 58, 32, 119, 97, 105, 116])]))
def laid_slabyard_api_ErrStale {H : Type} : DataW H := .iface "*errors.errorString" (.ptr (.agg [.lit (.string [115, 108, 97, 98, 121, 97, 114, 100, 58, 32, 115, 116, 97, 108, 101])]))
def laid_slabyard_api_ErrMany {H : Type} : DataW H := .iface "*errors.errorString" (.ptr (.agg [.lit (.string [115, 108, 97, 98, 121, 97, 114, 100, 58, 32, 109, 97, 110, 121])]))

/-- 'slabyardlaw1.ZoneMin': WHATEVER THE INPUT: true; the input reads as it did. -/
def zoneMinSpec : ChangeSpec := { name := "zoneMin", fn := fun _ => fun
  | [d1, d2] => { results := [.lit (.bool true)], args := [d1, d2] }
  | _ => none }
def zoneMinRow : OpenClaim := { program := "ytcokmiidgdmdlaagreatdoor", sum := "d8cb025cf40a9c047085608a970c018c891bd250766b0f7b40030e9324c55dec", func := "slabyard/slabyardlaw1.ZoneMin", spec := "zoneMin", inPlace := ["internal/reflectlite.ValueOf", "(internal/reflectlite.Value).Type", "(internal/reflectlite.Value).IsNil", "internal/reflectlite.TypeOf", "(internal/reflectlite.Value).Elem", "(internal/reflectlite.Value).Set"], unfollowed := true, recurses := true, named := ["slabyard/api.ErrBound", "slabyard/api.ErrShape", "slabyard/api.ErrLow", "slabyard/api.ErrFull", "slabyard/api.ErrNone", "slabyard/api.ErrText", "slabyard/api.ErrHeld", "slabyard/api.ErrWait", "slabyard/api.ErrStale", "slabyard/api.ErrMany", "errors.errorType"], apart := false, laid := [("errors.errorType", laid_errors_errorType), ("slabyard/api.ErrText", laid_slabyard_api_ErrText), ("slabyard/api.ErrBound", laid_slabyard_api_ErrBound), ("slabyard/api.ErrShape", laid_slabyard_api_ErrShape), ("slabyard/api.ErrNone", laid_slabyard_api_ErrNone), ("slabyard/api.ErrFull", laid_slabyard_api_ErrFull), ("slabyard/api.ErrHeld", laid_slabyard_api_ErrHeld), ("slabyard/api.ErrLow", laid_slabyard_api_ErrLow), ("slabyard/api.ErrWait", laid_slabyard_api_ErrWait), ("slabyard/api.ErrStale", laid_slabyard_api_ErrStale), ("slabyard/api.ErrMany", laid_slabyard_api_ErrMany)] }
def ZoneMinSaid : Prop := zoneMinRow.holds Tryz.pinned (OpenSpec.ofChange zoneMinSpec)

/-- ITS FALSE NEIGHBOUR: 'it returns false'. Refute it at one input. -/
def zoneMinWrong : ChangeSpec := { name := "zoneMin", fn := fun _ => fun
  | [d1, d2] => { results := [.lit (.bool false)], args := [d1, d2] }
  | _ => none }
def ZoneMinWrongFalsely : Prop := zoneMinRow.holds Tryz.pinned (OpenSpec.ofChange zoneMinWrong)

/-- 'slabyardlaw1.ZoneNear': WHATEVER THE INPUT: true; the input reads as it did. -/
def zoneNearSpec : ChangeSpec := { name := "zoneNear", fn := fun _ => fun
  | [d1, d2, d3] => { results := [.lit (.bool true)], args := [d1, d2, d3] }
  | _ => none }
def zoneNearRow : OpenClaim := { program := "ytcokmiidgdmdlaagreatdoor", sum := "d8cb025cf40a9c047085608a970c018c891bd250766b0f7b40030e9324c55dec", func := "slabyard/slabyardlaw1.ZoneNear", spec := "zoneNear", inPlace := ["internal/reflectlite.ValueOf", "(internal/reflectlite.Value).Type", "(internal/reflectlite.Value).IsNil", "internal/reflectlite.TypeOf", "(internal/reflectlite.Value).Elem", "(internal/reflectlite.Value).Set"], unfollowed := true, recurses := true, named := ["slabyard/api.ErrBound", "slabyard/api.ErrShape", "slabyard/api.ErrLow", "slabyard/api.ErrFull", "slabyard/api.ErrNone", "slabyard/api.ErrText", "slabyard/api.ErrHeld", "slabyard/api.ErrWait", "slabyard/api.ErrStale", "slabyard/api.ErrMany", "errors.errorType"], apart := false, laid := [("errors.errorType", laid_errors_errorType), ("slabyard/api.ErrText", laid_slabyard_api_ErrText), ("slabyard/api.ErrBound", laid_slabyard_api_ErrBound), ("slabyard/api.ErrShape", laid_slabyard_api_ErrShape), ("slabyard/api.ErrNone", laid_slabyard_api_ErrNone), ("slabyard/api.ErrFull", laid_slabyard_api_ErrFull), ("slabyard/api.ErrHeld", laid_slabyard_api_ErrHeld), ("slabyard/api.ErrLow", laid_slabyard_api_ErrLow), ("slabyard/api.ErrWait", laid_slabyard_api_ErrWait), ("slabyard/api.ErrStale", laid_slabyard_api_ErrStale), ("slabyard/api.ErrMany", laid_slabyard_api_ErrMany)] }
def ZoneNearSaid : Prop := zoneNearRow.holds Tryz.pinned (OpenSpec.ofChange zoneNearSpec)

/-- ITS FALSE NEIGHBOUR: 'it returns false'. Refute it at one input. -/
def zoneNearWrong : ChangeSpec := { name := "zoneNear", fn := fun _ => fun
  | [d1, d2, d3] => { results := [.lit (.bool false)], args := [d1, d2, d3] }
  | _ => none }
def ZoneNearWrongFalsely : Prop := zoneNearRow.holds Tryz.pinned (OpenSpec.ofChange zoneNearWrong)

/-- 'slabyardlaw1.ZoneActs': WHATEVER THE INPUT: true; the input reads as it did. -/
def zoneActsSpec : ChangeSpec := { name := "zoneActs", fn := fun _ => fun
  | [d1, d2, d3] => { results := [.lit (.bool true)], args := [d1, d2, d3] }
  | _ => none }
def zoneActsRow : OpenClaim := { program := "ytcokmiidgdmdlaagreatdoor", sum := "d8cb025cf40a9c047085608a970c018c891bd250766b0f7b40030e9324c55dec", func := "slabyard/slabyardlaw1.ZoneActs", spec := "zoneActs", inPlace := ["internal/reflectlite.ValueOf", "(internal/reflectlite.Value).Type", "(internal/reflectlite.Value).IsNil", "internal/reflectlite.TypeOf", "(internal/reflectlite.Value).Elem", "(internal/reflectlite.Value).Set", "maps.clone"], unfollowed := true, recurses := true, named := ["slabyard/api.ErrBound", "slabyard/api.ErrShape", "slabyard/api.ErrLow", "slabyard/api.ErrFull", "slabyard/api.ErrNone", "slabyard/api.ErrText", "slabyard/api.ErrHeld", "slabyard/api.ErrWait", "slabyard/api.ErrStale", "slabyard/api.ErrMany", "errors.errorType"], apart := false, laid := [("errors.errorType", laid_errors_errorType), ("slabyard/api.ErrText", laid_slabyard_api_ErrText), ("slabyard/api.ErrBound", laid_slabyard_api_ErrBound), ("slabyard/api.ErrShape", laid_slabyard_api_ErrShape), ("slabyard/api.ErrNone", laid_slabyard_api_ErrNone), ("slabyard/api.ErrFull", laid_slabyard_api_ErrFull), ("slabyard/api.ErrHeld", laid_slabyard_api_ErrHeld), ("slabyard/api.ErrLow", laid_slabyard_api_ErrLow), ("slabyard/api.ErrWait", laid_slabyard_api_ErrWait), ("slabyard/api.ErrStale", laid_slabyard_api_ErrStale), ("slabyard/api.ErrMany", laid_slabyard_api_ErrMany)] }
def ZoneActsSaid : Prop := zoneActsRow.holds Tryz.pinned (OpenSpec.ofChange zoneActsSpec)

/-- ITS FALSE NEIGHBOUR: 'it returns false'. Refute it at one input. -/
def zoneActsWrong : ChangeSpec := { name := "zoneActs", fn := fun _ => fun
  | [d1, d2, d3] => { results := [.lit (.bool false)], args := [d1, d2, d3] }
  | _ => none }
def ZoneActsWrongFalsely : Prop := zoneActsRow.holds Tryz.pinned (OpenSpec.ofChange zoneActsWrong)

/-- 'slabyardlaw1.MagazineLast': WHATEVER THE INPUT: true; the input reads as it did. -/
def magazineLastSpec : ChangeSpec := { name := "magazineLast", fn := fun _ => fun
  | [d1, d2] => { results := [.lit (.bool true)], args := [d1, d2] }
  | _ => none }
def magazineLastRow : OpenClaim := { program := "ytcokmiidgdmdlaagreatdoor", sum := "d8cb025cf40a9c047085608a970c018c891bd250766b0f7b40030e9324c55dec", func := "slabyard/slabyardlaw1.MagazineLast", spec := "magazineLast", inPlace := ["slices.overlaps[*slabyard/slab.slab]"], unfollowed := true, recurses := true, named := ["slabyard/api.ErrBound", "slabyard/api.ErrShape", "slabyard/api.ErrLow", "slabyard/api.ErrFull", "slabyard/api.ErrNone", "slabyard/api.ErrStale"], apart := false, laid := [("slabyard/api.ErrBound", laid_slabyard_api_ErrBound), ("slabyard/api.ErrShape", laid_slabyard_api_ErrShape), ("slabyard/api.ErrNone", laid_slabyard_api_ErrNone), ("slabyard/api.ErrFull", laid_slabyard_api_ErrFull), ("slabyard/api.ErrLow", laid_slabyard_api_ErrLow), ("slabyard/api.ErrStale", laid_slabyard_api_ErrStale)] }
def MagazineLastSaid : Prop := magazineLastRow.holds Tryz.pinned (OpenSpec.ofChange magazineLastSpec)

/-- ITS FALSE NEIGHBOUR: 'it returns false'. Refute it at one input. -/
def magazineLastWrong : ChangeSpec := { name := "magazineLast", fn := fun _ => fun
  | [d1, d2] => { results := [.lit (.bool false)], args := [d1, d2] }
  | _ => none }
def MagazineLastWrongFalsely : Prop := magazineLastRow.holds Tryz.pinned (OpenSpec.ofChange magazineLastWrong)

/-- 'slabyardlaw1.SlabFull': WHATEVER THE INPUT: true; the input reads as it did. -/
def slabFullSpec : ChangeSpec := { name := "slabFull", fn := fun _ => fun
  | [d1, d2] => { results := [.lit (.bool true)], args := [d1, d2] }
  | _ => none }
def slabFullRow : OpenClaim := { program := "ytcokmiidgdmdlaagreatdoor", sum := "d8cb025cf40a9c047085608a970c018c891bd250766b0f7b40030e9324c55dec", func := "slabyard/slabyardlaw1.SlabFull", spec := "slabFull", inPlace := ["slices.overlaps[*slabyard/slab.slab]", "internal/reflectlite.ValueOf", "(internal/reflectlite.Value).Type", "(internal/reflectlite.Value).IsNil", "internal/reflectlite.TypeOf", "(internal/reflectlite.Value).Elem", "(internal/reflectlite.Value).Set"], unfollowed := true, recurses := true, named := ["slabyard/api.ErrBound", "slabyard/api.ErrShape", "slabyard/api.ErrLow", "slabyard/api.ErrFull", "slabyard/api.ErrNone", "slabyard/api.ErrText", "slabyard/api.ErrHeld", "slabyard/api.ErrWait", "slabyard/api.ErrStale", "slabyard/api.ErrMany", "errors.errorType"], apart := false, laid := [("errors.errorType", laid_errors_errorType), ("slabyard/api.ErrText", laid_slabyard_api_ErrText), ("slabyard/api.ErrBound", laid_slabyard_api_ErrBound), ("slabyard/api.ErrShape", laid_slabyard_api_ErrShape), ("slabyard/api.ErrNone", laid_slabyard_api_ErrNone), ("slabyard/api.ErrFull", laid_slabyard_api_ErrFull), ("slabyard/api.ErrHeld", laid_slabyard_api_ErrHeld), ("slabyard/api.ErrLow", laid_slabyard_api_ErrLow), ("slabyard/api.ErrWait", laid_slabyard_api_ErrWait), ("slabyard/api.ErrStale", laid_slabyard_api_ErrStale), ("slabyard/api.ErrMany", laid_slabyard_api_ErrMany)] }
def SlabFullSaid : Prop := slabFullRow.holds Tryz.pinned (OpenSpec.ofChange slabFullSpec)

/-- ITS FALSE NEIGHBOUR: 'it returns false'. Refute it at one input. -/
def slabFullWrong : ChangeSpec := { name := "slabFull", fn := fun _ => fun
  | [d1, d2] => { results := [.lit (.bool false)], args := [d1, d2] }
  | _ => none }
def SlabFullWrongFalsely : Prop := slabFullRow.holds Tryz.pinned (OpenSpec.ofChange slabFullWrong)

/-- 'slabyardlaw1.SlabApart': WHATEVER THE INPUT: true; the input reads as it did. -/
def slabApartSpec : ChangeSpec := { name := "slabApart", fn := fun _ => fun
  | [d1, d2, d3] => { results := [.lit (.bool true)], args := [d1, d2, d3] }
  | _ => none }
def slabApartRow : OpenClaim := { program := "ytcokmiidgdmdlaagreatdoor", sum := "d8cb025cf40a9c047085608a970c018c891bd250766b0f7b40030e9324c55dec", func := "slabyard/slabyardlaw1.SlabApart", spec := "slabApart", inPlace := ["slices.overlaps[*slabyard/slab.slab]", "internal/reflectlite.ValueOf", "(internal/reflectlite.Value).Type", "(internal/reflectlite.Value).IsNil", "internal/reflectlite.TypeOf", "(internal/reflectlite.Value).Elem", "(internal/reflectlite.Value).Set"], unfollowed := true, recurses := true, named := ["slabyard/api.ErrBound", "slabyard/api.ErrShape", "slabyard/api.ErrLow", "slabyard/api.ErrFull", "slabyard/api.ErrNone", "slabyard/api.ErrText", "slabyard/api.ErrHeld", "slabyard/api.ErrWait", "slabyard/api.ErrStale", "slabyard/api.ErrMany", "errors.errorType"], apart := false, laid := [("errors.errorType", laid_errors_errorType), ("slabyard/api.ErrText", laid_slabyard_api_ErrText), ("slabyard/api.ErrBound", laid_slabyard_api_ErrBound), ("slabyard/api.ErrShape", laid_slabyard_api_ErrShape), ("slabyard/api.ErrNone", laid_slabyard_api_ErrNone), ("slabyard/api.ErrFull", laid_slabyard_api_ErrFull), ("slabyard/api.ErrHeld", laid_slabyard_api_ErrHeld), ("slabyard/api.ErrLow", laid_slabyard_api_ErrLow), ("slabyard/api.ErrWait", laid_slabyard_api_ErrWait), ("slabyard/api.ErrStale", laid_slabyard_api_ErrStale), ("slabyard/api.ErrMany", laid_slabyard_api_ErrMany)] }
def SlabApartSaid : Prop := slabApartRow.holds Tryz.pinned (OpenSpec.ofChange slabApartSpec)

/-- ITS FALSE NEIGHBOUR: 'it returns false'. Refute it at one input. -/
def slabApartWrong : ChangeSpec := { name := "slabApart", fn := fun _ => fun
  | [d1, d2, d3] => { results := [.lit (.bool false)], args := [d1, d2, d3] }
  | _ => none }
def SlabApartWrongFalsely : Prop := slabApartRow.holds Tryz.pinned (OpenSpec.ofChange slabApartWrong)

/-- 'slabyardlaw1.SlabActs': WHATEVER THE INPUT: true; the input reads as it did. -/
def slabActsSpec : ChangeSpec := { name := "slabActs", fn := fun _ => fun
  | [d1, d2, d3] => { results := [.lit (.bool true)], args := [d1, d2, d3] }
  | _ => none }
def slabActsRow : OpenClaim := { program := "ytcokmiidgdmdlaagreatdoor", sum := "d8cb025cf40a9c047085608a970c018c891bd250766b0f7b40030e9324c55dec", func := "slabyard/slabyardlaw1.SlabActs", spec := "slabActs", inPlace := ["slices.overlaps[*slabyard/slab.slab]", "internal/reflectlite.ValueOf", "(internal/reflectlite.Value).Type", "(internal/reflectlite.Value).IsNil", "internal/reflectlite.TypeOf", "(internal/reflectlite.Value).Elem", "(internal/reflectlite.Value).Set", "maps.clone"], unfollowed := true, recurses := true, named := ["slabyard/api.ErrBound", "slabyard/api.ErrShape", "slabyard/api.ErrLow", "slabyard/api.ErrFull", "slabyard/api.ErrNone", "slabyard/api.ErrText", "slabyard/api.ErrHeld", "slabyard/api.ErrWait", "slabyard/api.ErrStale", "slabyard/api.ErrMany", "errors.errorType"], apart := false, laid := [("errors.errorType", laid_errors_errorType), ("slabyard/api.ErrText", laid_slabyard_api_ErrText), ("slabyard/api.ErrBound", laid_slabyard_api_ErrBound), ("slabyard/api.ErrShape", laid_slabyard_api_ErrShape), ("slabyard/api.ErrNone", laid_slabyard_api_ErrNone), ("slabyard/api.ErrFull", laid_slabyard_api_ErrFull), ("slabyard/api.ErrHeld", laid_slabyard_api_ErrHeld), ("slabyard/api.ErrLow", laid_slabyard_api_ErrLow), ("slabyard/api.ErrWait", laid_slabyard_api_ErrWait), ("slabyard/api.ErrStale", laid_slabyard_api_ErrStale), ("slabyard/api.ErrMany", laid_slabyard_api_ErrMany)] }
def SlabActsSaid : Prop := slabActsRow.holds Tryz.pinned (OpenSpec.ofChange slabActsSpec)

/-- ITS FALSE NEIGHBOUR: 'it returns false'. Refute it at one input. -/
def slabActsWrong : ChangeSpec := { name := "slabActs", fn := fun _ => fun
  | [d1, d2, d3] => { results := [.lit (.bool false)], args := [d1, d2, d3] }
  | _ => none }
def SlabActsWrongFalsely : Prop := slabActsRow.holds Tryz.pinned (OpenSpec.ofChange slabActsWrong)

/-- 'slabyardlaw1.MagazineOut': WHATEVER THE INPUT: true; the input reads as it did. -/
def magazineOutSpec : ChangeSpec := { name := "magazineOut", fn := fun _ => fun
  | [d1, d2, d3] => { results := [.lit (.bool true)], args := [d1, d2, d3] }
  | _ => none }
def magazineOutRow : OpenClaim := { program := "ytcokmiidgdmdlaagreatdoor", sum := "d8cb025cf40a9c047085608a970c018c891bd250766b0f7b40030e9324c55dec", func := "slabyard/slabyardlaw1.MagazineOut", spec := "magazineOut", inPlace := ["slices.overlaps[*slabyard/slab.slab]", "internal/reflectlite.ValueOf", "(internal/reflectlite.Value).Type", "(internal/reflectlite.Value).IsNil", "internal/reflectlite.TypeOf", "(internal/reflectlite.Value).Elem", "(internal/reflectlite.Value).Set"], unfollowed := true, recurses := true, named := ["slabyard/api.ErrBound", "slabyard/api.ErrShape", "slabyard/api.ErrLow", "slabyard/api.ErrFull", "slabyard/api.ErrNone", "slabyard/api.ErrStale", "slabyard/api.ErrText", "slabyard/api.ErrHeld", "slabyard/api.ErrWait", "slabyard/api.ErrMany", "errors.errorType"], apart := false, laid := [("errors.errorType", laid_errors_errorType), ("slabyard/api.ErrText", laid_slabyard_api_ErrText), ("slabyard/api.ErrBound", laid_slabyard_api_ErrBound), ("slabyard/api.ErrShape", laid_slabyard_api_ErrShape), ("slabyard/api.ErrNone", laid_slabyard_api_ErrNone), ("slabyard/api.ErrFull", laid_slabyard_api_ErrFull), ("slabyard/api.ErrHeld", laid_slabyard_api_ErrHeld), ("slabyard/api.ErrLow", laid_slabyard_api_ErrLow), ("slabyard/api.ErrWait", laid_slabyard_api_ErrWait), ("slabyard/api.ErrStale", laid_slabyard_api_ErrStale), ("slabyard/api.ErrMany", laid_slabyard_api_ErrMany)] }
def MagazineOutSaid : Prop := magazineOutRow.holds Tryz.pinned (OpenSpec.ofChange magazineOutSpec)

/-- ITS FALSE NEIGHBOUR: 'it returns false'. Refute it at one input. -/
def magazineOutWrong : ChangeSpec := { name := "magazineOut", fn := fun _ => fun
  | [d1, d2, d3] => { results := [.lit (.bool false)], args := [d1, d2, d3] }
  | _ => none }
def MagazineOutWrongFalsely : Prop := magazineOutRow.holds Tryz.pinned (OpenSpec.ofChange magazineOutWrong)

/-- 'slabyardlaw1.MagazineActs': WHATEVER THE INPUT: true; the input reads as it did. -/
def magazineActsSpec : ChangeSpec := { name := "magazineActs", fn := fun _ => fun
  | [d1, d2, d3, d4] => { results := [.lit (.bool true)], args := [d1, d2, d3, d4] }
  | _ => none }
def magazineActsRow : OpenClaim := { program := "ytcokmiidgdmdlaagreatdoor", sum := "d8cb025cf40a9c047085608a970c018c891bd250766b0f7b40030e9324c55dec", func := "slabyard/slabyardlaw1.MagazineActs", spec := "magazineActs", inPlace := ["slices.overlaps[*slabyard/slab.slab]", "internal/reflectlite.ValueOf", "(internal/reflectlite.Value).Type", "(internal/reflectlite.Value).IsNil", "internal/reflectlite.TypeOf", "(internal/reflectlite.Value).Elem", "(internal/reflectlite.Value).Set", "maps.clone"], unfollowed := true, recurses := true, named := ["slabyard/api.ErrBound", "slabyard/api.ErrShape", "slabyard/api.ErrLow", "slabyard/api.ErrFull", "slabyard/api.ErrNone", "slabyard/api.ErrStale", "slabyard/api.ErrText", "slabyard/api.ErrHeld", "slabyard/api.ErrWait", "slabyard/api.ErrMany", "errors.errorType"], apart := false, laid := [("errors.errorType", laid_errors_errorType), ("slabyard/api.ErrText", laid_slabyard_api_ErrText), ("slabyard/api.ErrBound", laid_slabyard_api_ErrBound), ("slabyard/api.ErrShape", laid_slabyard_api_ErrShape), ("slabyard/api.ErrNone", laid_slabyard_api_ErrNone), ("slabyard/api.ErrFull", laid_slabyard_api_ErrFull), ("slabyard/api.ErrHeld", laid_slabyard_api_ErrHeld), ("slabyard/api.ErrLow", laid_slabyard_api_ErrLow), ("slabyard/api.ErrWait", laid_slabyard_api_ErrWait), ("slabyard/api.ErrStale", laid_slabyard_api_ErrStale), ("slabyard/api.ErrMany", laid_slabyard_api_ErrMany)] }
def MagazineActsSaid : Prop := magazineActsRow.holds Tryz.pinned (OpenSpec.ofChange magazineActsSpec)

/-- ITS FALSE NEIGHBOUR: 'it returns false'. Refute it at one input. -/
def magazineActsWrong : ChangeSpec := { name := "magazineActs", fn := fun _ => fun
  | [d1, d2, d3, d4] => { results := [.lit (.bool false)], args := [d1, d2, d3, d4] }
  | _ => none }
def MagazineActsWrongFalsely : Prop := magazineActsRow.holds Tryz.pinned (OpenSpec.ofChange magazineActsWrong)

/- THE SECOND FORM. 'bulk': how many values and letters a reading holds, each counted each time it is reached (what is shared counts as often as it is met; a slice's spare places count too). A statement '..UptoSaid' is the law's where the arguments, and the package variables that the reading takes, are together of bulk at most 1048576: NARROWER than '..Said'. Prove '..Said' where nothing that the law and all that it calls make is longer than what came in: it says more and counts as full. Else prove '..UptoSaid'. A law counts once. -/
mutual
def uptoBulk {H : Type} : DataW H → Nat
  | .lit (.string bytes) => bytes.length + 1
  | .lit _ => 1
  | .nil => 1
  | .ptr d => uptoBulk d + 1
  | .slice elems spare => uptoBulkAll elems + uptoBulkAll spare + 1
  | .agg parts => uptoBulkAll parts + 1
  | .iface _ d => uptoBulk d + 1
  | .map entries => uptoBulkEntries entries + 1
  | .held _ => 1
def uptoBulkAll {H : Type} : List (DataW H) → Nat
  | [] => 0
  | d :: r => uptoBulk d + uptoBulkAll r
def uptoBulkEntries {H : Type} : List (Lit × DataW H) → Nat
  | [] => 0
  | x :: r => uptoBulkEntry x + uptoBulkEntries r
def uptoBulkEntry {H : Type} : Lit × DataW H → Nat
  | (.string bytes, d) => bytes.length + uptoBulk d + 1
  | (_, d) => uptoBulk d + 1
 end
def uptoSmall : (H : Type) → List (DataW H) → Bool := fun _ ds => decide (uptoBulkAll ds ≤ 1048576)
def OpenSpec.upto (s : _root_.Go.ChangeSpec) : _root_.Go.OpenSpec := { _root_.Go.OpenSpec.ofChange s with cond := some uptoSmall }

/-- 'slabyardlaw1.ZoneMin', WHERE WHAT IT READS IS OF BULK AT MOST 1048576: true; the input reads as it did. -/
def zoneMinUptoRow : OpenClaim := { program := "ytcokmiidgdmdlaagreatdoor", sum := "d8cb025cf40a9c047085608a970c018c891bd250766b0f7b40030e9324c55dec", func := "slabyard/slabyardlaw1.ZoneMin", spec := "zoneMin", inPlace := ["internal/reflectlite.ValueOf", "(internal/reflectlite.Value).Type", "(internal/reflectlite.Value).IsNil", "internal/reflectlite.TypeOf", "(internal/reflectlite.Value).Elem", "(internal/reflectlite.Value).Set"], unfollowed := true, recurses := true, named := ["slabyard/api.ErrBound", "slabyard/api.ErrShape", "slabyard/api.ErrLow", "slabyard/api.ErrFull", "slabyard/api.ErrNone", "slabyard/api.ErrText", "slabyard/api.ErrHeld", "slabyard/api.ErrWait", "slabyard/api.ErrStale", "slabyard/api.ErrMany", "errors.errorType"], apart := false, laid := [("errors.errorType", laid_errors_errorType), ("slabyard/api.ErrText", laid_slabyard_api_ErrText), ("slabyard/api.ErrBound", laid_slabyard_api_ErrBound), ("slabyard/api.ErrShape", laid_slabyard_api_ErrShape), ("slabyard/api.ErrNone", laid_slabyard_api_ErrNone), ("slabyard/api.ErrFull", laid_slabyard_api_ErrFull), ("slabyard/api.ErrHeld", laid_slabyard_api_ErrHeld), ("slabyard/api.ErrLow", laid_slabyard_api_ErrLow), ("slabyard/api.ErrWait", laid_slabyard_api_ErrWait), ("slabyard/api.ErrStale", laid_slabyard_api_ErrStale), ("slabyard/api.ErrMany", laid_slabyard_api_ErrMany)], narrowed := true }
def ZoneMinUptoSaid : Prop := zoneMinUptoRow.holds Tryz.pinned (OpenSpec.upto zoneMinSpec)

/-- 'slabyardlaw1.ZoneNear', WHERE WHAT IT READS IS OF BULK AT MOST 1048576: true; the input reads as it did. -/
def zoneNearUptoRow : OpenClaim := { program := "ytcokmiidgdmdlaagreatdoor", sum := "d8cb025cf40a9c047085608a970c018c891bd250766b0f7b40030e9324c55dec", func := "slabyard/slabyardlaw1.ZoneNear", spec := "zoneNear", inPlace := ["internal/reflectlite.ValueOf", "(internal/reflectlite.Value).Type", "(internal/reflectlite.Value).IsNil", "internal/reflectlite.TypeOf", "(internal/reflectlite.Value).Elem", "(internal/reflectlite.Value).Set"], unfollowed := true, recurses := true, named := ["slabyard/api.ErrBound", "slabyard/api.ErrShape", "slabyard/api.ErrLow", "slabyard/api.ErrFull", "slabyard/api.ErrNone", "slabyard/api.ErrText", "slabyard/api.ErrHeld", "slabyard/api.ErrWait", "slabyard/api.ErrStale", "slabyard/api.ErrMany", "errors.errorType"], apart := false, laid := [("errors.errorType", laid_errors_errorType), ("slabyard/api.ErrText", laid_slabyard_api_ErrText), ("slabyard/api.ErrBound", laid_slabyard_api_ErrBound), ("slabyard/api.ErrShape", laid_slabyard_api_ErrShape), ("slabyard/api.ErrNone", laid_slabyard_api_ErrNone), ("slabyard/api.ErrFull", laid_slabyard_api_ErrFull), ("slabyard/api.ErrHeld", laid_slabyard_api_ErrHeld), ("slabyard/api.ErrLow", laid_slabyard_api_ErrLow), ("slabyard/api.ErrWait", laid_slabyard_api_ErrWait), ("slabyard/api.ErrStale", laid_slabyard_api_ErrStale), ("slabyard/api.ErrMany", laid_slabyard_api_ErrMany)], narrowed := true }
def ZoneNearUptoSaid : Prop := zoneNearUptoRow.holds Tryz.pinned (OpenSpec.upto zoneNearSpec)

/-- 'slabyardlaw1.ZoneActs', WHERE WHAT IT READS IS OF BULK AT MOST 1048576: true; the input reads as it did. -/
def zoneActsUptoRow : OpenClaim := { program := "ytcokmiidgdmdlaagreatdoor", sum := "d8cb025cf40a9c047085608a970c018c891bd250766b0f7b40030e9324c55dec", func := "slabyard/slabyardlaw1.ZoneActs", spec := "zoneActs", inPlace := ["internal/reflectlite.ValueOf", "(internal/reflectlite.Value).Type", "(internal/reflectlite.Value).IsNil", "internal/reflectlite.TypeOf", "(internal/reflectlite.Value).Elem", "(internal/reflectlite.Value).Set", "maps.clone"], unfollowed := true, recurses := true, named := ["slabyard/api.ErrBound", "slabyard/api.ErrShape", "slabyard/api.ErrLow", "slabyard/api.ErrFull", "slabyard/api.ErrNone", "slabyard/api.ErrText", "slabyard/api.ErrHeld", "slabyard/api.ErrWait", "slabyard/api.ErrStale", "slabyard/api.ErrMany", "errors.errorType"], apart := false, laid := [("errors.errorType", laid_errors_errorType), ("slabyard/api.ErrText", laid_slabyard_api_ErrText), ("slabyard/api.ErrBound", laid_slabyard_api_ErrBound), ("slabyard/api.ErrShape", laid_slabyard_api_ErrShape), ("slabyard/api.ErrNone", laid_slabyard_api_ErrNone), ("slabyard/api.ErrFull", laid_slabyard_api_ErrFull), ("slabyard/api.ErrHeld", laid_slabyard_api_ErrHeld), ("slabyard/api.ErrLow", laid_slabyard_api_ErrLow), ("slabyard/api.ErrWait", laid_slabyard_api_ErrWait), ("slabyard/api.ErrStale", laid_slabyard_api_ErrStale), ("slabyard/api.ErrMany", laid_slabyard_api_ErrMany)], narrowed := true }
def ZoneActsUptoSaid : Prop := zoneActsUptoRow.holds Tryz.pinned (OpenSpec.upto zoneActsSpec)

/-- 'slabyardlaw1.MagazineLast', WHERE WHAT IT READS IS OF BULK AT MOST 1048576: true; the input reads as it did. -/
def magazineLastUptoRow : OpenClaim := { program := "ytcokmiidgdmdlaagreatdoor", sum := "d8cb025cf40a9c047085608a970c018c891bd250766b0f7b40030e9324c55dec", func := "slabyard/slabyardlaw1.MagazineLast", spec := "magazineLast", inPlace := ["slices.overlaps[*slabyard/slab.slab]"], unfollowed := true, recurses := true, named := ["slabyard/api.ErrBound", "slabyard/api.ErrShape", "slabyard/api.ErrLow", "slabyard/api.ErrFull", "slabyard/api.ErrNone", "slabyard/api.ErrStale"], apart := false, laid := [("slabyard/api.ErrBound", laid_slabyard_api_ErrBound), ("slabyard/api.ErrShape", laid_slabyard_api_ErrShape), ("slabyard/api.ErrNone", laid_slabyard_api_ErrNone), ("slabyard/api.ErrFull", laid_slabyard_api_ErrFull), ("slabyard/api.ErrLow", laid_slabyard_api_ErrLow), ("slabyard/api.ErrStale", laid_slabyard_api_ErrStale)], narrowed := true }
def MagazineLastUptoSaid : Prop := magazineLastUptoRow.holds Tryz.pinned (OpenSpec.upto magazineLastSpec)

/-- 'slabyardlaw1.SlabFull', WHERE WHAT IT READS IS OF BULK AT MOST 1048576: true; the input reads as it did. -/
def slabFullUptoRow : OpenClaim := { program := "ytcokmiidgdmdlaagreatdoor", sum := "d8cb025cf40a9c047085608a970c018c891bd250766b0f7b40030e9324c55dec", func := "slabyard/slabyardlaw1.SlabFull", spec := "slabFull", inPlace := ["slices.overlaps[*slabyard/slab.slab]", "internal/reflectlite.ValueOf", "(internal/reflectlite.Value).Type", "(internal/reflectlite.Value).IsNil", "internal/reflectlite.TypeOf", "(internal/reflectlite.Value).Elem", "(internal/reflectlite.Value).Set"], unfollowed := true, recurses := true, named := ["slabyard/api.ErrBound", "slabyard/api.ErrShape", "slabyard/api.ErrLow", "slabyard/api.ErrFull", "slabyard/api.ErrNone", "slabyard/api.ErrText", "slabyard/api.ErrHeld", "slabyard/api.ErrWait", "slabyard/api.ErrStale", "slabyard/api.ErrMany", "errors.errorType"], apart := false, laid := [("errors.errorType", laid_errors_errorType), ("slabyard/api.ErrText", laid_slabyard_api_ErrText), ("slabyard/api.ErrBound", laid_slabyard_api_ErrBound), ("slabyard/api.ErrShape", laid_slabyard_api_ErrShape), ("slabyard/api.ErrNone", laid_slabyard_api_ErrNone), ("slabyard/api.ErrFull", laid_slabyard_api_ErrFull), ("slabyard/api.ErrHeld", laid_slabyard_api_ErrHeld), ("slabyard/api.ErrLow", laid_slabyard_api_ErrLow), ("slabyard/api.ErrWait", laid_slabyard_api_ErrWait), ("slabyard/api.ErrStale", laid_slabyard_api_ErrStale), ("slabyard/api.ErrMany", laid_slabyard_api_ErrMany)], narrowed := true }
def SlabFullUptoSaid : Prop := slabFullUptoRow.holds Tryz.pinned (OpenSpec.upto slabFullSpec)

/-- 'slabyardlaw1.SlabApart', WHERE WHAT IT READS IS OF BULK AT MOST 1048576: true; the input reads as it did. -/
def slabApartUptoRow : OpenClaim := { program := "ytcokmiidgdmdlaagreatdoor", sum := "d8cb025cf40a9c047085608a970c018c891bd250766b0f7b40030e9324c55dec", func := "slabyard/slabyardlaw1.SlabApart", spec := "slabApart", inPlace := ["slices.overlaps[*slabyard/slab.slab]", "internal/reflectlite.ValueOf", "(internal/reflectlite.Value).Type", "(internal/reflectlite.Value).IsNil", "internal/reflectlite.TypeOf", "(internal/reflectlite.Value).Elem", "(internal/reflectlite.Value).Set"], unfollowed := true, recurses := true, named := ["slabyard/api.ErrBound", "slabyard/api.ErrShape", "slabyard/api.ErrLow", "slabyard/api.ErrFull", "slabyard/api.ErrNone", "slabyard/api.ErrText", "slabyard/api.ErrHeld", "slabyard/api.ErrWait", "slabyard/api.ErrStale", "slabyard/api.ErrMany", "errors.errorType"], apart := false, laid := [("errors.errorType", laid_errors_errorType), ("slabyard/api.ErrText", laid_slabyard_api_ErrText), ("slabyard/api.ErrBound", laid_slabyard_api_ErrBound), ("slabyard/api.ErrShape", laid_slabyard_api_ErrShape), ("slabyard/api.ErrNone", laid_slabyard_api_ErrNone), ("slabyard/api.ErrFull", laid_slabyard_api_ErrFull), ("slabyard/api.ErrHeld", laid_slabyard_api_ErrHeld), ("slabyard/api.ErrLow", laid_slabyard_api_ErrLow), ("slabyard/api.ErrWait", laid_slabyard_api_ErrWait), ("slabyard/api.ErrStale", laid_slabyard_api_ErrStale), ("slabyard/api.ErrMany", laid_slabyard_api_ErrMany)], narrowed := true }
def SlabApartUptoSaid : Prop := slabApartUptoRow.holds Tryz.pinned (OpenSpec.upto slabApartSpec)

/-- 'slabyardlaw1.SlabActs', WHERE WHAT IT READS IS OF BULK AT MOST 1048576: true; the input reads as it did. -/
def slabActsUptoRow : OpenClaim := { program := "ytcokmiidgdmdlaagreatdoor", sum := "d8cb025cf40a9c047085608a970c018c891bd250766b0f7b40030e9324c55dec", func := "slabyard/slabyardlaw1.SlabActs", spec := "slabActs", inPlace := ["slices.overlaps[*slabyard/slab.slab]", "internal/reflectlite.ValueOf", "(internal/reflectlite.Value).Type", "(internal/reflectlite.Value).IsNil", "internal/reflectlite.TypeOf", "(internal/reflectlite.Value).Elem", "(internal/reflectlite.Value).Set", "maps.clone"], unfollowed := true, recurses := true, named := ["slabyard/api.ErrBound", "slabyard/api.ErrShape", "slabyard/api.ErrLow", "slabyard/api.ErrFull", "slabyard/api.ErrNone", "slabyard/api.ErrText", "slabyard/api.ErrHeld", "slabyard/api.ErrWait", "slabyard/api.ErrStale", "slabyard/api.ErrMany", "errors.errorType"], apart := false, laid := [("errors.errorType", laid_errors_errorType), ("slabyard/api.ErrText", laid_slabyard_api_ErrText), ("slabyard/api.ErrBound", laid_slabyard_api_ErrBound), ("slabyard/api.ErrShape", laid_slabyard_api_ErrShape), ("slabyard/api.ErrNone", laid_slabyard_api_ErrNone), ("slabyard/api.ErrFull", laid_slabyard_api_ErrFull), ("slabyard/api.ErrHeld", laid_slabyard_api_ErrHeld), ("slabyard/api.ErrLow", laid_slabyard_api_ErrLow), ("slabyard/api.ErrWait", laid_slabyard_api_ErrWait), ("slabyard/api.ErrStale", laid_slabyard_api_ErrStale), ("slabyard/api.ErrMany", laid_slabyard_api_ErrMany)], narrowed := true }
def SlabActsUptoSaid : Prop := slabActsUptoRow.holds Tryz.pinned (OpenSpec.upto slabActsSpec)

/-- 'slabyardlaw1.MagazineOut', WHERE WHAT IT READS IS OF BULK AT MOST 1048576: true; the input reads as it did. -/
def magazineOutUptoRow : OpenClaim := { program := "ytcokmiidgdmdlaagreatdoor", sum := "d8cb025cf40a9c047085608a970c018c891bd250766b0f7b40030e9324c55dec", func := "slabyard/slabyardlaw1.MagazineOut", spec := "magazineOut", inPlace := ["slices.overlaps[*slabyard/slab.slab]", "internal/reflectlite.ValueOf", "(internal/reflectlite.Value).Type", "(internal/reflectlite.Value).IsNil", "internal/reflectlite.TypeOf", "(internal/reflectlite.Value).Elem", "(internal/reflectlite.Value).Set"], unfollowed := true, recurses := true, named := ["slabyard/api.ErrBound", "slabyard/api.ErrShape", "slabyard/api.ErrLow", "slabyard/api.ErrFull", "slabyard/api.ErrNone", "slabyard/api.ErrStale", "slabyard/api.ErrText", "slabyard/api.ErrHeld", "slabyard/api.ErrWait", "slabyard/api.ErrMany", "errors.errorType"], apart := false, laid := [("errors.errorType", laid_errors_errorType), ("slabyard/api.ErrText", laid_slabyard_api_ErrText), ("slabyard/api.ErrBound", laid_slabyard_api_ErrBound), ("slabyard/api.ErrShape", laid_slabyard_api_ErrShape), ("slabyard/api.ErrNone", laid_slabyard_api_ErrNone), ("slabyard/api.ErrFull", laid_slabyard_api_ErrFull), ("slabyard/api.ErrHeld", laid_slabyard_api_ErrHeld), ("slabyard/api.ErrLow", laid_slabyard_api_ErrLow), ("slabyard/api.ErrWait", laid_slabyard_api_ErrWait), ("slabyard/api.ErrStale", laid_slabyard_api_ErrStale), ("slabyard/api.ErrMany", laid_slabyard_api_ErrMany)], narrowed := true }
def MagazineOutUptoSaid : Prop := magazineOutUptoRow.holds Tryz.pinned (OpenSpec.upto magazineOutSpec)

/-- 'slabyardlaw1.MagazineActs', WHERE WHAT IT READS IS OF BULK AT MOST 1048576: true; the input reads as it did. -/
def magazineActsUptoRow : OpenClaim := { program := "ytcokmiidgdmdlaagreatdoor", sum := "d8cb025cf40a9c047085608a970c018c891bd250766b0f7b40030e9324c55dec", func := "slabyard/slabyardlaw1.MagazineActs", spec := "magazineActs", inPlace := ["slices.overlaps[*slabyard/slab.slab]", "internal/reflectlite.ValueOf", "(internal/reflectlite.Value).Type", "(internal/reflectlite.Value).IsNil", "internal/reflectlite.TypeOf", "(internal/reflectlite.Value).Elem", "(internal/reflectlite.Value).Set", "maps.clone"], unfollowed := true, recurses := true, named := ["slabyard/api.ErrBound", "slabyard/api.ErrShape", "slabyard/api.ErrLow", "slabyard/api.ErrFull", "slabyard/api.ErrNone", "slabyard/api.ErrStale", "slabyard/api.ErrText", "slabyard/api.ErrHeld", "slabyard/api.ErrWait", "slabyard/api.ErrMany", "errors.errorType"], apart := false, laid := [("errors.errorType", laid_errors_errorType), ("slabyard/api.ErrText", laid_slabyard_api_ErrText), ("slabyard/api.ErrBound", laid_slabyard_api_ErrBound), ("slabyard/api.ErrShape", laid_slabyard_api_ErrShape), ("slabyard/api.ErrNone", laid_slabyard_api_ErrNone), ("slabyard/api.ErrFull", laid_slabyard_api_ErrFull), ("slabyard/api.ErrHeld", laid_slabyard_api_ErrHeld), ("slabyard/api.ErrLow", laid_slabyard_api_ErrLow), ("slabyard/api.ErrWait", laid_slabyard_api_ErrWait), ("slabyard/api.ErrStale", laid_slabyard_api_ErrStale), ("slabyard/api.ErrMany", laid_slabyard_api_ErrMany)], narrowed := true }
def MagazineActsUptoSaid : Prop := magazineActsUptoRow.holds Tryz.pinned (OpenSpec.upto magazineActsSpec)

end Rows
end Go.Proofs.YtcokmiidgdmdlaaGreatDoor
