/-
  NARROWER THAN 'FOR EVERY INPUT', by the rows' own cells (each row's printed sentence says how): PoolActs: laid · StoreGone: laid · StoreShared: laid · StoreActs: laid.
  DERIVED. THE GIVEN ROWS OF THIS SEAT. 4 by the template 'for every input the law returns true; each argument reads behind the call as it read before'; 0 by the template 'total and deterministic' (their statements: YtehhldljdakgeaaGreatDoorTotals.lean).
  GIVEN WITH THE SEED: the statements are not yours to turn. If you find one false, say at which input.
  Laid BY PROGRAM, IN A SANDBOX (cutbox-rows.mjs): the forced cells as the released guide's own fill.sh prints them over the translation c2ef68871a83075d… (all of the seat's roots in one cut). By AI agents, Wed Nov 11 2026. No macro, syntax, notation, axiom, sorry.
-/
import Derived.Test.YtehhldljdakgeaaGreatDoorChecked
import GoSem.Claim
import GoSem.ClaimJoined
import GoSem.ClaimMapViews
import Derived.JoinedTies
import Derived.KernelRfl
namespace Go.Proofs.YtehhldljdakgeaaGreatDoor
/- THE CELL 'sum', in the pinned program and in every row, IS THE sha256 OF THE DUMP (.gsa) THAT YtehhldljdakgeaaGreatDoorProg.lean LOADS. Nothing in Lean hashes anything: it is a label: what it is worth is what the hold of that sum in a sandbox is worth. -/
noncomputable def Tryz.pinned : Pinned := { name := "ytehhldljdakgeaagreatdoor", sum := "c2ef68871a83075d9ad4dd048fd22ec1c16724f83d5349caf885ab4d6464b4b9", checked := Tryz.checked }
namespace Rows
def none {H : Type} : Left H := { results := [], args := [] }

/- WHAT THE LISTED PACKAGE-LEVEL VARIABLES READ AS WHEN THE CALL BEGINS. Each datum BY PROGRAM (the guide's laid-datum.mjs) off the statement by which the dump's own 'gosem.cut.vars' lays the variable. In a bare row this is a premise. The card (YtehhldljdakgeaaGreatDoorCards.lean) ties it to the program's text. -/
def laid_errors_errorType {H : Type} : DataW H := .iface "internal/reflectlite.rtype" (.agg [.ptr (.lit (.string [101, 114, 114, 111, 114]))])
def laid_slabyard_api_ErrText {H : Type} : DataW H := .iface "*errors.errorString" (.ptr (.agg [.lit (.string [115, 108, 97, 98, 121, 97, 114, 100, 58, 32, 116, 101, 120, 116])]))
def laid_slabyard_api_ErrBound {H : Type} : DataW H := .iface "*errors.errorString" (.ptr (.agg [.lit (.string [115, 108, 97, 98, 121, 97, 114, 100, 58, 32, 98, 111, 117, 110, 100])]))
def laid_slabyard_api_ErrShape {H : Type} : DataW H := .iface "*errors.errorString" (.ptr (.agg [.lit (.string [115, 108, 97, 98, 121, 97, 114, 100, 58, 32, 115, 104, 97, 112, 101])]))
def laid_slabyard_api_ErrNone {H : Type} : DataW H := .iface "*errors.errorString" (.ptr (.agg [.lit (.string [115, 108, 97, 98, 121, 97, 114, 100, 58, 32, 110, 111, 110, 101])]))
def laid_slabyard_api_ErrFull {H : Type} : DataW H := .iface "*errors.errorString" (.ptr (.agg [.lit (.string [115, 108, 97, 98, 121, 97, 114, 100, 58, 32, 102, 117, 108, 108])]))
def laid_slabyard_api_ErrHeld {H : Type} : DataW H := .iface "*errors.errorString" (.ptr (.agg [.lit (.string [115, 108, 97, 98, 121, 97, 114, 100, 58, 32, 104, 101, 108, 100])]))
def laid_slabyard_api_ErrLow {H : Type} : DataW H := .iface "*errors.errorString" (.ptr (.agg [.lit (.string [115, 108, 97, 98, 121, 97, 114, 100, 58, 32, 108, 111, 119])]))
def laid_slabyard_api_ErrWait {H : Type} : DataW H := .iface "*errors.errorString" (.ptr (.agg [.lit (.string [115, 108, 97, 98, 121, 97, 114, 100, 58, 32, 119, 97, 105, 116])]))
def laid_slabyard_api_ErrStale {H : Type} : DataW H := .iface "*errors.errorString" (.ptr (.agg [.lit (.string [115, 108, 97, 98, 121, 97, 114, 100, 58, 32, 115, 116, 97, 108, 101])]))
def laid_slabyard_api_ErrMany {H : Type} : DataW H := .iface "*errors.errorString" (.ptr (.agg [.lit (.string [115, 108, 97, 98, 121, 97, 114, 100, 58, 32, 109, 97, 110, 121])]))

/-- 'slabyardlaw2.PoolActs': WHATEVER THE INPUT: true; the input reads as it did. -/
def poolActsSpec : ChangeSpec := { name := "poolActs", fn := fun _ => fun
  | [d1, d2, d3, d4, d5] => { results := [.lit (.bool true)], args := [d1, d2, d3, d4, d5] }
  | _ => none }
def poolActsRow : OpenClaim := { program := "ytehhldljdakgeaagreatdoor", sum := "c2ef68871a83075d9ad4dd048fd22ec1c16724f83d5349caf885ab4d6464b4b9", func := "slabyard/slabyardlaw2.PoolActs", spec := "poolActs", inPlace := ["slices.overlaps[*slabyard/slab.slab]", "internal/reflectlite.TypeOf", "internal/reflectlite.ValueOf", "(internal/reflectlite.Value).Type", "(internal/reflectlite.Value).IsNil", "(internal/reflectlite.Value).Elem", "(internal/reflectlite.Value).Set"], unfollowed := true, recurses := true, named := ["slabyard/api.ErrBound", "slabyard/api.ErrShape", "slabyard/api.ErrLow", "slabyard/api.ErrFull", "slabyard/api.ErrNone", "slabyard/api.ErrStale", "slabyard/api.ErrMany", "slabyard/api.ErrWait", "slabyard/api.ErrText", "slabyard/api.ErrHeld", "errors.errorType"], plainKeys := false, apart := false, laid := [("errors.errorType", laid_errors_errorType), ("slabyard/api.ErrText", laid_slabyard_api_ErrText), ("slabyard/api.ErrBound", laid_slabyard_api_ErrBound), ("slabyard/api.ErrShape", laid_slabyard_api_ErrShape), ("slabyard/api.ErrNone", laid_slabyard_api_ErrNone), ("slabyard/api.ErrFull", laid_slabyard_api_ErrFull), ("slabyard/api.ErrHeld", laid_slabyard_api_ErrHeld), ("slabyard/api.ErrLow", laid_slabyard_api_ErrLow), ("slabyard/api.ErrWait", laid_slabyard_api_ErrWait), ("slabyard/api.ErrStale", laid_slabyard_api_ErrStale), ("slabyard/api.ErrMany", laid_slabyard_api_ErrMany)] }
def PoolActsSaid : Prop := poolActsRow.holds Tryz.pinned (OpenSpec.ofChange poolActsSpec)

/-- ITS FALSE NEIGHBOUR: 'it returns false'. Refute it at one input. -/
def poolActsWrong : ChangeSpec := { name := "poolActs", fn := fun _ => fun
  | [d1, d2, d3, d4, d5] => { results := [.lit (.bool false)], args := [d1, d2, d3, d4, d5] }
  | _ => none }
def PoolActsWrongFalsely : Prop := poolActsRow.holds Tryz.pinned (OpenSpec.ofChange poolActsWrong)

/-- 'slabyardlaw2.StoreGone': WHATEVER THE INPUT: true; the input reads as it did. -/
def storeGoneSpec : ChangeSpec := { name := "storeGone", fn := fun _ => fun
  | [d1, d2, d3] => { results := [.lit (.bool true)], args := [d1, d2, d3] }
  | _ => none }
def storeGoneRow : OpenClaim := { program := "ytehhldljdakgeaagreatdoor", sum := "c2ef68871a83075d9ad4dd048fd22ec1c16724f83d5349caf885ab4d6464b4b9", func := "slabyard/slabyardlaw2.StoreGone", spec := "storeGone", inPlace := ["slices.overlaps[*slabyard/slab.slab]", "internal/reflectlite.TypeOf", "internal/reflectlite.ValueOf", "(internal/reflectlite.Value).Type", "(internal/reflectlite.Value).IsNil", "(internal/reflectlite.Value).Elem", "(internal/reflectlite.Value).Set"], unfollowed := true, recurses := true, named := ["slabyard/api.ErrBound", "slabyard/api.ErrShape", "slabyard/api.ErrLow", "slabyard/api.ErrFull", "slabyard/api.ErrNone", "slabyard/api.ErrStale", "slabyard/api.ErrWait", "slabyard/api.ErrMany", "slabyard/api.ErrHeld", "slabyard/api.ErrText", "errors.errorType"], plainKeys := false, apart := false, laid := [("errors.errorType", laid_errors_errorType), ("slabyard/api.ErrText", laid_slabyard_api_ErrText), ("slabyard/api.ErrBound", laid_slabyard_api_ErrBound), ("slabyard/api.ErrShape", laid_slabyard_api_ErrShape), ("slabyard/api.ErrNone", laid_slabyard_api_ErrNone), ("slabyard/api.ErrFull", laid_slabyard_api_ErrFull), ("slabyard/api.ErrHeld", laid_slabyard_api_ErrHeld), ("slabyard/api.ErrLow", laid_slabyard_api_ErrLow), ("slabyard/api.ErrWait", laid_slabyard_api_ErrWait), ("slabyard/api.ErrStale", laid_slabyard_api_ErrStale), ("slabyard/api.ErrMany", laid_slabyard_api_ErrMany)] }
def StoreGoneSaid : Prop := storeGoneRow.holds Tryz.pinned (OpenSpec.ofChange storeGoneSpec)

/-- ITS FALSE NEIGHBOUR: 'it returns false'. Refute it at one input. -/
def storeGoneWrong : ChangeSpec := { name := "storeGone", fn := fun _ => fun
  | [d1, d2, d3] => { results := [.lit (.bool false)], args := [d1, d2, d3] }
  | _ => none }
def StoreGoneWrongFalsely : Prop := storeGoneRow.holds Tryz.pinned (OpenSpec.ofChange storeGoneWrong)

/-- 'slabyardlaw2.StoreShared': WHATEVER THE INPUT: true; the input reads as it did. -/
def storeSharedSpec : ChangeSpec := { name := "storeShared", fn := fun _ => fun
  | [d1, d2, d3, d4] => { results := [.lit (.bool true)], args := [d1, d2, d3, d4] }
  | _ => none }
def storeSharedRow : OpenClaim := { program := "ytehhldljdakgeaagreatdoor", sum := "c2ef68871a83075d9ad4dd048fd22ec1c16724f83d5349caf885ab4d6464b4b9", func := "slabyard/slabyardlaw2.StoreShared", spec := "storeShared", inPlace := ["slices.overlaps[*slabyard/slab.slab]", "internal/reflectlite.TypeOf", "internal/reflectlite.ValueOf", "(internal/reflectlite.Value).Type", "(internal/reflectlite.Value).IsNil", "(internal/reflectlite.Value).Elem", "(internal/reflectlite.Value).Set"], unfollowed := true, recurses := true, named := ["slabyard/api.ErrBound", "slabyard/api.ErrShape", "slabyard/api.ErrLow", "slabyard/api.ErrFull", "slabyard/api.ErrNone", "slabyard/api.ErrStale", "slabyard/api.ErrWait", "slabyard/api.ErrMany", "slabyard/api.ErrHeld", "slabyard/api.ErrText", "errors.errorType"], plainKeys := false, apart := false, laid := [("errors.errorType", laid_errors_errorType), ("slabyard/api.ErrText", laid_slabyard_api_ErrText), ("slabyard/api.ErrBound", laid_slabyard_api_ErrBound), ("slabyard/api.ErrShape", laid_slabyard_api_ErrShape), ("slabyard/api.ErrNone", laid_slabyard_api_ErrNone), ("slabyard/api.ErrFull", laid_slabyard_api_ErrFull), ("slabyard/api.ErrHeld", laid_slabyard_api_ErrHeld), ("slabyard/api.ErrLow", laid_slabyard_api_ErrLow), ("slabyard/api.ErrWait", laid_slabyard_api_ErrWait), ("slabyard/api.ErrStale", laid_slabyard_api_ErrStale), ("slabyard/api.ErrMany", laid_slabyard_api_ErrMany)] }
def StoreSharedSaid : Prop := storeSharedRow.holds Tryz.pinned (OpenSpec.ofChange storeSharedSpec)

/-- ITS FALSE NEIGHBOUR: 'it returns false'. Refute it at one input. -/
def storeSharedWrong : ChangeSpec := { name := "storeShared", fn := fun _ => fun
  | [d1, d2, d3, d4] => { results := [.lit (.bool false)], args := [d1, d2, d3, d4] }
  | _ => none }
def StoreSharedWrongFalsely : Prop := storeSharedRow.holds Tryz.pinned (OpenSpec.ofChange storeSharedWrong)

/-- 'slabyardlaw2.StoreActs': WHATEVER THE INPUT: true; the input reads as it did. -/
def storeActsSpec : ChangeSpec := { name := "storeActs", fn := fun _ => fun
  | [d1, d2, d3] => { results := [.lit (.bool true)], args := [d1, d2, d3] }
  | _ => none }
def storeActsRow : OpenClaim := { program := "ytehhldljdakgeaagreatdoor", sum := "c2ef68871a83075d9ad4dd048fd22ec1c16724f83d5349caf885ab4d6464b4b9", func := "slabyard/slabyardlaw2.StoreActs", spec := "storeActs", inPlace := ["slices.overlaps[*slabyard/slab.slab]", "internal/reflectlite.TypeOf", "internal/reflectlite.ValueOf", "(internal/reflectlite.Value).Type", "(internal/reflectlite.Value).IsNil", "(internal/reflectlite.Value).Elem", "(internal/reflectlite.Value).Set"], unfollowed := true, recurses := true, named := ["slabyard/api.ErrBound", "slabyard/api.ErrShape", "slabyard/api.ErrLow", "slabyard/api.ErrFull", "slabyard/api.ErrNone", "slabyard/api.ErrStale", "slabyard/api.ErrWait", "slabyard/api.ErrMany", "slabyard/api.ErrHeld", "slabyard/api.ErrText", "errors.errorType"], plainKeys := false, apart := false, laid := [("errors.errorType", laid_errors_errorType), ("slabyard/api.ErrText", laid_slabyard_api_ErrText), ("slabyard/api.ErrBound", laid_slabyard_api_ErrBound), ("slabyard/api.ErrShape", laid_slabyard_api_ErrShape), ("slabyard/api.ErrNone", laid_slabyard_api_ErrNone), ("slabyard/api.ErrFull", laid_slabyard_api_ErrFull), ("slabyard/api.ErrHeld", laid_slabyard_api_ErrHeld), ("slabyard/api.ErrLow", laid_slabyard_api_ErrLow), ("slabyard/api.ErrWait", laid_slabyard_api_ErrWait), ("slabyard/api.ErrStale", laid_slabyard_api_ErrStale), ("slabyard/api.ErrMany", laid_slabyard_api_ErrMany)] }
def StoreActsSaid : Prop := storeActsRow.holds Tryz.pinned (OpenSpec.ofChange storeActsSpec)

/-- ITS FALSE NEIGHBOUR: 'it returns false'. Refute it at one input. -/
def storeActsWrong : ChangeSpec := { name := "storeActs", fn := fun _ => fun
  | [d1, d2, d3] => { results := [.lit (.bool false)], args := [d1, d2, d3] }
  | _ => none }
def StoreActsWrongFalsely : Prop := storeActsRow.holds Tryz.pinned (OpenSpec.ofChange storeActsWrong)

/- THE SECOND FORM. 'bulk': how many values and letters a reading holds, each counted each time it is reached (what is shared counts as often as it is met; a slice's spare places count too). A statement '..UptoSaid' is the law's where the arguments, and the package variables that the reading takes, are together of bulk at most 1048576: NARROWER than '..Said'. Prove '..Said' where nothing that the law and all that it calls make is longer than what came in: it says more and counts as full. Else prove '..UptoSaid'. A law counts once. -/
mutual
def uptoBulk {H : Type} : DataW H → Nat
  | .lit (.string bytes) => bytes.length + 1
  | .lit _ => 1
  | .nil => 1
  | .ptr d => uptoBulk d + 1
  | .slice elems spare => uptoBulkAll elems + uptoBulkAll spare + 1
  | .agg parts => uptoBulkAll parts + 1
  | .iface _ d => uptoBulk d + 1
  | .map entries => uptoBulkEntries entries + 1
  | .held _ => 1
def uptoBulkAll {H : Type} : List (DataW H) → Nat
  | [] => 0
  | d :: r => uptoBulk d + uptoBulkAll r
def uptoBulkEntries {H : Type} : List (Lit × DataW H) → Nat
  | [] => 0
  | x :: r => uptoBulkEntry x + uptoBulkEntries r
def uptoBulkEntry {H : Type} : Lit × DataW H → Nat
  | (.string bytes, d) => bytes.length + uptoBulk d + 1
  | (_, d) => uptoBulk d + 1
 end
def uptoSmall : (H : Type) → List (DataW H) → Bool := fun _ ds => decide (uptoBulkAll ds ≤ 1048576)
def OpenSpec.upto (s : _root_.Go.ChangeSpec) : _root_.Go.OpenSpec := { _root_.Go.OpenSpec.ofChange s with cond := some uptoSmall }

/-- 'slabyardlaw2.PoolActs', WHERE WHAT IT READS IS OF BULK AT MOST 1048576: true; the input reads as it did. -/
def poolActsUptoRow : OpenClaim := { program := "ytehhldljdakgeaagreatdoor", sum := "c2ef68871a83075d9ad4dd048fd22ec1c16724f83d5349caf885ab4d6464b4b9", func := "slabyard/slabyardlaw2.PoolActs", spec := "poolActs", inPlace := ["slices.overlaps[*slabyard/slab.slab]", "internal/reflectlite.TypeOf", "internal/reflectlite.ValueOf", "(internal/reflectlite.Value).Type", "(internal/reflectlite.Value).IsNil", "(internal/reflectlite.Value).Elem", "(internal/reflectlite.Value).Set"], unfollowed := true, recurses := true, named := ["slabyard/api.ErrBound", "slabyard/api.ErrShape", "slabyard/api.ErrLow", "slabyard/api.ErrFull", "slabyard/api.ErrNone", "slabyard/api.ErrStale", "slabyard/api.ErrMany", "slabyard/api.ErrWait", "slabyard/api.ErrText", "slabyard/api.ErrHeld", "errors.errorType"], plainKeys := false, apart := false, laid := [("errors.errorType", laid_errors_errorType), ("slabyard/api.ErrText", laid_slabyard_api_ErrText), ("slabyard/api.ErrBound", laid_slabyard_api_ErrBound), ("slabyard/api.ErrShape", laid_slabyard_api_ErrShape), ("slabyard/api.ErrNone", laid_slabyard_api_ErrNone), ("slabyard/api.ErrFull", laid_slabyard_api_ErrFull), ("slabyard/api.ErrHeld", laid_slabyard_api_ErrHeld), ("slabyard/api.ErrLow", laid_slabyard_api_ErrLow), ("slabyard/api.ErrWait", laid_slabyard_api_ErrWait), ("slabyard/api.ErrStale", laid_slabyard_api_ErrStale), ("slabyard/api.ErrMany", laid_slabyard_api_ErrMany)], narrowed := true }
def PoolActsUptoSaid : Prop := poolActsUptoRow.holds Tryz.pinned (OpenSpec.upto poolActsSpec)

/-- 'slabyardlaw2.StoreGone', WHERE WHAT IT READS IS OF BULK AT MOST 1048576: true; the input reads as it did. -/
def storeGoneUptoRow : OpenClaim := { program := "ytehhldljdakgeaagreatdoor", sum := "c2ef68871a83075d9ad4dd048fd22ec1c16724f83d5349caf885ab4d6464b4b9", func := "slabyard/slabyardlaw2.StoreGone", spec := "storeGone", inPlace := ["slices.overlaps[*slabyard/slab.slab]", "internal/reflectlite.TypeOf", "internal/reflectlite.ValueOf", "(internal/reflectlite.Value).Type", "(internal/reflectlite.Value).IsNil", "(internal/reflectlite.Value).Elem", "(internal/reflectlite.Value).Set"], unfollowed := true, recurses := true, named := ["slabyard/api.ErrBound", "slabyard/api.ErrShape", "slabyard/api.ErrLow", "slabyard/api.ErrFull", "slabyard/api.ErrNone", "slabyard/api.ErrStale", "slabyard/api.ErrWait", "slabyard/api.ErrMany", "slabyard/api.ErrHeld", "slabyard/api.ErrText", "errors.errorType"], plainKeys := false, apart := false, laid := [("errors.errorType", laid_errors_errorType), ("slabyard/api.ErrText", laid_slabyard_api_ErrText), ("slabyard/api.ErrBound", laid_slabyard_api_ErrBound), ("slabyard/api.ErrShape", laid_slabyard_api_ErrShape), ("slabyard/api.ErrNone", laid_slabyard_api_ErrNone), ("slabyard/api.ErrFull", laid_slabyard_api_ErrFull), ("slabyard/api.ErrHeld", laid_slabyard_api_ErrHeld), ("slabyard/api.ErrLow", laid_slabyard_api_ErrLow), ("slabyard/api.ErrWait", laid_slabyard_api_ErrWait), ("slabyard/api.ErrStale", laid_slabyard_api_ErrStale), ("slabyard/api.ErrMany", laid_slabyard_api_ErrMany)], narrowed := true }
def StoreGoneUptoSaid : Prop := storeGoneUptoRow.holds Tryz.pinned (OpenSpec.upto storeGoneSpec)

/-- 'slabyardlaw2.StoreShared', WHERE WHAT IT READS IS OF BULK AT MOST 1048576: true; the input reads as it did. -/
def storeSharedUptoRow : OpenClaim := { program := "ytehhldljdakgeaagreatdoor", sum := "c2ef68871a83075d9ad4dd048fd22ec1c16724f83d5349caf885ab4d6464b4b9", func := "slabyard/slabyardlaw2.StoreShared", spec := "storeShared", inPlace := ["slices.overlaps[*slabyard/slab.slab]", "internal/reflectlite.TypeOf", "internal/reflectlite.ValueOf", "(internal/reflectlite.Value).Type", "(internal/reflectlite.Value).IsNil", "(internal/reflectlite.Value).Elem", "(internal/reflectlite.Value).Set"], unfollowed := true, recurses := true, named := ["slabyard/api.ErrBound", "slabyard/api.ErrShape", "slabyard/api.ErrLow", "slabyard/api.ErrFull", "slabyard/api.ErrNone", "slabyard/api.ErrStale", "slabyard/api.ErrWait", "slabyard/api.ErrMany", "slabyard/api.ErrHeld", "slabyard/api.ErrText", "errors.errorType"], plainKeys := false, apart := false, laid := [("errors.errorType", laid_errors_errorType), ("slabyard/api.ErrText", laid_slabyard_api_ErrText), ("slabyard/api.ErrBound", laid_slabyard_api_ErrBound), ("slabyard/api.ErrShape", laid_slabyard_api_ErrShape), ("slabyard/api.ErrNone", laid_slabyard_api_ErrNone), ("slabyard/api.ErrFull", laid_slabyard_api_ErrFull), ("slabyard/api.ErrHeld", laid_slabyard_api_ErrHeld), ("slabyard/api.ErrLow", laid_slabyard_api_ErrLow), ("slabyard/api.ErrWait", laid_slabyard_api_ErrWait), ("slabyard/api.ErrStale", laid_slabyard_api_ErrStale), ("slabyard/api.ErrMany", laid_slabyard_api_ErrMany)], narrowed := true }
def StoreSharedUptoSaid : Prop := storeSharedUptoRow.holds Tryz.pinned (OpenSpec.upto storeSharedSpec)

/-- 'slabyardlaw2.StoreActs', WHERE WHAT IT READS IS OF BULK AT MOST 1048576: true; the input reads as it did. -/
def storeActsUptoRow : OpenClaim := { program := "ytehhldljdakgeaagreatdoor", sum := "c2ef68871a83075d9ad4dd048fd22ec1c16724f83d5349caf885ab4d6464b4b9", func := "slabyard/slabyardlaw2.StoreActs", spec := "storeActs", inPlace := ["slices.overlaps[*slabyard/slab.slab]", "internal/reflectlite.TypeOf", "internal/reflectlite.ValueOf", "(internal/reflectlite.Value).Type", "(internal/reflectlite.Value).IsNil", "(internal/reflectlite.Value).Elem", "(internal/reflectlite.Value).Set"], unfollowed := true, recurses := true, named := ["slabyard/api.ErrBound", "slabyard/api.ErrShape", "slabyard/api.ErrLow", "slabyard/api.ErrFull", "slabyard/api.ErrNone", "slabyard/api.ErrStale", "slabyard/api.ErrWait", "slabyard/api.ErrMany", "slabyard/api.ErrHeld", "slabyard/api.ErrText", "errors.errorType"], plainKeys := false, apart := false, laid := [("errors.errorType", laid_errors_errorType), ("slabyard/api.ErrText", laid_slabyard_api_ErrText), ("slabyard/api.ErrBound", laid_slabyard_api_ErrBound), ("slabyard/api.ErrShape", laid_slabyard_api_ErrShape), ("slabyard/api.ErrNone", laid_slabyard_api_ErrNone), ("slabyard/api.ErrFull", laid_slabyard_api_ErrFull), ("slabyard/api.ErrHeld", laid_slabyard_api_ErrHeld), ("slabyard/api.ErrLow", laid_slabyard_api_ErrLow), ("slabyard/api.ErrWait", laid_slabyard_api_ErrWait), ("slabyard/api.ErrStale", laid_slabyard_api_ErrStale), ("slabyard/api.ErrMany", laid_slabyard_api_ErrMany)], narrowed := true }
def StoreActsUptoSaid : Prop := storeActsUptoRow.holds Tryz.pinned (OpenSpec.upto storeActsSpec)

end Rows
end Go.Proofs.YtehhldljdakgeaaGreatDoor
