/-
  NARROWER THAN 'FOR EVERY INPUT', by the rows' own cells (each row's printed sentence says how): FramesTwice: laid · Names: laid · FramesSizes: laid · FramesBlocks: laid · FramesCover: laid · BuddyWhole: laid · BuddyLeft: laid · BuddyActs: laid.
  DERIVED. THE GIVEN ROWS OF THIS SEAT. 8 by the template 'for every input the law returns true; each argument reads behind the call as it read before'; 0 by the template 'total and deterministic' (their statements: YtcooflachcimbaaDoorTotals.lean).
  GIVEN WITH THE SEED: the statements are not yours to turn. If you find one false, say at which input.
  Laid BY PROGRAM, IN A SANDBOX (cutbox-rows.mjs): the forced cells as the released guide's own fill.sh prints them over the translation ad913d94985ad1d0… (all of the seat's roots in one cut). By AI agents, Wed Nov 11 2026. No macro, syntax, notation, axiom, sorry.
-/
import Derived.Test.YtcooflachcimbaaDoorChecked
import GoSem.Claim
import GoSem.ClaimJoined
import GoSem.ClaimMapViews
import Derived.JoinedTies
import Derived.KernelRfl
namespace Go.Proofs.YtcooflachcimbaaDoor
/- THE CELL 'sum', in the pinned program and in every row, IS THE sha256 OF THE DUMP (.gsa) THAT YtcooflachcimbaaDoorProg.lean LOADS. Nothing in Lean hashes anything: it is a label: what it is worth is what the hold of that sum in a sandbox is worth. -/
noncomputable def Tryd.pinned : Pinned := { name := "ytcooflachcimbaadoor", sum := "ad913d94985ad1d04a0bb39db19f2977f2a974827eaed03d377d996a2919747b", checked := Tryd.checked }
namespace Rows
def none {H : Type} : Left H := { results := [], args := [] }

/- WHAT THE LISTED PACKAGE-LEVEL VARIABLES READ AS WHEN THE CALL BEGINS. Each datum BY PROGRAM (the guide's laid-datum.mjs) off the statement by which the dump's own 'gosem.cut.vars' lays the variable. In a bare row this is a premise. The card (YtcooflachcimbaaDoorCards.lean) ties it to the program's text. -/
def laid_slabyard_api_ErrBound {H : Type} : DataW H := .iface "*errors.errorString" (.ptr (.agg [.lit (.string [115, 108, 97, 98, 121, 97, 114, 100, 58, 32, 98, 111, 117, 110, 100])]))
def laid_slabyard_api_ErrShape {H : Type} : DataW H := .iface "*errors.errorString" (.ptr (.agg [.lit (.string [115, 108, 97, 98, 121, 97, 114, 100, 58, 32, 115, 104, 97, 112, 101])]))
def laid_slabyard_api_ErrNone {H : Type} : DataW H := .iface "*errors.errorString" (.ptr (.agg [.lit (.string [115, 108, 97, 98, 121, 97, 114, 100, 58, 32, 110, 111, 110, 101])]))
def laid_errors_errorType {H : Type} : DataW H := .iface "internal/reflectlite.rtype" (.agg [.ptr (.lit (.string [101, 114, 114, 111, 114]))])
def laid_slabyard_api_ErrText {H : Type} : DataW H := .iface "*errors.errorString" (.ptr (.agg [.lit (.string [115, 108, 97, 98, 121, 97, 114, 100, 58, 32, 116, 101, 120, 116])]))
def laid_slabyard_api_ErrFull {H : Type} : DataW H := .iface "*errors.errorString" (.ptr (.agg [.lit (.string [115, 108, 97, 98, 121, 97, 114, 100, 58, 32, 102, 117, 108, 108])]))
def laid_slabyard_api_ErrHeld {H : Type} : DataW H := .iface "*errors.errorString" (.ptr (.agg [.lit (.string [115, 108, 97, 98, 121, 97, 114, 100, 58, 32, 104, 101, 108, 100])]))
def laid_slabyard_api_ErrLow {H : Type} : DataW H := .iface "*errors.errorString" (.ptr (.agg [.lit (.string [115, 108, 97, 98, 121, 97, 114, 100, 58, 32, 108, 111, 119])]))
def laid_slabyard_api_ErrWait {H : Type} : DataW H := .iface "*errors.errorString" (.ptr (.agg [.lit (.string [115, 108, 97, 98, 121, 97, 114, 100, 58, 32, 119, 97, 105, 116])]))
def laid_slabyard_api_ErrStale {H : Type} : DataW H := .iface "*errors.errorString" (.ptr (.agg [.lit (.string [115, 108, 97, 98, 121, 97, 114, 100, 58, 32, 115, 116, 97, 108, 101])]))
def laid_slabyard_api_ErrMany {H : Type} : DataW H := .iface "*errors.errorString" (.ptr (.agg [.lit (.string [115, 108, 97, 98, 121, 97, 114, 100, 58, 32, 109, 97, 110, 121])]))

/-- 'slabyardlaw1.FramesTwice': WHATEVER THE INPUT: true; the input reads as it did. -/
def framesTwiceSpec : ChangeSpec := { name := "framesTwice", fn := fun _ => fun
  | [d] => { results := [.lit (.bool true)], args := [d] }
  | _ => none }
def framesTwiceRow : OpenClaim := { program := "ytcooflachcimbaadoor", sum := "ad913d94985ad1d04a0bb39db19f2977f2a974827eaed03d377d996a2919747b", func := "slabyard/slabyardlaw1.FramesTwice", spec := "framesTwice", named := ["slabyard/api.ErrNone", "slabyard/api.ErrBound", "slabyard/api.ErrShape"], apart := false, laid := [("slabyard/api.ErrBound", laid_slabyard_api_ErrBound), ("slabyard/api.ErrShape", laid_slabyard_api_ErrShape), ("slabyard/api.ErrNone", laid_slabyard_api_ErrNone)] }
def FramesTwiceSaid : Prop := framesTwiceRow.holds Tryd.pinned (OpenSpec.ofChange framesTwiceSpec)

/-- ITS FALSE NEIGHBOUR: 'it returns false'. Refute it at one input. -/
def framesTwiceWrong : ChangeSpec := { name := "framesTwice", fn := fun _ => fun
  | [d] => { results := [.lit (.bool false)], args := [d] }
  | _ => none }
def FramesTwiceWrongFalsely : Prop := framesTwiceRow.holds Tryd.pinned (OpenSpec.ofChange framesTwiceWrong)

/-- 'slabyardlaw1.Names': WHATEVER THE INPUT: true; the input reads as it did. -/
def namesSpec : ChangeSpec := { name := "names", fn := fun _ => fun
  | [] => { results := [.lit (.bool true)], args := [] }
  | _ => none }
def namesRow : OpenClaim := { program := "ytcooflachcimbaadoor", sum := "ad913d94985ad1d04a0bb39db19f2977f2a974827eaed03d377d996a2919747b", func := "slabyard/slabyardlaw1.Names", spec := "names", inPlace := ["internal/reflectlite.ValueOf", "(internal/reflectlite.Value).Type", "(internal/reflectlite.Value).IsNil", "internal/reflectlite.TypeOf", "(internal/reflectlite.Value).Elem", "(internal/reflectlite.Value).Set"], unfollowed := true, recurses := true, named := ["slabyard/api.ErrText", "slabyard/api.ErrBound", "slabyard/api.ErrShape", "slabyard/api.ErrNone", "slabyard/api.ErrFull", "slabyard/api.ErrHeld", "slabyard/api.ErrLow", "slabyard/api.ErrWait", "slabyard/api.ErrStale", "slabyard/api.ErrMany", "errors.errorType"], apart := false, laid := [("errors.errorType", laid_errors_errorType), ("slabyard/api.ErrText", laid_slabyard_api_ErrText), ("slabyard/api.ErrBound", laid_slabyard_api_ErrBound), ("slabyard/api.ErrShape", laid_slabyard_api_ErrShape), ("slabyard/api.ErrNone", laid_slabyard_api_ErrNone), ("slabyard/api.ErrFull", laid_slabyard_api_ErrFull), ("slabyard/api.ErrHeld", laid_slabyard_api_ErrHeld), ("slabyard/api.ErrLow", laid_slabyard_api_ErrLow), ("slabyard/api.ErrWait", laid_slabyard_api_ErrWait), ("slabyard/api.ErrStale", laid_slabyard_api_ErrStale), ("slabyard/api.ErrMany", laid_slabyard_api_ErrMany)] }
def NamesSaid : Prop := namesRow.holds Tryd.pinned (OpenSpec.ofChange namesSpec)

/-- ITS FALSE NEIGHBOUR: 'it returns false'. Refute it at one input. -/
def namesWrong : ChangeSpec := { name := "names", fn := fun _ => fun
  | [] => { results := [.lit (.bool false)], args := [] }
  | _ => none }
def NamesWrongFalsely : Prop := namesRow.holds Tryd.pinned (OpenSpec.ofChange namesWrong)

/-- 'slabyardlaw1.FramesSizes': WHATEVER THE INPUT: true; the input reads as it did. -/
def framesSizesSpec : ChangeSpec := { name := "framesSizes", fn := fun _ => fun
  | [d] => { results := [.lit (.bool true)], args := [d] }
  | _ => none }
def framesSizesRow : OpenClaim := { program := "ytcooflachcimbaadoor", sum := "ad913d94985ad1d04a0bb39db19f2977f2a974827eaed03d377d996a2919747b", func := "slabyard/slabyardlaw1.FramesSizes", spec := "framesSizes", inPlace := ["internal/reflectlite.ValueOf", "(internal/reflectlite.Value).Type", "(internal/reflectlite.Value).IsNil", "internal/reflectlite.TypeOf", "(internal/reflectlite.Value).Elem", "(internal/reflectlite.Value).Set"], unfollowed := true, recurses := true, named := ["slabyard/api.ErrNone", "slabyard/api.ErrBound", "slabyard/api.ErrShape", "slabyard/api.ErrText", "slabyard/api.ErrFull", "slabyard/api.ErrHeld", "slabyard/api.ErrLow", "slabyard/api.ErrWait", "slabyard/api.ErrStale", "slabyard/api.ErrMany", "errors.errorType"], apart := false, laid := [("errors.errorType", laid_errors_errorType), ("slabyard/api.ErrText", laid_slabyard_api_ErrText), ("slabyard/api.ErrBound", laid_slabyard_api_ErrBound), ("slabyard/api.ErrShape", laid_slabyard_api_ErrShape), ("slabyard/api.ErrNone", laid_slabyard_api_ErrNone), ("slabyard/api.ErrFull", laid_slabyard_api_ErrFull), ("slabyard/api.ErrHeld", laid_slabyard_api_ErrHeld), ("slabyard/api.ErrLow", laid_slabyard_api_ErrLow), ("slabyard/api.ErrWait", laid_slabyard_api_ErrWait), ("slabyard/api.ErrStale", laid_slabyard_api_ErrStale), ("slabyard/api.ErrMany", laid_slabyard_api_ErrMany)] }
def FramesSizesSaid : Prop := framesSizesRow.holds Tryd.pinned (OpenSpec.ofChange framesSizesSpec)

/-- ITS FALSE NEIGHBOUR: 'it returns false'. Refute it at one input. -/
def framesSizesWrong : ChangeSpec := { name := "framesSizes", fn := fun _ => fun
  | [d] => { results := [.lit (.bool false)], args := [d] }
  | _ => none }
def FramesSizesWrongFalsely : Prop := framesSizesRow.holds Tryd.pinned (OpenSpec.ofChange framesSizesWrong)

/-- 'slabyardlaw1.FramesBlocks': WHATEVER THE INPUT: true; the input reads as it did. -/
def framesBlocksSpec : ChangeSpec := { name := "framesBlocks", fn := fun _ => fun
  | [d1, d2] => { results := [.lit (.bool true)], args := [d1, d2] }
  | _ => none }
def framesBlocksRow : OpenClaim := { program := "ytcooflachcimbaadoor", sum := "ad913d94985ad1d04a0bb39db19f2977f2a974827eaed03d377d996a2919747b", func := "slabyard/slabyardlaw1.FramesBlocks", spec := "framesBlocks", inPlace := ["internal/reflectlite.ValueOf", "(internal/reflectlite.Value).Type", "(internal/reflectlite.Value).IsNil", "internal/reflectlite.TypeOf", "(internal/reflectlite.Value).Elem", "(internal/reflectlite.Value).Set"], unfollowed := true, recurses := true, named := ["slabyard/api.ErrNone", "slabyard/api.ErrBound", "slabyard/api.ErrShape", "slabyard/api.ErrText", "slabyard/api.ErrFull", "slabyard/api.ErrHeld", "slabyard/api.ErrLow", "slabyard/api.ErrWait", "slabyard/api.ErrStale", "slabyard/api.ErrMany", "errors.errorType"], apart := false, laid := [("errors.errorType", laid_errors_errorType), ("slabyard/api.ErrText", laid_slabyard_api_ErrText), ("slabyard/api.ErrBound", laid_slabyard_api_ErrBound), ("slabyard/api.ErrShape", laid_slabyard_api_ErrShape), ("slabyard/api.ErrNone", laid_slabyard_api_ErrNone), ("slabyard/api.ErrFull", laid_slabyard_api_ErrFull), ("slabyard/api.ErrHeld", laid_slabyard_api_ErrHeld), ("slabyard/api.ErrLow", laid_slabyard_api_ErrLow), ("slabyard/api.ErrWait", laid_slabyard_api_ErrWait), ("slabyard/api.ErrStale", laid_slabyard_api_ErrStale), ("slabyard/api.ErrMany", laid_slabyard_api_ErrMany)] }
def FramesBlocksSaid : Prop := framesBlocksRow.holds Tryd.pinned (OpenSpec.ofChange framesBlocksSpec)

/-- ITS FALSE NEIGHBOUR: 'it returns false'. Refute it at one input. -/
def framesBlocksWrong : ChangeSpec := { name := "framesBlocks", fn := fun _ => fun
  | [d1, d2] => { results := [.lit (.bool false)], args := [d1, d2] }
  | _ => none }
def FramesBlocksWrongFalsely : Prop := framesBlocksRow.holds Tryd.pinned (OpenSpec.ofChange framesBlocksWrong)

/-- 'slabyardlaw1.FramesCover': WHATEVER THE INPUT: true; the input reads as it did. -/
def framesCoverSpec : ChangeSpec := { name := "framesCover", fn := fun _ => fun
  | [d1, d2] => { results := [.lit (.bool true)], args := [d1, d2] }
  | _ => none }
def framesCoverRow : OpenClaim := { program := "ytcooflachcimbaadoor", sum := "ad913d94985ad1d04a0bb39db19f2977f2a974827eaed03d377d996a2919747b", func := "slabyard/slabyardlaw1.FramesCover", spec := "framesCover", inPlace := ["internal/reflectlite.ValueOf", "(internal/reflectlite.Value).Type", "(internal/reflectlite.Value).IsNil", "internal/reflectlite.TypeOf", "(internal/reflectlite.Value).Elem", "(internal/reflectlite.Value).Set"], unfollowed := true, recurses := true, named := ["slabyard/api.ErrNone", "slabyard/api.ErrBound", "slabyard/api.ErrShape", "slabyard/api.ErrText", "slabyard/api.ErrFull", "slabyard/api.ErrHeld", "slabyard/api.ErrLow", "slabyard/api.ErrWait", "slabyard/api.ErrStale", "slabyard/api.ErrMany", "errors.errorType"], apart := false, laid := [("errors.errorType", laid_errors_errorType), ("slabyard/api.ErrText", laid_slabyard_api_ErrText), ("slabyard/api.ErrBound", laid_slabyard_api_ErrBound), ("slabyard/api.ErrShape", laid_slabyard_api_ErrShape), ("slabyard/api.ErrNone", laid_slabyard_api_ErrNone), ("slabyard/api.ErrFull", laid_slabyard_api_ErrFull), ("slabyard/api.ErrHeld", laid_slabyard_api_ErrHeld), ("slabyard/api.ErrLow", laid_slabyard_api_ErrLow), ("slabyard/api.ErrWait", laid_slabyard_api_ErrWait), ("slabyard/api.ErrStale", laid_slabyard_api_ErrStale), ("slabyard/api.ErrMany", laid_slabyard_api_ErrMany)] }
def FramesCoverSaid : Prop := framesCoverRow.holds Tryd.pinned (OpenSpec.ofChange framesCoverSpec)

/-- ITS FALSE NEIGHBOUR: 'it returns false'. Refute it at one input. -/
def framesCoverWrong : ChangeSpec := { name := "framesCover", fn := fun _ => fun
  | [d1, d2] => { results := [.lit (.bool false)], args := [d1, d2] }
  | _ => none }
def FramesCoverWrongFalsely : Prop := framesCoverRow.holds Tryd.pinned (OpenSpec.ofChange framesCoverWrong)

/-- 'slabyardlaw1.BuddyWhole': WHATEVER THE INPUT: true; the input reads as it did. -/
def buddyWholeSpec : ChangeSpec := { name := "buddyWhole", fn := fun _ => fun
  | [d1, d2] => { results := [.lit (.bool true)], args := [d1, d2] }
  | _ => none }
def buddyWholeRow : OpenClaim := { program := "ytcooflachcimbaadoor", sum := "ad913d94985ad1d04a0bb39db19f2977f2a974827eaed03d377d996a2919747b", func := "slabyard/slabyardlaw1.BuddyWhole", spec := "buddyWhole", unfollowed := true, recurses := true, named := ["slabyard/api.ErrBound", "slabyard/api.ErrFull", "slabyard/api.ErrNone", "slabyard/api.ErrShape"], apart := false, laid := [("slabyard/api.ErrBound", laid_slabyard_api_ErrBound), ("slabyard/api.ErrShape", laid_slabyard_api_ErrShape), ("slabyard/api.ErrNone", laid_slabyard_api_ErrNone), ("slabyard/api.ErrFull", laid_slabyard_api_ErrFull)] }
def BuddyWholeSaid : Prop := buddyWholeRow.holds Tryd.pinned (OpenSpec.ofChange buddyWholeSpec)

/-- ITS FALSE NEIGHBOUR: 'it returns false'. Refute it at one input. -/
def buddyWholeWrong : ChangeSpec := { name := "buddyWhole", fn := fun _ => fun
  | [d1, d2] => { results := [.lit (.bool false)], args := [d1, d2] }
  | _ => none }
def BuddyWholeWrongFalsely : Prop := buddyWholeRow.holds Tryd.pinned (OpenSpec.ofChange buddyWholeWrong)

/-- 'slabyardlaw1.BuddyLeft': WHATEVER THE INPUT: true; the input reads as it did. -/
def buddyLeftSpec : ChangeSpec := { name := "buddyLeft", fn := fun _ => fun
  | [d1, d2, d3] => { results := [.lit (.bool true)], args := [d1, d2, d3] }
  | _ => none }
def buddyLeftRow : OpenClaim := { program := "ytcooflachcimbaadoor", sum := "ad913d94985ad1d04a0bb39db19f2977f2a974827eaed03d377d996a2919747b", func := "slabyard/slabyardlaw1.BuddyLeft", spec := "buddyLeft", inPlace := ["internal/reflectlite.ValueOf", "(internal/reflectlite.Value).Type", "(internal/reflectlite.Value).IsNil", "internal/reflectlite.TypeOf", "(internal/reflectlite.Value).Elem", "(internal/reflectlite.Value).Set"], unfollowed := true, recurses := true, named := ["slabyard/api.ErrBound", "slabyard/api.ErrFull", "slabyard/api.ErrNone", "slabyard/api.ErrShape", "slabyard/api.ErrText", "slabyard/api.ErrHeld", "slabyard/api.ErrLow", "slabyard/api.ErrWait", "slabyard/api.ErrStale", "slabyard/api.ErrMany", "errors.errorType"], apart := false, laid := [("errors.errorType", laid_errors_errorType), ("slabyard/api.ErrText", laid_slabyard_api_ErrText), ("slabyard/api.ErrBound", laid_slabyard_api_ErrBound), ("slabyard/api.ErrShape", laid_slabyard_api_ErrShape), ("slabyard/api.ErrNone", laid_slabyard_api_ErrNone), ("slabyard/api.ErrFull", laid_slabyard_api_ErrFull), ("slabyard/api.ErrHeld", laid_slabyard_api_ErrHeld), ("slabyard/api.ErrLow", laid_slabyard_api_ErrLow), ("slabyard/api.ErrWait", laid_slabyard_api_ErrWait), ("slabyard/api.ErrStale", laid_slabyard_api_ErrStale), ("slabyard/api.ErrMany", laid_slabyard_api_ErrMany)] }
def BuddyLeftSaid : Prop := buddyLeftRow.holds Tryd.pinned (OpenSpec.ofChange buddyLeftSpec)

/-- ITS FALSE NEIGHBOUR: 'it returns false'. Refute it at one input. -/
def buddyLeftWrong : ChangeSpec := { name := "buddyLeft", fn := fun _ => fun
  | [d1, d2, d3] => { results := [.lit (.bool false)], args := [d1, d2, d3] }
  | _ => none }
def BuddyLeftWrongFalsely : Prop := buddyLeftRow.holds Tryd.pinned (OpenSpec.ofChange buddyLeftWrong)

/-- 'slabyardlaw1.BuddyActs': WHATEVER THE INPUT: true; the input reads as it did. -/
def buddyActsSpec : ChangeSpec := { name := "buddyActs", fn := fun _ => fun
  | [d1, d2] => { results := [.lit (.bool true)], args := [d1, d2] }
  | _ => none }
def buddyActsRow : OpenClaim := { program := "ytcooflachcimbaadoor", sum := "ad913d94985ad1d04a0bb39db19f2977f2a974827eaed03d377d996a2919747b", func := "slabyard/slabyardlaw1.BuddyActs", spec := "buddyActs", inPlace := ["internal/reflectlite.ValueOf", "(internal/reflectlite.Value).Type", "(internal/reflectlite.Value).IsNil", "internal/reflectlite.TypeOf", "(internal/reflectlite.Value).Elem", "(internal/reflectlite.Value).Set", "maps.clone"], unfollowed := true, recurses := true, named := ["slabyard/api.ErrBound", "slabyard/api.ErrFull", "slabyard/api.ErrNone", "slabyard/api.ErrShape", "slabyard/api.ErrText", "slabyard/api.ErrHeld", "slabyard/api.ErrLow", "slabyard/api.ErrWait", "slabyard/api.ErrStale", "slabyard/api.ErrMany", "errors.errorType"], apart := false, laid := [("errors.errorType", laid_errors_errorType), ("slabyard/api.ErrText", laid_slabyard_api_ErrText), ("slabyard/api.ErrBound", laid_slabyard_api_ErrBound), ("slabyard/api.ErrShape", laid_slabyard_api_ErrShape), ("slabyard/api.ErrNone", laid_slabyard_api_ErrNone), ("slabyard/api.ErrFull", laid_slabyard_api_ErrFull), ("slabyard/api.ErrHeld", laid_slabyard_api_ErrHeld), ("slabyard/api.ErrLow", laid_slabyard_api_ErrLow), ("slabyard/api.ErrWait", laid_slabyard_api_ErrWait), ("slabyard/api.ErrStale", laid_slabyard_api_ErrStale), ("slabyard/api.ErrMany", laid_slabyard_api_ErrMany)] }
def BuddyActsSaid : Prop := buddyActsRow.holds Tryd.pinned (OpenSpec.ofChange buddyActsSpec)

/-- ITS FALSE NEIGHBOUR: 'it returns false'. Refute it at one input. -/
def buddyActsWrong : ChangeSpec := { name := "buddyActs", fn := fun _ => fun
  | [d1, d2] => { results := [.lit (.bool false)], args := [d1, d2] }
  | _ => none }
def BuddyActsWrongFalsely : Prop := buddyActsRow.holds Tryd.pinned (OpenSpec.ofChange buddyActsWrong)

/- THE SECOND FORM. 'bulk': how many values and letters a reading holds, each counted each time it is reached (what is shared counts as often as it is met; a slice's spare places count too). A statement '..UptoSaid' is the law's where the arguments, and the package variables that the reading takes, are together of bulk at most 1048576: NARROWER than '..Said'. Prove '..Said' where nothing that the law and all that it calls make is longer than what came in: it says more and counts as full. Else prove '..UptoSaid'. A law counts once. -/
mutual
def uptoBulk {H : Type} : DataW H → Nat
  | .lit (.string bytes) => bytes.length + 1
  | .lit _ => 1
  | .nil => 1
  | .ptr d => uptoBulk d + 1
  | .slice elems spare => uptoBulkAll elems + uptoBulkAll spare + 1
  | .agg parts => uptoBulkAll parts + 1
  | .iface _ d => uptoBulk d + 1
  | .map entries => uptoBulkEntries entries + 1
  | .held _ => 1
def uptoBulkAll {H : Type} : List (DataW H) → Nat
  | [] => 0
  | d :: r => uptoBulk d + uptoBulkAll r
def uptoBulkEntries {H : Type} : List (Lit × DataW H) → Nat
  | [] => 0
  | x :: r => uptoBulkEntry x + uptoBulkEntries r
def uptoBulkEntry {H : Type} : Lit × DataW H → Nat
  | (.string bytes, d) => bytes.length + uptoBulk d + 1
  | (_, d) => uptoBulk d + 1
 end
def uptoSmall : (H : Type) → List (DataW H) → Bool := fun _ ds => decide (uptoBulkAll ds ≤ 1048576)
def OpenSpec.upto (s : _root_.Go.ChangeSpec) : _root_.Go.OpenSpec := { _root_.Go.OpenSpec.ofChange s with cond := some uptoSmall }

/-- 'slabyardlaw1.FramesTwice', WHERE WHAT IT READS IS OF BULK AT MOST 1048576: true; the input reads as it did. -/
def framesTwiceUptoRow : OpenClaim := { program := "ytcooflachcimbaadoor", sum := "ad913d94985ad1d04a0bb39db19f2977f2a974827eaed03d377d996a2919747b", func := "slabyard/slabyardlaw1.FramesTwice", spec := "framesTwice", named := ["slabyard/api.ErrNone", "slabyard/api.ErrBound", "slabyard/api.ErrShape"], apart := false, laid := [("slabyard/api.ErrBound", laid_slabyard_api_ErrBound), ("slabyard/api.ErrShape", laid_slabyard_api_ErrShape), ("slabyard/api.ErrNone", laid_slabyard_api_ErrNone)], narrowed := true }
def FramesTwiceUptoSaid : Prop := framesTwiceUptoRow.holds Tryd.pinned (OpenSpec.upto framesTwiceSpec)

/-- 'slabyardlaw1.Names', WHERE WHAT IT READS IS OF BULK AT MOST 1048576: true; the input reads as it did. -/
def namesUptoRow : OpenClaim := { program := "ytcooflachcimbaadoor", sum := "ad913d94985ad1d04a0bb39db19f2977f2a974827eaed03d377d996a2919747b", func := "slabyard/slabyardlaw1.Names", spec := "names", inPlace := ["internal/reflectlite.ValueOf", "(internal/reflectlite.Value).Type", "(internal/reflectlite.Value).IsNil", "internal/reflectlite.TypeOf", "(internal/reflectlite.Value).Elem", "(internal/reflectlite.Value).Set"], unfollowed := true, recurses := true, named := ["slabyard/api.ErrText", "slabyard/api.ErrBound", "slabyard/api.ErrShape", "slabyard/api.ErrNone", "slabyard/api.ErrFull", "slabyard/api.ErrHeld", "slabyard/api.ErrLow", "slabyard/api.ErrWait", "slabyard/api.ErrStale", "slabyard/api.ErrMany", "errors.errorType"], apart := false, laid := [("errors.errorType", laid_errors_errorType), ("slabyard/api.ErrText", laid_slabyard_api_ErrText), ("slabyard/api.ErrBound", laid_slabyard_api_ErrBound), ("slabyard/api.ErrShape", laid_slabyard_api_ErrShape), ("slabyard/api.ErrNone", laid_slabyard_api_ErrNone), ("slabyard/api.ErrFull", laid_slabyard_api_ErrFull), ("slabyard/api.ErrHeld", laid_slabyard_api_ErrHeld), ("slabyard/api.ErrLow", laid_slabyard_api_ErrLow), ("slabyard/api.ErrWait", laid_slabyard_api_ErrWait), ("slabyard/api.ErrStale", laid_slabyard_api_ErrStale), ("slabyard/api.ErrMany", laid_slabyard_api_ErrMany)], narrowed := true }
def NamesUptoSaid : Prop := namesUptoRow.holds Tryd.pinned (OpenSpec.upto namesSpec)

/-- 'slabyardlaw1.FramesSizes', WHERE WHAT IT READS IS OF BULK AT MOST 1048576: true; the input reads as it did. -/
def framesSizesUptoRow : OpenClaim := { program := "ytcooflachcimbaadoor", sum := "ad913d94985ad1d04a0bb39db19f2977f2a974827eaed03d377d996a2919747b", func := "slabyard/slabyardlaw1.FramesSizes", spec := "framesSizes", inPlace := ["internal/reflectlite.ValueOf", "(internal/reflectlite.Value).Type", "(internal/reflectlite.Value).IsNil", "internal/reflectlite.TypeOf", "(internal/reflectlite.Value).Elem", "(internal/reflectlite.Value).Set"], unfollowed := true, recurses := true, named := ["slabyard/api.ErrNone", "slabyard/api.ErrBound", "slabyard/api.ErrShape", "slabyard/api.ErrText", "slabyard/api.ErrFull", "slabyard/api.ErrHeld", "slabyard/api.ErrLow", "slabyard/api.ErrWait", "slabyard/api.ErrStale", "slabyard/api.ErrMany", "errors.errorType"], apart := false, laid := [("errors.errorType", laid_errors_errorType), ("slabyard/api.ErrText", laid_slabyard_api_ErrText), ("slabyard/api.ErrBound", laid_slabyard_api_ErrBound), ("slabyard/api.ErrShape", laid_slabyard_api_ErrShape), ("slabyard/api.ErrNone", laid_slabyard_api_ErrNone), ("slabyard/api.ErrFull", laid_slabyard_api_ErrFull), ("slabyard/api.ErrHeld", laid_slabyard_api_ErrHeld), ("slabyard/api.ErrLow", laid_slabyard_api_ErrLow), ("slabyard/api.ErrWait", laid_slabyard_api_ErrWait), ("slabyard/api.ErrStale", laid_slabyard_api_ErrStale), ("slabyard/api.ErrMany", laid_slabyard_api_ErrMany)], narrowed := true }
def FramesSizesUptoSaid : Prop := framesSizesUptoRow.holds Tryd.pinned (OpenSpec.upto framesSizesSpec)

/-- 'slabyardlaw1.FramesBlocks', WHERE WHAT IT READS IS OF BULK AT MOST 1048576: true; the input reads as it did. -/
def framesBlocksUptoRow : OpenClaim := { program := "ytcooflachcimbaadoor", sum := "ad913d94985ad1d04a0bb39db19f2977f2a974827eaed03d377d996a2919747b", func := "slabyard/slabyardlaw1.FramesBlocks", spec := "framesBlocks", inPlace := ["internal/reflectlite.ValueOf", "(internal/reflectlite.Value).Type", "(internal/reflectlite.Value).IsNil", "internal/reflectlite.TypeOf", "(internal/reflectlite.Value).Elem", "(internal/reflectlite.Value).Set"], unfollowed := true, recurses := true, named := ["slabyard/api.ErrNone", "slabyard/api.ErrBound", "slabyard/api.ErrShape", "slabyard/api.ErrText", "slabyard/api.ErrFull", "slabyard/api.ErrHeld", "slabyard/api.ErrLow", "slabyard/api.ErrWait", "slabyard/api.ErrStale", "slabyard/api.ErrMany", "errors.errorType"], apart := false, laid := [("errors.errorType", laid_errors_errorType), ("slabyard/api.ErrText", laid_slabyard_api_ErrText), ("slabyard/api.ErrBound", laid_slabyard_api_ErrBound), ("slabyard/api.ErrShape", laid_slabyard_api_ErrShape), ("slabyard/api.ErrNone", laid_slabyard_api_ErrNone), ("slabyard/api.ErrFull", laid_slabyard_api_ErrFull), ("slabyard/api.ErrHeld", laid_slabyard_api_ErrHeld), ("slabyard/api.ErrLow", laid_slabyard_api_ErrLow), ("slabyard/api.ErrWait", laid_slabyard_api_ErrWait), ("slabyard/api.ErrStale", laid_slabyard_api_ErrStale), ("slabyard/api.ErrMany", laid_slabyard_api_ErrMany)], narrowed := true }
def FramesBlocksUptoSaid : Prop := framesBlocksUptoRow.holds Tryd.pinned (OpenSpec.upto framesBlocksSpec)

/-- 'slabyardlaw1.FramesCover', WHERE WHAT IT READS IS OF BULK AT MOST 1048576: true; the input reads as it did. -/
def framesCoverUptoRow : OpenClaim := { program := "ytcooflachcimbaadoor", sum := "ad913d94985ad1d04a0bb39db19f2977f2a974827eaed03d377d996a2919747b", func := "slabyard/slabyardlaw1.FramesCover", spec := "framesCover", inPlace := ["internal/reflectlite.ValueOf", "(internal/reflectlite.Value).Type", "(internal/reflectlite.Value).IsNil", "internal/reflectlite.TypeOf", "(internal/reflectlite.Value).Elem", "(internal/reflectlite.Value).Set"], unfollowed := true, recurses := true, named := ["slabyard/api.ErrNone", "slabyard/api.ErrBound", "slabyard/api.ErrShape", "slabyard/api.ErrText", "slabyard/api.ErrFull", "slabyard/api.ErrHeld", "slabyard/api.ErrLow", "slabyard/api.ErrWait", "slabyard/api.ErrStale", "slabyard/api.ErrMany", "errors.errorType"], apart := false, laid := [("errors.errorType", laid_errors_errorType), ("slabyard/api.ErrText", laid_slabyard_api_ErrText), ("slabyard/api.ErrBound", laid_slabyard_api_ErrBound), ("slabyard/api.ErrShape", laid_slabyard_api_ErrShape), ("slabyard/api.ErrNone", laid_slabyard_api_ErrNone), ("slabyard/api.ErrFull", laid_slabyard_api_ErrFull), ("slabyard/api.ErrHeld", laid_slabyard_api_ErrHeld), ("slabyard/api.ErrLow", laid_slabyard_api_ErrLow), ("slabyard/api.ErrWait", laid_slabyard_api_ErrWait), ("slabyard/api.ErrStale", laid_slabyard_api_ErrStale), ("slabyard/api.ErrMany", laid_slabyard_api_ErrMany)], narrowed := true }
def FramesCoverUptoSaid : Prop := framesCoverUptoRow.holds Tryd.pinned (OpenSpec.upto framesCoverSpec)

/-- 'slabyardlaw1.BuddyWhole', WHERE WHAT IT READS IS OF BULK AT MOST 1048576: true; the input reads as it did. -/
def buddyWholeUptoRow : OpenClaim := { program := "ytcooflachcimbaadoor", sum := "ad913d94985ad1d04a0bb39db19f2977f2a974827eaed03d377d996a2919747b", func := "slabyard/slabyardlaw1.BuddyWhole", spec := "buddyWhole", unfollowed := true, recurses := true, named := ["slabyard/api.ErrBound", "slabyard/api.ErrFull", "slabyard/api.ErrNone", "slabyard/api.ErrShape"], apart := false, laid := [("slabyard/api.ErrBound", laid_slabyard_api_ErrBound), ("slabyard/api.ErrShape", laid_slabyard_api_ErrShape), ("slabyard/api.ErrNone", laid_slabyard_api_ErrNone), ("slabyard/api.ErrFull", laid_slabyard_api_ErrFull)], narrowed := true }
def BuddyWholeUptoSaid : Prop := buddyWholeUptoRow.holds Tryd.pinned (OpenSpec.upto buddyWholeSpec)

/-- 'slabyardlaw1.BuddyLeft', WHERE WHAT IT READS IS OF BULK AT MOST 1048576: true; the input reads as it did. -/
def buddyLeftUptoRow : OpenClaim := { program := "ytcooflachcimbaadoor", sum := "ad913d94985ad1d04a0bb39db19f2977f2a974827eaed03d377d996a2919747b", func := "slabyard/slabyardlaw1.BuddyLeft", spec := "buddyLeft", inPlace := ["internal/reflectlite.ValueOf", "(internal/reflectlite.Value).Type", "(internal/reflectlite.Value).IsNil", "internal/reflectlite.TypeOf", "(internal/reflectlite.Value).Elem", "(internal/reflectlite.Value).Set"], unfollowed := true, recurses := true, named := ["slabyard/api.ErrBound", "slabyard/api.ErrFull", "slabyard/api.ErrNone", "slabyard/api.ErrShape", "slabyard/api.ErrText", "slabyard/api.ErrHeld", "slabyard/api.ErrLow", "slabyard/api.ErrWait", "slabyard/api.ErrStale", "slabyard/api.ErrMany", "errors.errorType"], apart := false, laid := [("errors.errorType", laid_errors_errorType), ("slabyard/api.ErrText", laid_slabyard_api_ErrText), ("slabyard/api.ErrBound", laid_slabyard_api_ErrBound), ("slabyard/api.ErrShape", laid_slabyard_api_ErrShape), ("slabyard/api.ErrNone", laid_slabyard_api_ErrNone), ("slabyard/api.ErrFull", laid_slabyard_api_ErrFull), ("slabyard/api.ErrHeld", laid_slabyard_api_ErrHeld), ("slabyard/api.ErrLow", laid_slabyard_api_ErrLow), ("slabyard/api.ErrWait", laid_slabyard_api_ErrWait), ("slabyard/api.ErrStale", laid_slabyard_api_ErrStale), ("slabyard/api.ErrMany", laid_slabyard_api_ErrMany)], narrowed := true }
def BuddyLeftUptoSaid : Prop := buddyLeftUptoRow.holds Tryd.pinned (OpenSpec.upto buddyLeftSpec)

/-- 'slabyardlaw1.BuddyActs', WHERE WHAT IT READS IS OF BULK AT MOST 1048576: true; the input reads as it did. -/
def buddyActsUptoRow : OpenClaim := { program := "ytcooflachcimbaadoor", sum := "ad913d94985ad1d04a0bb39db19f2977f2a974827eaed03d377d996a2919747b", func := "slabyard/slabyardlaw1.BuddyActs", spec := "buddyActs", inPlace := ["internal/reflectlite.ValueOf", "(internal/reflectlite.Value).Type", "(internal/reflectlite.Value).IsNil", "internal/reflectlite.TypeOf", "(internal/reflectlite.Value).Elem", "(internal/reflectlite.Value).Set", "maps.clone"], unfollowed := true, recurses := true, named := ["slabyard/api.ErrBound", "slabyard/api.ErrFull", "slabyard/api.ErrNone", "slabyard/api.ErrShape", "slabyard/api.ErrText", "slabyard/api.ErrHeld", "slabyard/api.ErrLow", "slabyard/api.ErrWait", "slabyard/api.ErrStale", "slabyard/api.ErrMany", "errors.errorType"], apart := false, laid := [("errors.errorType", laid_errors_errorType), ("slabyard/api.ErrText", laid_slabyard_api_ErrText), ("slabyard/api.ErrBound", laid_slabyard_api_ErrBound), ("slabyard/api.ErrShape", laid_slabyard_api_ErrShape), ("slabyard/api.ErrNone", laid_slabyard_api_ErrNone), ("slabyard/api.ErrFull", laid_slabyard_api_ErrFull), ("slabyard/api.ErrHeld", laid_slabyard_api_ErrHeld), ("slabyard/api.ErrLow", laid_slabyard_api_ErrLow), ("slabyard/api.ErrWait", laid_slabyard_api_ErrWait), ("slabyard/api.ErrStale", laid_slabyard_api_ErrStale), ("slabyard/api.ErrMany", laid_slabyard_api_ErrMany)], narrowed := true }
def BuddyActsUptoSaid : Prop := buddyActsUptoRow.holds Tryd.pinned (OpenSpec.upto buddyActsSpec)

end Rows
end Go.Proofs.YtcooflachcimbaaDoor
