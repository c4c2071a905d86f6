/-
  DERIVED. GIVEN WITH THE SEED: THE CARDS: each row of YtcooflachcimbaaDoorRows.lean that lists a variable, with what it lists TIED to the program's text (the seventh form; the later family's looks); each row that meets fmt, with fmt's text TOLD by the authors' own Lean function (tested against real Go, not proved from fmt's source: count such statements apart). THE CARD IS WHAT COUNTS. Prove the row's statement (the work); the ties are given (YtcooflachcimbaaDoorTie.lean); close each card by the builder's one call (the guide's Derived/Test/ToyasCard.lean, 'card_holds'). Laid BY PROGRAM, IN A SANDBOX (cutbox-door.mjs). By AI agents, Wed Nov 11 2026. No macro, syntax, notation, axiom, sorry.
-/
import Derived.Test.YtcooflachcimbaaDoorRows
import GoSem.ClaimSeven
namespace Go.Proofs.YtcooflachcimbaaDoor
namespace Rows

/-- THE TIED CARD OF 'slabyardlaw1.FramesTwice'. -/
def framesTwiceCard : Claim7 := { stood := { row := framesTwiceRow, standIns := [], harness := (true, "0fe0999b02bd47b34f51d666ec23a5f012babd7a74bca2e740207f25a99183a6"), looks := true }, kinds := [], alts := [], laidByText := true, laidKinds := [.sentinel, .sentinel, .sentinel], laidTests := true, laidLooks := .later }
def FramesTwiceCardSaid : Prop := Claim7.holds Tryd.pinned (.plain (OpenSpec.ofChange framesTwiceSpec)) framesTwiceCard

/-- THE TIED CARD OF 'slabyardlaw1.Names'. -/
def namesCard : Claim7 := { stood := { row := namesRow, standIns := [], harness := (true, "0fe0999b02bd47b34f51d666ec23a5f012babd7a74bca2e740207f25a99183a6"), looks := true }, kinds := [], alts := [], laidByText := true, laidKinds := [.handle, .sentinel, .sentinel, .sentinel, .sentinel, .sentinel, .sentinel, .sentinel, .sentinel, .sentinel, .sentinel], laidTests := true, laidLooks := .later }
def NamesCardSaid : Prop := Claim7.holds Tryd.pinned (.plain (OpenSpec.ofChange namesSpec)) namesCard

/-- THE TIED CARD OF 'slabyardlaw1.FramesSizes'. -/
def framesSizesCard : Claim7 := { stood := { row := framesSizesRow, standIns := [], harness := (true, "0fe0999b02bd47b34f51d666ec23a5f012babd7a74bca2e740207f25a99183a6"), looks := true }, kinds := [], alts := [], laidByText := true, laidKinds := [.handle, .sentinel, .sentinel, .sentinel, .sentinel, .sentinel, .sentinel, .sentinel, .sentinel, .sentinel, .sentinel], laidTests := true, laidLooks := .later }
def FramesSizesCardSaid : Prop := Claim7.holds Tryd.pinned (.plain (OpenSpec.ofChange framesSizesSpec)) framesSizesCard

/-- THE TIED CARD OF 'slabyardlaw1.FramesBlocks'. -/
def framesBlocksCard : Claim7 := { stood := { row := framesBlocksRow, standIns := [], harness := (true, "0fe0999b02bd47b34f51d666ec23a5f012babd7a74bca2e740207f25a99183a6"), looks := true }, kinds := [], alts := [], laidByText := true, laidKinds := [.handle, .sentinel, .sentinel, .sentinel, .sentinel, .sentinel, .sentinel, .sentinel, .sentinel, .sentinel, .sentinel], laidTests := true, laidLooks := .later }
def FramesBlocksCardSaid : Prop := Claim7.holds Tryd.pinned (.plain (OpenSpec.ofChange framesBlocksSpec)) framesBlocksCard

/-- THE TIED CARD OF 'slabyardlaw1.FramesCover'. -/
def framesCoverCard : Claim7 := { stood := { row := framesCoverRow, standIns := [], harness := (true, "0fe0999b02bd47b34f51d666ec23a5f012babd7a74bca2e740207f25a99183a6"), looks := true }, kinds := [], alts := [], laidByText := true, laidKinds := [.handle, .sentinel, .sentinel, .sentinel, .sentinel, .sentinel, .sentinel, .sentinel, .sentinel, .sentinel, .sentinel], laidTests := true, laidLooks := .later }
def FramesCoverCardSaid : Prop := Claim7.holds Tryd.pinned (.plain (OpenSpec.ofChange framesCoverSpec)) framesCoverCard

/-- THE TIED CARD OF 'slabyardlaw1.BuddyWhole'. -/
def buddyWholeCard : Claim7 := { stood := { row := buddyWholeRow, standIns := [], harness := (true, "0fe0999b02bd47b34f51d666ec23a5f012babd7a74bca2e740207f25a99183a6"), looks := true }, kinds := [], alts := [], laidByText := true, laidKinds := [.sentinel, .sentinel, .sentinel, .sentinel], laidTests := true, laidLooks := .later }
def BuddyWholeCardSaid : Prop := Claim7.holds Tryd.pinned (.plain (OpenSpec.ofChange buddyWholeSpec)) buddyWholeCard

/-- THE TIED CARD OF 'slabyardlaw1.BuddyLeft'. -/
def buddyLeftCard : Claim7 := { stood := { row := buddyLeftRow, standIns := [], harness := (true, "0fe0999b02bd47b34f51d666ec23a5f012babd7a74bca2e740207f25a99183a6"), looks := true }, kinds := [], alts := [], laidByText := true, laidKinds := [.handle, .sentinel, .sentinel, .sentinel, .sentinel, .sentinel, .sentinel, .sentinel, .sentinel, .sentinel, .sentinel], laidTests := true, laidLooks := .later }
def BuddyLeftCardSaid : Prop := Claim7.holds Tryd.pinned (.plain (OpenSpec.ofChange buddyLeftSpec)) buddyLeftCard

/-- THE TIED CARD OF 'slabyardlaw1.BuddyActs'. -/
def buddyActsCard : Claim7 := { stood := { row := buddyActsRow, standIns := [], harness := (true, "0fe0999b02bd47b34f51d666ec23a5f012babd7a74bca2e740207f25a99183a6"), looks := true }, kinds := [], alts := [], laidByText := true, laidKinds := [.handle, .sentinel, .sentinel, .sentinel, .sentinel, .sentinel, .sentinel, .sentinel, .sentinel, .sentinel, .sentinel], laidTests := true, laidLooks := .later }
def BuddyActsCardSaid : Prop := Claim7.holds Tryd.pinned (.plain (OpenSpec.ofChange buddyActsSpec)) buddyActsCard

/-- THE SECOND FORM's CARD OF 'slabyardlaw1.FramesTwice'. -/
def framesTwiceUptoCard : Claim7 := { stood := { row := framesTwiceUptoRow, standIns := [], harness := (true, "0fe0999b02bd47b34f51d666ec23a5f012babd7a74bca2e740207f25a99183a6"), looks := true }, kinds := [], alts := [], laidByText := true, laidKinds := [.sentinel, .sentinel, .sentinel], laidTests := true, laidLooks := .later }
def FramesTwiceUptoCardSaid : Prop := Claim7.holds Tryd.pinned (.plain (OpenSpec.upto framesTwiceSpec)) framesTwiceUptoCard

/-- THE SECOND FORM's CARD OF 'slabyardlaw1.Names'. -/
def namesUptoCard : Claim7 := { stood := { row := namesUptoRow, standIns := [], harness := (true, "0fe0999b02bd47b34f51d666ec23a5f012babd7a74bca2e740207f25a99183a6"), looks := true }, kinds := [], alts := [], laidByText := true, laidKinds := [.handle, .sentinel, .sentinel, .sentinel, .sentinel, .sentinel, .sentinel, .sentinel, .sentinel, .sentinel, .sentinel], laidTests := true, laidLooks := .later }
def NamesUptoCardSaid : Prop := Claim7.holds Tryd.pinned (.plain (OpenSpec.upto namesSpec)) namesUptoCard

/-- THE SECOND FORM's CARD OF 'slabyardlaw1.FramesSizes'. -/
def framesSizesUptoCard : Claim7 := { stood := { row := framesSizesUptoRow, standIns := [], harness := (true, "0fe0999b02bd47b34f51d666ec23a5f012babd7a74bca2e740207f25a99183a6"), looks := true }, kinds := [], alts := [], laidByText := true, laidKinds := [.handle, .sentinel, .sentinel, .sentinel, .sentinel, .sentinel, .sentinel, .sentinel, .sentinel, .sentinel, .sentinel], laidTests := true, laidLooks := .later }
def FramesSizesUptoCardSaid : Prop := Claim7.holds Tryd.pinned (.plain (OpenSpec.upto framesSizesSpec)) framesSizesUptoCard

/-- THE SECOND FORM's CARD OF 'slabyardlaw1.FramesBlocks'. -/
def framesBlocksUptoCard : Claim7 := { stood := { row := framesBlocksUptoRow, standIns := [], harness := (true, "0fe0999b02bd47b34f51d666ec23a5f012babd7a74bca2e740207f25a99183a6"), looks := true }, kinds := [], alts := [], laidByText := true, laidKinds := [.handle, .sentinel, .sentinel, .sentinel, .sentinel, .sentinel, .sentinel, .sentinel, .sentinel, .sentinel, .sentinel], laidTests := true, laidLooks := .later }
def FramesBlocksUptoCardSaid : Prop := Claim7.holds Tryd.pinned (.plain (OpenSpec.upto framesBlocksSpec)) framesBlocksUptoCard

/-- THE SECOND FORM's CARD OF 'slabyardlaw1.FramesCover'. -/
def framesCoverUptoCard : Claim7 := { stood := { row := framesCoverUptoRow, standIns := [], harness := (true, "0fe0999b02bd47b34f51d666ec23a5f012babd7a74bca2e740207f25a99183a6"), looks := true }, kinds := [], alts := [], laidByText := true, laidKinds := [.handle, .sentinel, .sentinel, .sentinel, .sentinel, .sentinel, .sentinel, .sentinel, .sentinel, .sentinel, .sentinel], laidTests := true, laidLooks := .later }
def FramesCoverUptoCardSaid : Prop := Claim7.holds Tryd.pinned (.plain (OpenSpec.upto framesCoverSpec)) framesCoverUptoCard

/-- THE SECOND FORM's CARD OF 'slabyardlaw1.BuddyWhole'. -/
def buddyWholeUptoCard : Claim7 := { stood := { row := buddyWholeUptoRow, standIns := [], harness := (true, "0fe0999b02bd47b34f51d666ec23a5f012babd7a74bca2e740207f25a99183a6"), looks := true }, kinds := [], alts := [], laidByText := true, laidKinds := [.sentinel, .sentinel, .sentinel, .sentinel], laidTests := true, laidLooks := .later }
def BuddyWholeUptoCardSaid : Prop := Claim7.holds Tryd.pinned (.plain (OpenSpec.upto buddyWholeSpec)) buddyWholeUptoCard

/-- THE SECOND FORM's CARD OF 'slabyardlaw1.BuddyLeft'. -/
def buddyLeftUptoCard : Claim7 := { stood := { row := buddyLeftUptoRow, standIns := [], harness := (true, "0fe0999b02bd47b34f51d666ec23a5f012babd7a74bca2e740207f25a99183a6"), looks := true }, kinds := [], alts := [], laidByText := true, laidKinds := [.handle, .sentinel, .sentinel, .sentinel, .sentinel, .sentinel, .sentinel, .sentinel, .sentinel, .sentinel, .sentinel], laidTests := true, laidLooks := .later }
def BuddyLeftUptoCardSaid : Prop := Claim7.holds Tryd.pinned (.plain (OpenSpec.upto buddyLeftSpec)) buddyLeftUptoCard

/-- THE SECOND FORM's CARD OF 'slabyardlaw1.BuddyActs'. -/
def buddyActsUptoCard : Claim7 := { stood := { row := buddyActsUptoRow, standIns := [], harness := (true, "0fe0999b02bd47b34f51d666ec23a5f012babd7a74bca2e740207f25a99183a6"), looks := true }, kinds := [], alts := [], laidByText := true, laidKinds := [.handle, .sentinel, .sentinel, .sentinel, .sentinel, .sentinel, .sentinel, .sentinel, .sentinel, .sentinel, .sentinel], laidTests := true, laidLooks := .later }
def BuddyActsUptoCardSaid : Prop := Claim7.holds Tryd.pinned (.plain (OpenSpec.upto buddyActsSpec)) buddyActsUptoCard
end Rows
end Go.Proofs.YtcooflachcimbaaDoor
