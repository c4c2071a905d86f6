/-
  DERIVED. GIVEN WITH THE SEED: THE CARDS: each row of YtigginpcokfihaaGreatDoorRows.lean that lists a variable, with what it lists TIED to the program's text (the seventh form; the later family's looks); each row that meets fmt, with fmt's text TOLD by the authors' own Lean function (tested against real Go, not proved from fmt's source: count such statements apart). THE CARD IS WHAT COUNTS. Prove the row's statement (the work); the ties are given (YtigginpcokfihaaGreatDoorTie.lean); close each card by the builder's one call (the guide's Derived/Test/ToyasCard.lean, 'card_holds'). Laid BY PROGRAM, IN A SANDBOX (cutbox-door.mjs). By AI agents, Wed Nov 11 2026. No macro, syntax, notation, axiom, sorry.
-/
import Derived.Test.YtigginpcokfihaaGreatDoorRows
import GoSem.ClaimSeven
namespace Go.Proofs.YtigginpcokfihaaGreatDoor
namespace Rows

/-- THE TIED CARD OF 'slabyardlaw1.ZoneMin'. -/
def zoneMinCard : Claim7 := { stood := { row := zoneMinRow, standIns := [], harness := (true, "5a6c0468c8022e8b118474ed90461b453bd3fc7e6a65034cf09d2db2a21a7586"), looks := true }, kinds := [], alts := [], laidByText := true, laidKinds := [.handle, .sentinel, .sentinel, .sentinel, .sentinel, .sentinel, .sentinel, .sentinel, .sentinel, .sentinel, .sentinel], laidTests := true, laidLooks := .later }
def ZoneMinCardSaid : Prop := Claim7.holds Tryz.pinned (.plain (OpenSpec.ofChange zoneMinSpec)) zoneMinCard

/-- THE TIED CARD OF 'slabyardlaw1.ZoneNear'. -/
def zoneNearCard : Claim7 := { stood := { row := zoneNearRow, standIns := [], harness := (true, "5a6c0468c8022e8b118474ed90461b453bd3fc7e6a65034cf09d2db2a21a7586"), looks := true }, kinds := [], alts := [], laidByText := true, laidKinds := [.handle, .sentinel, .sentinel, .sentinel, .sentinel, .sentinel, .sentinel, .sentinel, .sentinel, .sentinel, .sentinel], laidTests := true, laidLooks := .later }
def ZoneNearCardSaid : Prop := Claim7.holds Tryz.pinned (.plain (OpenSpec.ofChange zoneNearSpec)) zoneNearCard

/-- THE TIED CARD OF 'slabyardlaw1.ZoneActs'. -/
def zoneActsCard : Claim7 := { stood := { row := zoneActsRow, standIns := [], harness := (true, "5a6c0468c8022e8b118474ed90461b453bd3fc7e6a65034cf09d2db2a21a7586"), looks := true }, kinds := [], alts := [], laidByText := true, laidKinds := [.handle, .sentinel, .sentinel, .sentinel, .sentinel, .sentinel, .sentinel, .sentinel, .sentinel, .sentinel, .sentinel], laidTests := true, laidLooks := .later }
def ZoneActsCardSaid : Prop := Claim7.holds Tryz.pinned (.plain (OpenSpec.ofChange zoneActsSpec)) zoneActsCard

/-- THE SECOND FORM's CARD OF 'slabyardlaw1.ZoneMin'. -/
def zoneMinUptoCard : Claim7 := { stood := { row := zoneMinUptoRow, standIns := [], harness := (true, "5a6c0468c8022e8b118474ed90461b453bd3fc7e6a65034cf09d2db2a21a7586"), looks := true }, kinds := [], alts := [], laidByText := true, laidKinds := [.handle, .sentinel, .sentinel, .sentinel, .sentinel, .sentinel, .sentinel, .sentinel, .sentinel, .sentinel, .sentinel], laidTests := true, laidLooks := .later }
def ZoneMinUptoCardSaid : Prop := Claim7.holds Tryz.pinned (.plain (OpenSpec.upto zoneMinSpec)) zoneMinUptoCard

/-- THE SECOND FORM's CARD OF 'slabyardlaw1.ZoneNear'. -/
def zoneNearUptoCard : Claim7 := { stood := { row := zoneNearUptoRow, standIns := [], harness := (true, "5a6c0468c8022e8b118474ed90461b453bd3fc7e6a65034cf09d2db2a21a7586"), looks := true }, kinds := [], alts := [], laidByText := true, laidKinds := [.handle, .sentinel, .sentinel, .sentinel, .sentinel, .sentinel, .sentinel, .sentinel, .sentinel, .sentinel, .sentinel], laidTests := true, laidLooks := .later }
def ZoneNearUptoCardSaid : Prop := Claim7.holds Tryz.pinned (.plain (OpenSpec.upto zoneNearSpec)) zoneNearUptoCard

/-- THE SECOND FORM's CARD OF 'slabyardlaw1.ZoneActs'. -/
def zoneActsUptoCard : Claim7 := { stood := { row := zoneActsUptoRow, standIns := [], harness := (true, "5a6c0468c8022e8b118474ed90461b453bd3fc7e6a65034cf09d2db2a21a7586"), looks := true }, kinds := [], alts := [], laidByText := true, laidKinds := [.handle, .sentinel, .sentinel, .sentinel, .sentinel, .sentinel, .sentinel, .sentinel, .sentinel, .sentinel, .sentinel], laidTests := true, laidLooks := .later }
def ZoneActsUptoCardSaid : Prop := Claim7.holds Tryz.pinned (.plain (OpenSpec.upto zoneActsSpec)) zoneActsUptoCard
end Rows
end Go.Proofs.YtigginpcokfihaaGreatDoor
