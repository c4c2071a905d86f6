/-
  DERIVED. GIVEN WITH THE SEED: THE CARDS: each row of YtcokmiidgdmdlaaGreatDoorRows.lean that lists a variable, with what it lists TIED to the program's text (the seventh form; the later family's looks); each row that meets fmt, with fmt's text TOLD by the authors' own Lean function (tested against real Go, not proved from fmt's source: count such statements apart). THE CARD IS WHAT COUNTS. Prove the row's statement (the work); the ties are given (YtcokmiidgdmdlaaGreatDoorTie.lean); close each card by the builder's one call (the guide's Derived/Test/ToyasCard.lean, 'card_holds'). Laid BY PROGRAM, IN A SANDBOX (cutbox-door.mjs). By AI agents, Wed Nov 11 2026. No macro, syntax, notation, axiom, sorry.
-/
import Derived.Test.YtcokmiidgdmdlaaGreatDoorRows
import GoSem.ClaimSeven
namespace Go.Proofs.YtcokmiidgdmdlaaGreatDoor
namespace Rows

/-- THE TIED CARD OF 'slabyardlaw1.ZoneMin'. -/
def zoneMinCard : Claim7 := { stood := { row := zoneMinRow, standIns := [], harness := (true, "4822660aad69a81891606c97e95d9450a5ca2ae7ffa61ac031f33c3a5949c06a"), looks := true }, kinds := [], alts := [], laidByText := true, laidKinds := [.handle, .sentinel, .sentinel, .sentinel, .sentinel, .sentinel, .sentinel, .sentinel, .sentinel, .sentinel, .sentinel], laidTests := true, laidLooks := .later }
def ZoneMinCardSaid : Prop := Claim7.holds Tryz.pinned (.plain (OpenSpec.ofChange zoneMinSpec)) zoneMinCard

/-- THE TIED CARD OF 'slabyardlaw1.ZoneNear'. -/
def zoneNearCard : Claim7 := { stood := { row := zoneNearRow, standIns := [], harness := (true, "4822660aad69a81891606c97e95d9450a5ca2ae7ffa61ac031f33c3a5949c06a"), looks := true }, kinds := [], alts := [], laidByText := true, laidKinds := [.handle, .sentinel, .sentinel, .sentinel, .sentinel, .sentinel, .sentinel, .sentinel, .sentinel, .sentinel, .sentinel], laidTests := true, laidLooks := .later }
def ZoneNearCardSaid : Prop := Claim7.holds Tryz.pinned (.plain (OpenSpec.ofChange zoneNearSpec)) zoneNearCard

/-- THE TIED CARD OF 'slabyardlaw1.ZoneActs'. -/
def zoneActsCard : Claim7 := { stood := { row := zoneActsRow, standIns := [], harness := (true, "4822660aad69a81891606c97e95d9450a5ca2ae7ffa61ac031f33c3a5949c06a"), looks := true }, kinds := [], alts := [], laidByText := true, laidKinds := [.handle, .sentinel, .sentinel, .sentinel, .sentinel, .sentinel, .sentinel, .sentinel, .sentinel, .sentinel, .sentinel], laidTests := true, laidLooks := .later }
def ZoneActsCardSaid : Prop := Claim7.holds Tryz.pinned (.plain (OpenSpec.ofChange zoneActsSpec)) zoneActsCard

/-- THE TIED CARD OF 'slabyardlaw1.MagazineLast'. -/
def magazineLastCard : Claim7 := { stood := { row := magazineLastRow, standIns := [], harness := (true, "4822660aad69a81891606c97e95d9450a5ca2ae7ffa61ac031f33c3a5949c06a"), looks := true }, kinds := [], alts := [], laidByText := true, laidKinds := [.sentinel, .sentinel, .sentinel, .sentinel, .sentinel, .sentinel], laidTests := true, laidLooks := .later }
def MagazineLastCardSaid : Prop := Claim7.holds Tryz.pinned (.plain (OpenSpec.ofChange magazineLastSpec)) magazineLastCard

/-- THE TIED CARD OF 'slabyardlaw1.SlabFull'. -/
def slabFullCard : Claim7 := { stood := { row := slabFullRow, standIns := [], harness := (true, "4822660aad69a81891606c97e95d9450a5ca2ae7ffa61ac031f33c3a5949c06a"), looks := true }, kinds := [], alts := [], laidByText := true, laidKinds := [.handle, .sentinel, .sentinel, .sentinel, .sentinel, .sentinel, .sentinel, .sentinel, .sentinel, .sentinel, .sentinel], laidTests := true, laidLooks := .later }
def SlabFullCardSaid : Prop := Claim7.holds Tryz.pinned (.plain (OpenSpec.ofChange slabFullSpec)) slabFullCard

/-- THE TIED CARD OF 'slabyardlaw1.SlabApart'. -/
def slabApartCard : Claim7 := { stood := { row := slabApartRow, standIns := [], harness := (true, "4822660aad69a81891606c97e95d9450a5ca2ae7ffa61ac031f33c3a5949c06a"), looks := true }, kinds := [], alts := [], laidByText := true, laidKinds := [.handle, .sentinel, .sentinel, .sentinel, .sentinel, .sentinel, .sentinel, .sentinel, .sentinel, .sentinel, .sentinel], laidTests := true, laidLooks := .later }
def SlabApartCardSaid : Prop := Claim7.holds Tryz.pinned (.plain (OpenSpec.ofChange slabApartSpec)) slabApartCard

/-- THE TIED CARD OF 'slabyardlaw1.SlabActs'. -/
def slabActsCard : Claim7 := { stood := { row := slabActsRow, standIns := [], harness := (true, "4822660aad69a81891606c97e95d9450a5ca2ae7ffa61ac031f33c3a5949c06a"), looks := true }, kinds := [], alts := [], laidByText := true, laidKinds := [.handle, .sentinel, .sentinel, .sentinel, .sentinel, .sentinel, .sentinel, .sentinel, .sentinel, .sentinel, .sentinel], laidTests := true, laidLooks := .later }
def SlabActsCardSaid : Prop := Claim7.holds Tryz.pinned (.plain (OpenSpec.ofChange slabActsSpec)) slabActsCard

/-- THE TIED CARD OF 'slabyardlaw1.MagazineOut'. -/
def magazineOutCard : Claim7 := { stood := { row := magazineOutRow, standIns := [], harness := (true, "4822660aad69a81891606c97e95d9450a5ca2ae7ffa61ac031f33c3a5949c06a"), looks := true }, kinds := [], alts := [], laidByText := true, laidKinds := [.handle, .sentinel, .sentinel, .sentinel, .sentinel, .sentinel, .sentinel, .sentinel, .sentinel, .sentinel, .sentinel], laidTests := true, laidLooks := .later }
def MagazineOutCardSaid : Prop := Claim7.holds Tryz.pinned (.plain (OpenSpec.ofChange magazineOutSpec)) magazineOutCard

/-- THE TIED CARD OF 'slabyardlaw1.MagazineActs'. -/
def magazineActsCard : Claim7 := { stood := { row := magazineActsRow, standIns := [], harness := (true, "4822660aad69a81891606c97e95d9450a5ca2ae7ffa61ac031f33c3a5949c06a"), looks := true }, kinds := [], alts := [], laidByText := true, laidKinds := [.handle, .sentinel, .sentinel, .sentinel, .sentinel, .sentinel, .sentinel, .sentinel, .sentinel, .sentinel, .sentinel], laidTests := true, laidLooks := .later }
def MagazineActsCardSaid : Prop := Claim7.holds Tryz.pinned (.plain (OpenSpec.ofChange magazineActsSpec)) magazineActsCard

/-- THE SECOND FORM's CARD OF 'slabyardlaw1.ZoneMin'. -/
def zoneMinUptoCard : Claim7 := { stood := { row := zoneMinUptoRow, standIns := [], harness := (true, "4822660aad69a81891606c97e95d9450a5ca2ae7ffa61ac031f33c3a5949c06a"), looks := true }, kinds := [], alts := [], laidByText := true, laidKinds := [.handle, .sentinel, .sentinel, .sentinel, .sentinel, .sentinel, .sentinel, .sentinel, .sentinel, .sentinel, .sentinel], laidTests := true, laidLooks := .later }
def ZoneMinUptoCardSaid : Prop := Claim7.holds Tryz.pinned (.plain (OpenSpec.upto zoneMinSpec)) zoneMinUptoCard

/-- THE SECOND FORM's CARD OF 'slabyardlaw1.ZoneNear'. -/
def zoneNearUptoCard : Claim7 := { stood := { row := zoneNearUptoRow, standIns := [], harness := (true, "4822660aad69a81891606c97e95d9450a5ca2ae7ffa61ac031f33c3a5949c06a"), looks := true }, kinds := [], alts := [], laidByText := true, laidKinds := [.handle, .sentinel, .sentinel, .sentinel, .sentinel, .sentinel, .sentinel, .sentinel, .sentinel, .sentinel, .sentinel], laidTests := true, laidLooks := .later }
def ZoneNearUptoCardSaid : Prop := Claim7.holds Tryz.pinned (.plain (OpenSpec.upto zoneNearSpec)) zoneNearUptoCard

/-- THE SECOND FORM's CARD OF 'slabyardlaw1.ZoneActs'. -/
def zoneActsUptoCard : Claim7 := { stood := { row := zoneActsUptoRow, standIns := [], harness := (true, "4822660aad69a81891606c97e95d9450a5ca2ae7ffa61ac031f33c3a5949c06a"), looks := true }, kinds := [], alts := [], laidByText := true, laidKinds := [.handle, .sentinel, .sentinel, .sentinel, .sentinel, .sentinel, .sentinel, .sentinel, .sentinel, .sentinel, .sentinel], laidTests := true, laidLooks := .later }
def ZoneActsUptoCardSaid : Prop := Claim7.holds Tryz.pinned (.plain (OpenSpec.upto zoneActsSpec)) zoneActsUptoCard

/-- THE SECOND FORM's CARD OF 'slabyardlaw1.MagazineLast'. -/
def magazineLastUptoCard : Claim7 := { stood := { row := magazineLastUptoRow, standIns := [], harness := (true, "4822660aad69a81891606c97e95d9450a5ca2ae7ffa61ac031f33c3a5949c06a"), looks := true }, kinds := [], alts := [], laidByText := true, laidKinds := [.sentinel, .sentinel, .sentinel, .sentinel, .sentinel, .sentinel], laidTests := true, laidLooks := .later }
def MagazineLastUptoCardSaid : Prop := Claim7.holds Tryz.pinned (.plain (OpenSpec.upto magazineLastSpec)) magazineLastUptoCard

/-- THE SECOND FORM's CARD OF 'slabyardlaw1.SlabFull'. -/
def slabFullUptoCard : Claim7 := { stood := { row := slabFullUptoRow, standIns := [], harness := (true, "4822660aad69a81891606c97e95d9450a5ca2ae7ffa61ac031f33c3a5949c06a"), looks := true }, kinds := [], alts := [], laidByText := true, laidKinds := [.handle, .sentinel, .sentinel, .sentinel, .sentinel, .sentinel, .sentinel, .sentinel, .sentinel, .sentinel, .sentinel], laidTests := true, laidLooks := .later }
def SlabFullUptoCardSaid : Prop := Claim7.holds Tryz.pinned (.plain (OpenSpec.upto slabFullSpec)) slabFullUptoCard

/-- THE SECOND FORM's CARD OF 'slabyardlaw1.SlabApart'. -/
def slabApartUptoCard : Claim7 := { stood := { row := slabApartUptoRow, standIns := [], harness := (true, "4822660aad69a81891606c97e95d9450a5ca2ae7ffa61ac031f33c3a5949c06a"), looks := true }, kinds := [], alts := [], laidByText := true, laidKinds := [.handle, .sentinel, .sentinel, .sentinel, .sentinel, .sentinel, .sentinel, .sentinel, .sentinel, .sentinel, .sentinel], laidTests := true, laidLooks := .later }
def SlabApartUptoCardSaid : Prop := Claim7.holds Tryz.pinned (.plain (OpenSpec.upto slabApartSpec)) slabApartUptoCard

/-- THE SECOND FORM's CARD OF 'slabyardlaw1.SlabActs'. -/
def slabActsUptoCard : Claim7 := { stood := { row := slabActsUptoRow, standIns := [], harness := (true, "4822660aad69a81891606c97e95d9450a5ca2ae7ffa61ac031f33c3a5949c06a"), looks := true }, kinds := [], alts := [], laidByText := true, laidKinds := [.handle, .sentinel, .sentinel, .sentinel, .sentinel, .sentinel, .sentinel, .sentinel, .sentinel, .sentinel, .sentinel], laidTests := true, laidLooks := .later }
def SlabActsUptoCardSaid : Prop := Claim7.holds Tryz.pinned (.plain (OpenSpec.upto slabActsSpec)) slabActsUptoCard

/-- THE SECOND FORM's CARD OF 'slabyardlaw1.MagazineOut'. -/
def magazineOutUptoCard : Claim7 := { stood := { row := magazineOutUptoRow, standIns := [], harness := (true, "4822660aad69a81891606c97e95d9450a5ca2ae7ffa61ac031f33c3a5949c06a"), looks := true }, kinds := [], alts := [], laidByText := true, laidKinds := [.handle, .sentinel, .sentinel, .sentinel, .sentinel, .sentinel, .sentinel, .sentinel, .sentinel, .sentinel, .sentinel], laidTests := true, laidLooks := .later }
def MagazineOutUptoCardSaid : Prop := Claim7.holds Tryz.pinned (.plain (OpenSpec.upto magazineOutSpec)) magazineOutUptoCard

/-- THE SECOND FORM's CARD OF 'slabyardlaw1.MagazineActs'. -/
def magazineActsUptoCard : Claim7 := { stood := { row := magazineActsUptoRow, standIns := [], harness := (true, "4822660aad69a81891606c97e95d9450a5ca2ae7ffa61ac031f33c3a5949c06a"), looks := true }, kinds := [], alts := [], laidByText := true, laidKinds := [.handle, .sentinel, .sentinel, .sentinel, .sentinel, .sentinel, .sentinel, .sentinel, .sentinel, .sentinel, .sentinel], laidTests := true, laidLooks := .later }
def MagazineActsUptoCardSaid : Prop := Claim7.holds Tryz.pinned (.plain (OpenSpec.upto magazineActsSpec)) magazineActsUptoCard
end Rows
end Go.Proofs.YtcokmiidgdmdlaaGreatDoor
