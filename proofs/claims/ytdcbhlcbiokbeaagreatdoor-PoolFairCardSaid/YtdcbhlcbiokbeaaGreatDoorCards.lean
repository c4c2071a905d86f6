/-
  DERIVED. GIVEN WITH THE SEED: THE CARDS: each row of YtdcbhlcbiokbeaaGreatDoorRows.lean that lists a variable, with what it lists TIED to the program's text (the seventh form; the later family's looks); each row that meets fmt, with fmt's text TOLD by the authors' own Lean function (tested against real Go, not proved from fmt's source: count such statements apart). THE CARD IS WHAT COUNTS. Prove the row's statement (the work); the ties are given (YtdcbhlcbiokbeaaGreatDoorTie.lean); close each card by the builder's one call (the guide's Derived/Test/ToyasCard.lean, 'card_holds'). Laid BY PROGRAM, IN A SANDBOX (cutbox-door.mjs). By AI agents, Wed Nov 11 2026. No macro, syntax, notation, axiom, sorry.
-/
import Derived.Test.YtdcbhlcbiokbeaaGreatDoorRows
import GoSem.ClaimSeven
namespace Go.Proofs.YtdcbhlcbiokbeaaGreatDoor
namespace Rows

/-- THE TIED CARD OF 'slabyardlaw1.SlabActs'. -/
def slabActsCard : Claim7 := { stood := { row := slabActsRow, standIns := [], harness := (true, "f1bcbf6e1da75e4cb9433a50f61085cdce543982c64852ed91ad6647b8913030"), looks := true }, kinds := [], alts := [], laidByText := true, laidKinds := [.handle, .sentinel, .sentinel, .sentinel, .sentinel, .sentinel, .sentinel, .sentinel, .sentinel, .sentinel, .sentinel], laidTests := true, laidLooks := .later }
def SlabActsCardSaid : Prop := Claim7.holds Tryz.pinned (.plain (OpenSpec.ofChange slabActsSpec)) slabActsCard

/-- THE TIED CARD OF 'slabyardlaw1.MagazineActs'. -/
def magazineActsCard : Claim7 := { stood := { row := magazineActsRow, standIns := [], harness := (true, "f1bcbf6e1da75e4cb9433a50f61085cdce543982c64852ed91ad6647b8913030"), looks := true }, kinds := [], alts := [], laidByText := true, laidKinds := [.handle, .sentinel, .sentinel, .sentinel, .sentinel, .sentinel, .sentinel, .sentinel, .sentinel, .sentinel, .sentinel], laidTests := true, laidLooks := .later }
def MagazineActsCardSaid : Prop := Claim7.holds Tryz.pinned (.plain (OpenSpec.ofChange magazineActsSpec)) magazineActsCard

/-- THE TIED CARD OF 'slabyardlaw2.PoolFair'. -/
def poolFairCard : Claim7 := { stood := { row := poolFairRow, standIns := [], harness := (true, "f1bcbf6e1da75e4cb9433a50f61085cdce543982c64852ed91ad6647b8913030"), looks := true }, kinds := [], alts := [], laidByText := true, laidKinds := [.handle, .sentinel, .sentinel, .sentinel, .sentinel, .sentinel, .sentinel, .sentinel, .sentinel, .sentinel, .sentinel], laidTests := true, laidLooks := .later }
def PoolFairCardSaid : Prop := Claim7.holds Tryz.pinned (.plain (OpenSpec.ofChange poolFairSpec)) poolFairCard

/-- THE TIED CARD OF 'slabyardlaw3.ReclaimWhole'. -/
def reclaimWholeCard : Claim7 := { stood := { row := reclaimWholeRow, standIns := [], harness := (true, "f1bcbf6e1da75e4cb9433a50f61085cdce543982c64852ed91ad6647b8913030"), looks := true }, kinds := [], alts := [], laidByText := true, laidKinds := [.sentinel, .sentinel, .sentinel, .sentinel, .sentinel, .sentinel], laidTests := true, laidLooks := .later }
def ReclaimWholeCardSaid : Prop := Claim7.holds Tryz.pinned (.plain (OpenSpec.ofChange reclaimWholeSpec)) reclaimWholeCard

/-- THE TIED CARD OF 'slabyardlaw2.PoolActs'. -/
def poolActsCard : Claim7 := { stood := { row := poolActsRow, standIns := [], harness := (true, "f1bcbf6e1da75e4cb9433a50f61085cdce543982c64852ed91ad6647b8913030"), looks := true }, kinds := [], alts := [], laidByText := true, laidKinds := [.handle, .sentinel, .sentinel, .sentinel, .sentinel, .sentinel, .sentinel, .sentinel, .sentinel, .sentinel, .sentinel], laidTests := true, laidLooks := .later }
def PoolActsCardSaid : Prop := Claim7.holds Tryz.pinned (.plain (OpenSpec.ofChange poolActsSpec)) poolActsCard

/-- THE TIED CARD OF 'slabyardlaw2.BufferClones'. -/
def bufferClonesCard : Claim7 := { stood := { row := bufferClonesRow, standIns := [], harness := (true, "f1bcbf6e1da75e4cb9433a50f61085cdce543982c64852ed91ad6647b8913030"), looks := true }, kinds := [], alts := [], laidByText := true, laidKinds := [.sentinel, .sentinel, .sentinel, .sentinel, .sentinel, .sentinel, .sentinel, .sentinel, .sentinel], laidTests := true, laidLooks := .later }
def BufferClonesCardSaid : Prop := Claim7.holds Tryz.pinned (.plain (OpenSpec.ofChange bufferClonesSpec)) bufferClonesCard

/-- THE TIED CARD OF 'slabyardlaw2.StoreGone'. -/
def storeGoneCard : Claim7 := { stood := { row := storeGoneRow, standIns := [], harness := (true, "f1bcbf6e1da75e4cb9433a50f61085cdce543982c64852ed91ad6647b8913030"), looks := true }, kinds := [], alts := [], laidByText := true, laidKinds := [.handle, .sentinel, .sentinel, .sentinel, .sentinel, .sentinel, .sentinel, .sentinel, .sentinel, .sentinel, .sentinel], laidTests := true, laidLooks := .later }
def StoreGoneCardSaid : Prop := Claim7.holds Tryz.pinned (.plain (OpenSpec.ofChange storeGoneSpec)) storeGoneCard

/-- THE TIED CARD OF 'slabyardlaw2.StoreShared'. -/
def storeSharedCard : Claim7 := { stood := { row := storeSharedRow, standIns := [], harness := (true, "f1bcbf6e1da75e4cb9433a50f61085cdce543982c64852ed91ad6647b8913030"), looks := true }, kinds := [], alts := [], laidByText := true, laidKinds := [.handle, .sentinel, .sentinel, .sentinel, .sentinel, .sentinel, .sentinel, .sentinel, .sentinel, .sentinel, .sentinel], laidTests := true, laidLooks := .later }
def StoreSharedCardSaid : Prop := Claim7.holds Tryz.pinned (.plain (OpenSpec.ofChange storeSharedSpec)) storeSharedCard

/-- THE TIED CARD OF 'slabyardlaw2.StoreActs'. -/
def storeActsCard : Claim7 := { stood := { row := storeActsRow, standIns := [], harness := (true, "f1bcbf6e1da75e4cb9433a50f61085cdce543982c64852ed91ad6647b8913030"), looks := true }, kinds := [], alts := [], laidByText := true, laidKinds := [.handle, .sentinel, .sentinel, .sentinel, .sentinel, .sentinel, .sentinel, .sentinel, .sentinel, .sentinel, .sentinel], laidTests := true, laidLooks := .later }
def StoreActsCardSaid : Prop := Claim7.holds Tryz.pinned (.plain (OpenSpec.ofChange storeActsSpec)) storeActsCard

/-- THE TIED CARD OF 'slabyardlaw2.BufferApart'. -/
def bufferApartCard : Claim7 := { stood := { row := bufferApartRow, standIns := [], harness := (true, "f1bcbf6e1da75e4cb9433a50f61085cdce543982c64852ed91ad6647b8913030"), looks := true }, kinds := [], alts := [], laidByText := true, laidKinds := [.sentinel, .sentinel, .sentinel, .sentinel, .sentinel, .sentinel, .sentinel, .sentinel, .sentinel], laidTests := true, laidLooks := .later }
def BufferApartCardSaid : Prop := Claim7.holds Tryz.pinned (.plain (OpenSpec.ofChange bufferApartSpec)) bufferApartCard

/-- THE TIED CARD OF 'slabyardlaw3.ReclaimEnough'. -/
def reclaimEnoughCard : Claim7 := { stood := { row := reclaimEnoughRow, standIns := [], harness := (true, "f1bcbf6e1da75e4cb9433a50f61085cdce543982c64852ed91ad6647b8913030"), looks := true }, kinds := [], alts := [], laidByText := true, laidKinds := [.handle, .sentinel, .sentinel, .sentinel, .sentinel, .sentinel, .sentinel, .sentinel, .sentinel, .sentinel, .sentinel], laidTests := true, laidLooks := .later }
def ReclaimEnoughCardSaid : Prop := Claim7.holds Tryz.pinned (.plain (OpenSpec.ofChange reclaimEnoughSpec)) reclaimEnoughCard

/-- THE TIED CARD OF 'slabyardlaw3.ReclaimActs'. -/
def reclaimActsCard : Claim7 := { stood := { row := reclaimActsRow, standIns := [], harness := (true, "f1bcbf6e1da75e4cb9433a50f61085cdce543982c64852ed91ad6647b8913030"), looks := true }, kinds := [], alts := [], laidByText := true, laidKinds := [.handle, .sentinel, .sentinel, .sentinel, .sentinel, .sentinel, .sentinel, .sentinel, .sentinel, .sentinel, .sentinel], laidTests := true, laidLooks := .later }
def ReclaimActsCardSaid : Prop := Claim7.holds Tryz.pinned (.plain (OpenSpec.ofChange reclaimActsSpec)) reclaimActsCard

/-- THE SECOND FORM's CARD OF 'slabyardlaw1.SlabActs'. -/
def slabActsUptoCard : Claim7 := { stood := { row := slabActsUptoRow, standIns := [], harness := (true, "f1bcbf6e1da75e4cb9433a50f61085cdce543982c64852ed91ad6647b8913030"), looks := true }, kinds := [], alts := [], laidByText := true, laidKinds := [.handle, .sentinel, .sentinel, .sentinel, .sentinel, .sentinel, .sentinel, .sentinel, .sentinel, .sentinel, .sentinel], laidTests := true, laidLooks := .later }
def SlabActsUptoCardSaid : Prop := Claim7.holds Tryz.pinned (.plain (OpenSpec.upto slabActsSpec)) slabActsUptoCard

/-- THE SECOND FORM's CARD OF 'slabyardlaw1.MagazineActs'. -/
def magazineActsUptoCard : Claim7 := { stood := { row := magazineActsUptoRow, standIns := [], harness := (true, "f1bcbf6e1da75e4cb9433a50f61085cdce543982c64852ed91ad6647b8913030"), looks := true }, kinds := [], alts := [], laidByText := true, laidKinds := [.handle, .sentinel, .sentinel, .sentinel, .sentinel, .sentinel, .sentinel, .sentinel, .sentinel, .sentinel, .sentinel], laidTests := true, laidLooks := .later }
def MagazineActsUptoCardSaid : Prop := Claim7.holds Tryz.pinned (.plain (OpenSpec.upto magazineActsSpec)) magazineActsUptoCard

/-- THE SECOND FORM's CARD OF 'slabyardlaw2.PoolFair'. -/
def poolFairUptoCard : Claim7 := { stood := { row := poolFairUptoRow, standIns := [], harness := (true, "f1bcbf6e1da75e4cb9433a50f61085cdce543982c64852ed91ad6647b8913030"), looks := true }, kinds := [], alts := [], laidByText := true, laidKinds := [.handle, .sentinel, .sentinel, .sentinel, .sentinel, .sentinel, .sentinel, .sentinel, .sentinel, .sentinel, .sentinel], laidTests := true, laidLooks := .later }
def PoolFairUptoCardSaid : Prop := Claim7.holds Tryz.pinned (.plain (OpenSpec.upto poolFairSpec)) poolFairUptoCard

/-- THE SECOND FORM's CARD OF 'slabyardlaw3.ReclaimWhole'. -/
def reclaimWholeUptoCard : Claim7 := { stood := { row := reclaimWholeUptoRow, standIns := [], harness := (true, "f1bcbf6e1da75e4cb9433a50f61085cdce543982c64852ed91ad6647b8913030"), looks := true }, kinds := [], alts := [], laidByText := true, laidKinds := [.sentinel, .sentinel, .sentinel, .sentinel, .sentinel, .sentinel], laidTests := true, laidLooks := .later }
def ReclaimWholeUptoCardSaid : Prop := Claim7.holds Tryz.pinned (.plain (OpenSpec.upto reclaimWholeSpec)) reclaimWholeUptoCard

/-- THE SECOND FORM's CARD OF 'slabyardlaw2.PoolActs'. -/
def poolActsUptoCard : Claim7 := { stood := { row := poolActsUptoRow, standIns := [], harness := (true, "f1bcbf6e1da75e4cb9433a50f61085cdce543982c64852ed91ad6647b8913030"), looks := true }, kinds := [], alts := [], laidByText := true, laidKinds := [.handle, .sentinel, .sentinel, .sentinel, .sentinel, .sentinel, .sentinel, .sentinel, .sentinel, .sentinel, .sentinel], laidTests := true, laidLooks := .later }
def PoolActsUptoCardSaid : Prop := Claim7.holds Tryz.pinned (.plain (OpenSpec.upto poolActsSpec)) poolActsUptoCard

/-- THE SECOND FORM's CARD OF 'slabyardlaw2.BufferClones'. -/
def bufferClonesUptoCard : Claim7 := { stood := { row := bufferClonesUptoRow, standIns := [], harness := (true, "f1bcbf6e1da75e4cb9433a50f61085cdce543982c64852ed91ad6647b8913030"), looks := true }, kinds := [], alts := [], laidByText := true, laidKinds := [.sentinel, .sentinel, .sentinel, .sentinel, .sentinel, .sentinel, .sentinel, .sentinel, .sentinel], laidTests := true, laidLooks := .later }
def BufferClonesUptoCardSaid : Prop := Claim7.holds Tryz.pinned (.plain (OpenSpec.upto bufferClonesSpec)) bufferClonesUptoCard

/-- THE SECOND FORM's CARD OF 'slabyardlaw2.StoreGone'. -/
def storeGoneUptoCard : Claim7 := { stood := { row := storeGoneUptoRow, standIns := [], harness := (true, "f1bcbf6e1da75e4cb9433a50f61085cdce543982c64852ed91ad6647b8913030"), looks := true }, kinds := [], alts := [], laidByText := true, laidKinds := [.handle, .sentinel, .sentinel, .sentinel, .sentinel, .sentinel, .sentinel, .sentinel, .sentinel, .sentinel, .sentinel], laidTests := true, laidLooks := .later }
def StoreGoneUptoCardSaid : Prop := Claim7.holds Tryz.pinned (.plain (OpenSpec.upto storeGoneSpec)) storeGoneUptoCard

/-- THE SECOND FORM's CARD OF 'slabyardlaw2.StoreShared'. -/
def storeSharedUptoCard : Claim7 := { stood := { row := storeSharedUptoRow, standIns := [], harness := (true, "f1bcbf6e1da75e4cb9433a50f61085cdce543982c64852ed91ad6647b8913030"), looks := true }, kinds := [], alts := [], laidByText := true, laidKinds := [.handle, .sentinel, .sentinel, .sentinel, .sentinel, .sentinel, .sentinel, .sentinel, .sentinel, .sentinel, .sentinel], laidTests := true, laidLooks := .later }
def StoreSharedUptoCardSaid : Prop := Claim7.holds Tryz.pinned (.plain (OpenSpec.upto storeSharedSpec)) storeSharedUptoCard

/-- THE SECOND FORM's CARD OF 'slabyardlaw2.StoreActs'. -/
def storeActsUptoCard : Claim7 := { stood := { row := storeActsUptoRow, standIns := [], harness := (true, "f1bcbf6e1da75e4cb9433a50f61085cdce543982c64852ed91ad6647b8913030"), looks := true }, kinds := [], alts := [], laidByText := true, laidKinds := [.handle, .sentinel, .sentinel, .sentinel, .sentinel, .sentinel, .sentinel, .sentinel, .sentinel, .sentinel, .sentinel], laidTests := true, laidLooks := .later }
def StoreActsUptoCardSaid : Prop := Claim7.holds Tryz.pinned (.plain (OpenSpec.upto storeActsSpec)) storeActsUptoCard

/-- THE SECOND FORM's CARD OF 'slabyardlaw2.BufferApart'. -/
def bufferApartUptoCard : Claim7 := { stood := { row := bufferApartUptoRow, standIns := [], harness := (true, "f1bcbf6e1da75e4cb9433a50f61085cdce543982c64852ed91ad6647b8913030"), looks := true }, kinds := [], alts := [], laidByText := true, laidKinds := [.sentinel, .sentinel, .sentinel, .sentinel, .sentinel, .sentinel, .sentinel, .sentinel, .sentinel], laidTests := true, laidLooks := .later }
def BufferApartUptoCardSaid : Prop := Claim7.holds Tryz.pinned (.plain (OpenSpec.upto bufferApartSpec)) bufferApartUptoCard

/-- THE SECOND FORM's CARD OF 'slabyardlaw3.ReclaimEnough'. -/
def reclaimEnoughUptoCard : Claim7 := { stood := { row := reclaimEnoughUptoRow, standIns := [], harness := (true, "f1bcbf6e1da75e4cb9433a50f61085cdce543982c64852ed91ad6647b8913030"), looks := true }, kinds := [], alts := [], laidByText := true, laidKinds := [.handle, .sentinel, .sentinel, .sentinel, .sentinel, .sentinel, .sentinel, .sentinel, .sentinel, .sentinel, .sentinel], laidTests := true, laidLooks := .later }
def ReclaimEnoughUptoCardSaid : Prop := Claim7.holds Tryz.pinned (.plain (OpenSpec.upto reclaimEnoughSpec)) reclaimEnoughUptoCard

/-- THE SECOND FORM's CARD OF 'slabyardlaw3.ReclaimActs'. -/
def reclaimActsUptoCard : Claim7 := { stood := { row := reclaimActsUptoRow, standIns := [], harness := (true, "f1bcbf6e1da75e4cb9433a50f61085cdce543982c64852ed91ad6647b8913030"), looks := true }, kinds := [], alts := [], laidByText := true, laidKinds := [.handle, .sentinel, .sentinel, .sentinel, .sentinel, .sentinel, .sentinel, .sentinel, .sentinel, .sentinel, .sentinel], laidTests := true, laidLooks := .later }
def ReclaimActsUptoCardSaid : Prop := Claim7.holds Tryz.pinned (.plain (OpenSpec.upto reclaimActsSpec)) reclaimActsUptoCard
end Rows
end Go.Proofs.YtdcbhlcbiokbeaaGreatDoor
