/- SlabActs is true of every config, every size and all acts: the cache answers as the document's. Condition: the variables of package api and package errors hold what the program's text lays (the card ties them to the text). -/
import Derived.Test.YtdcbhlcbiokbeaaGreatDoorSa01
import Derived.Test.YtdcbhlcbiokbeaaGreatDoorSa22
import Derived.Test.YtdcbhlcbiokbeaaGreatDoorSa23
set_option linter.unusedSimpArgs false
set_option linter.unusedVariables false
set_option maxHeartbeats 16000000
set_option maxRecDepth 100000
namespace Go.Proofs.YtdcbhlcbiokbeaaGreatDoor
section
open Go.ChangeShapes Go.WideShapes Go.ChangeAt Go.RowKit Go.Joins
theorem slabActs_card:Rows.SlabActsCardSaid:=
 Claim7.holds_tied_plain_at .later [] _ _ _ _ jJ.said (fun _ h=>by cases h) kR (fun _ h=>by cases h) slabActs_row_tie rfl ⟨rfl,rfl⟩ kR rfl jJ.plain jJ.goes
#print axioms slabActs_card
end
end Go.Proofs.YtdcbhlcbiokbeaaGreatDoor
