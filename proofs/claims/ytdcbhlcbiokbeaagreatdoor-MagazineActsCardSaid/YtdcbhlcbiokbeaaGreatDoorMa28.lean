/- MagazineActs is true of every config, every size, every number of workers and all acts: the depot answers as the document's. Condition: the variables of package api and package errors hold what the program's text lays (the card ties them to the text). -/
import Derived.Test.YtdcbhlcbiokbeaaGreatDoorMa01
import Derived.Test.YtdcbhlcbiokbeaaGreatDoorMa26
import Derived.Test.YtdcbhlcbiokbeaaGreatDoorMa27
set_option linter.unusedSimpArgs false
set_option linter.unusedVariables false
set_option maxHeartbeats 16000000
set_option maxRecDepth 100000
namespace Go.Proofs.YtdcbhlcbiokbeaaGreatDoor
section
open Go.ChangeShapes Go.WideShapes Go.ChangeAt Go.RowKit Go.Joins
theorem magazineActs_card:Rows.MagazineActsCardSaid:=
 Claim7.holds_tied_plain_at .later [] _ _ _ _ jq.said (fun _ h=>by cases h) kR (fun _ h=>by cases h) magazineActs_row_tie rfl ⟨rfl,rfl⟩ kR rfl jq.plain jq.goes
#print axioms magazineActs_card
end
end Go.Proofs.YtdcbhlcbiokbeaaGreatDoor
