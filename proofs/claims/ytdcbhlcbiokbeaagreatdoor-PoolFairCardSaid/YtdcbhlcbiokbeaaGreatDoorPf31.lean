/- PoolFair is true of all reserves and all counts: who waits gets what is given back, in the order in which they came. Condition: the variables of package api and package errors hold what the program's text lays (the card ties them to the text). -/
import Derived.Test.YtdcbhlcbiokbeaaGreatDoorCards
import Derived.Test.YtdcbhlcbiokbeaaGreatDoorTie
import Derived.Test.YtdcbhlcbiokbeaaGreatDoorPf01
import Derived.Test.YtdcbhlcbiokbeaaGreatDoorPf29
import Derived.Test.YtdcbhlcbiokbeaaGreatDoorPf30
set_option linter.unusedSimpArgs false
set_option linter.unusedVariables false
set_option maxHeartbeats 16000000
set_option maxRecDepth 100000
namespace Go.Proofs.YtdcbhlcbiokbeaaGreatDoor
section
open Go.ChangeShapes Go.WideShapes Go.ChangeAt Go.RowKit Go.Joins
theorem poolFair_card:Rows.PoolFairCardSaid:=
 Claim7.holds_tied_plain_at .later [] _ _ _ _ jV.said (fun _ h=>by cases h) kR (fun _ h=>by cases h) poolFair_row_tie rfl ⟨rfl,rfl⟩ kR rfl jV.plain jV.goes
#print axioms poolFair_card
end
end Go.Proofs.YtdcbhlcbiokbeaaGreatDoor
