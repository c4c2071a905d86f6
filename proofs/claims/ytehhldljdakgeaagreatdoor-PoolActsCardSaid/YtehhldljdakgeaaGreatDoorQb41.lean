/- Any acts on any pool: the program's answer is the document's, act by act: whatever the pages, the mark, the objects' size, the reserve and the acts are, PoolActs returns true, and what came in reads as it did. -/
import Derived.Test.YtehhldljdakgeaaGreatDoorCards
import Derived.Test.YtehhldljdakgeaaGreatDoorTie
import Derived.Test.YtehhldljdakgeaaGreatDoorQb01
import Derived.Test.YtehhldljdakgeaaGreatDoorQb39
import Derived.Test.YtehhldljdakgeaaGreatDoorQb40
set_option linter.unusedSimpArgs false
set_option linter.unusedVariables false
set_option maxHeartbeats 16000000
set_option maxRecDepth 100000
namespace Go.Proofs.YtehhldljdakgeaaGreatDoor
open Go.RowKit Go.Maps Go.Proofs.Tryz
attribute [local go_sem ↓] aJ aK
section
open Go.ChangeShapes Go.WideShapes Go.ChangeAt Go.RowKit Go.Joins
theorem poolActs_card:Rows.PoolActsCardSaid:=
 iV .later [] _ _ _ _ sQ.said (fun _ h=>by cases h) kR (fun _ h=>by cases h) poolActs_row_tie rfl ⟨rfl,rfl⟩ kR rfl sQ.plain sQ.goes
#print axioms poolActs_card
end
