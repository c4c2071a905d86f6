/- Proved: StoreGone answers true whatever it is handed: whom nobody holds is gone, its object is another one's; numbers are never used twice. Its conditions: none beyond the given statement's own. -/
import Derived.Test.YtehhldljdakgeaaGreatDoorCards
import Derived.Test.YtehhldljdakgeaaGreatDoorTie
import Derived.Test.YtehhldljdakgeaaGreatDoorQb01
import Derived.Test.YtehhldljdakgeaaGreatDoorQb44
import Derived.Test.YtehhldljdakgeaaGreatDoorQb45
set_option linter.unusedSimpArgs false
set_option linter.unusedVariables false
set_option maxHeartbeats 16000000
set_option maxRecDepth 100000
namespace Go.Proofs.YtehhldljdakgeaaGreatDoor
open Go.RowKit Go.Maps Go.Proofs.Tryz
attribute [local go_sem ↓] aJ aK
section
open Go.ChangeShapes Go.WideShapes Go.ChangeAt Go.RowKit Go.Joins
theorem storeGone_card:Rows.StoreGoneCardSaid:=
 iV .later [] _ _ _ _ qL.said (fun _ h=>by cases h) kR (fun _ h=>by cases h) storeGone_row_tie rfl ⟨rfl,rfl⟩ kR rfl qL.plain qL.goes
#print axioms storeGone_card
end
