/- Proved: StoreActs answers true whatever it is handed: any acts on a store, and on the document's, come to the same. Its conditions: none beyond the given statement's own. -/
import Derived.Test.YtehhldljdakgeaaGreatDoorCards
import Derived.Test.YtehhldljdakgeaaGreatDoorTie
import Derived.Test.YtehhldljdakgeaaGreatDoorQb01
import Derived.Test.YtehhldljdakgeaaGreatDoorQb51
import Derived.Test.YtehhldljdakgeaaGreatDoorQb52
set_option linter.unusedSimpArgs false
set_option linter.unusedVariables false
set_option maxHeartbeats 16000000
set_option maxRecDepth 100000
namespace Go.Proofs.YtehhldljdakgeaaGreatDoor
open Go.RowKit Go.Maps Go.Proofs.Tryz
attribute [local go_sem ↓] aJ aK
section
open Go.ChangeShapes Go.WideShapes Go.ChangeAt Go.RowKit Go.Joins
theorem storeActs_card:Rows.StoreActsCardSaid:=
 iV .later [] _ _ _ _ qM.said (fun _ h=>by cases h) kR (fun _ h=>by cases h) storeActs_row_tie rfl ⟨rfl,rfl⟩ kR rfl qM.plain qM.goes
#print axioms storeActs_card
end
