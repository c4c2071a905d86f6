/- Proved: StoreShared answers true whatever it is handed: what several hold nobody writes; who owns it anew has the same bytes, and writes them alone. Its conditions: none beyond the given statement's own. -/
import Derived.Test.YtehhldljdakgeaaGreatDoorCards
import Derived.Test.YtehhldljdakgeaaGreatDoorTie
import Derived.Test.YtehhldljdakgeaaGreatDoorQa01
import Derived.Test.YtehhldljdakgeaaGreatDoorQa54
import Derived.Test.YtehhldljdakgeaaGreatDoorQa55
set_option linter.unusedSimpArgs false
set_option linter.unusedVariables false
set_option maxHeartbeats 16000000
set_option maxRecDepth 100000
namespace Go.Proofs.YtehhldljdakgeaaGreatDoor
open Go.RowKit Go.Maps
attribute [local go_sem ↓] aJ aK
section
open Go.ChangeShapes Go.WideShapes Go.ChangeAt Go.RowKit Go.Joins
theorem storeShared_card:Rows.StoreSharedCardSaid:=
 Claim7.holds_tied_plain_at .later [] _ _ _ _ mU.said (fun _ h=>by cases h) kR (fun _ h=>by cases h) storeShared_row_tie rfl ⟨rfl,rfl⟩ kR rfl mU.plain mU.goes
#print axioms storeShared_card
end
end Go.Proofs.YtehhldljdakgeaaGreatDoor
