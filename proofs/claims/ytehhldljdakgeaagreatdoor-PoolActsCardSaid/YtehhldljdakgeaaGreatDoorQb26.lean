/- Lemmas. -/
import Derived.Test.YtehhldljdakgeaaGreatDoorQb01
import Derived.Test.YtehhldljdakgeaaGreatDoorQb20
set_option linter.unusedSimpArgs false
set_option linter.unusedVariables false
set_option maxHeartbeats 16000000
set_option maxRecDepth 100000
namespace Go.Proofs.YtehhldljdakgeaaGreatDoor
open Go.RowKit Go.Maps Go.Proofs.Tryz
attribute [local go_sem ↓] aJ aK
section
variable {mn:Int} {O:List (List Int)} {e:Nat} {d:De} {k v:Int} {u:Bool} {l:List Ob} {o:Ob}
theorem Cn:(lI e d k o).1.H.length=d.H.length:=by
 unfold lI;split
 ·rfl
 ·split
  ·simp
  ·rfl
end
