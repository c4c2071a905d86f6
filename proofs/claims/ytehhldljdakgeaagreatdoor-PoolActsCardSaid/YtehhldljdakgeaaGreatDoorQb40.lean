/- Lemmas. -/
import Derived.Test.YtehhldljdakgeaaGreatDoorQb01
import Derived.Test.YtehhldljdakgeaaGreatDoorQb33
set_option linter.unusedSimpArgs false
set_option linter.unusedVariables false
set_option maxHeartbeats 16000000
set_option maxRecDepth 100000
namespace Go.Proofs.YtehhldljdakgeaaGreatDoor
open Go.RowKit Go.Maps Go.Proofs.Tryz
attribute [local go_sem ↓] aJ aK
section
open Go.ChangeShapes Go.WideShapes Go.ChangeAt Go.RowKit Go.Joins
namespace sQ
theorem plain (f:FuncId) (fn:Func) (hf:Tryz.pinned.checked.prog.funcNamed Tryz.f3.name=some f) (hfn:Tryz.pinned.checked.prog.funcs[f]?=some fn):
 true=Tryz.pinned.checked.prog.looks []∧∀(j:Nat) t,fn.params[j]?=some t→Tryz.pinned.checked.prog.wantsStandIn t=false:=by
 obtain rfl:f=3:=aO ((show prog.funcNamed Tryz.f3.name=some 3 by kernel_rfl).symm.trans hf) |>.symm;obtain rfl:fn=Tryz.f3:=(aO (Tryz.func3.symm.trans hfn)).symm;refine⟨kR,fun j t ht=> ?_⟩;rw[Tryz.params3] at ht;have hm:=jG ht;have hall:((Tryz.f3.params.toList).all fun u=> !prog.wantsStandIn u)=true:=kR;rw[Tryz.params3] at hall;exact(show prog.wantsStandIn t=false by simpa using eF.1 hall t (by simpa using hm))
theorem goes:false=Rows.poolActsRow.goesBy Tryz.pinned.checked.prog:=kR
end sQ
end
