/- Lemmas and contracts for the claim's last text: StoreSharedCP. -/
import Derived.Test.YtehhldljdakgeaaGreatDoorQa01
import Derived.Test.YtehhldljdakgeaaGreatDoorQa29
set_option linter.unusedSimpArgs false
set_option linter.unusedVariables false
set_option maxHeartbeats 16000000
set_option maxRecDepth 100000
namespace Go.Proofs.YtehhldljdakgeaaGreatDoor
open Go.RowKit Go.Maps
attribute [local go_sem ↓] aJ aK
section
open Go.ChangeShapes Go.WideShapes Go.ChangeAt Go.RowKit Go.Joins
namespace mU
theorem plain (f:FuncId) (fn:Func) (hf:Tryz.pinned.checked.prog.funcNamed Tryz.f5.name=some f) (hfn:Tryz.pinned.checked.prog.funcs[f]?=some fn):
 true=Tryz.pinned.checked.prog.looks []∧∀(j:Nat) t,fn.params[j]?=some t→Tryz.pinned.checked.prog.wantsStandIn t=false:=by
 obtain rfl:f=5:=aI ((show Tryz.prog.funcNamed Tryz.f5.name=some 5 by kernel_rfl).symm.trans hf) |>.symm;obtain rfl:fn=Tryz.f5:=(aI (Tryz.func5.symm.trans hfn)).symm;refine⟨kR,fun j t ht=> ?_⟩;rw[Tryz.params5] at ht;have hm:=Array.mem_of_getElem? ht;have hall:((Tryz.f5.params.toList).all fun u=> !Tryz.prog.wantsStandIn u)=true:=kR;rw[Tryz.params5] at hall;exact(show Tryz.prog.wantsStandIn t=false by simpa using eP.1 hall t (by simpa using hm))
theorem goes:false=Rows.storeSharedRow.goesBy Tryz.pinned.checked.prog:=kR
end mU
end
end Go.Proofs.YtehhldljdakgeaaGreatDoor
