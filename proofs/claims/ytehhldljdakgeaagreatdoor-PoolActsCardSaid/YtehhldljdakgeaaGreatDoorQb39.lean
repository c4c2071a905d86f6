/- Lemmas. -/
import Derived.Test.YtehhldljdakgeaaGreatDoorQb01
import Derived.Test.YtehhldljdakgeaaGreatDoorQb38
set_option linter.unusedSimpArgs false
set_option linter.unusedVariables false
set_option maxHeartbeats 16000000
set_option maxRecDepth 100000
namespace Go.Proofs.YtehhldljdakgeaaGreatDoor
open Go.RowKit Go.Maps Go.Proofs.Tryz
attribute [local go_sem ↓] aJ aK
section
open Go.ChangeShapes Go.WideShapes Go.ChangeAt Go.RowKit Go.Joins
namespace sQ
theorem xw {P:Program} {f:FuncId} {fn:Func} {s:ChangeSpec} {c:OpenClaim}
 (k0:c.wf (OpenSpec.ofChange s)=true)
 (k1:laidOutB P=true)
 (k2:mapsRowed P=true)
 (k3:fn.params.all (P.readableRec ·)=true)
 (k4:namedTie P c.named s.vars=true)
 (k5:(c.stops==[])=true)
 (k6:(P.stops==[])=true)
 (k7:(c.knobs==[])=true)
 (k8:(P.stopKnobs==[])=true)
 (k9:(c.inPlace==P.inPlace f)=true)
 (k10:(c.unfollowed==P.unfollowed f)=true)
 (k11:(c.recurses==P.recurses f)=true)
 (k12:(c.named==P.varsNamed f)=true)
 (k13:(c.maps==(fn.params.toList++s.plain.varTypes P).any (P.mapsRec ·))=true)
 (k14:(c.ifaces==(fn.params.toList++s.plain.varTypes P).any (P.ifacesRec ·))=true)
 (k15:(c.mapsOut==P.mapsAmong fn.resultTypes.toList)=true)
 (k16:(c.loops==(fn.params.toList++s.plain.varTypes P).any (P.loopsFrom ·))=true)
 (k17:(c.wideKeys==(fn.params.toList++s.plain.varTypes P++fn.resultTypes.toList).any (P.wideKeysFrom ·))=true)
 (k18:s.vars.all (P.varReadable ·)=true)
 (k19:fn.resultTypes.all (fun t=>P.readableRec t&&decide (t<P.types.size))=true)
 (k20:(c.ifacesOut==fn.resultTypes.toList.any (P.ifacesRec ·))=true)
 (k21:(c.loopsOut==fn.resultTypes.toList.any (P.loopsFrom ·))=true)
 (k22:(c.plainKeys==P.plainKeys)=true)
 (k23:c.shortTexts.isNone=true)
 (k24:P.stopsHeard=true)
 (k25:P.mayEnter=true)
 (k26:(c.lifted==P.liftsFinal)=true)
 (k27:(P.make==some c.make)=true)
 (k28:(c.kinds==(if c.domain.isEmpty then[] else fn.params.toList.map fun t=>match P.underlying t with|some (.int k)=>some k|_=>none))=true)
 (k29:(c.pinned==c.pinnedBy)=true)
 (k30:(c.veiled==(fn.params.toList++s.plain.varTypes P++fn.resultTypes.toList).any (P.veiledRec ·))=true)
 (k31:c.veiledFits P fn.params.toList (fn.params.toList++s.plain.varTypes P++fn.resultTypes.toList)=true):joinedFacts P f fn s c=true:=by
 unfold joinedFacts;exact aH.2 ⟨aH.2 ⟨aH.2 ⟨aH.2 ⟨aH.2 ⟨aH.2 ⟨aH.2 ⟨aH.2 ⟨aH.2 ⟨aH.2 ⟨aH.2 ⟨aH.2 ⟨aH.2 ⟨aH.2 ⟨aH.2 ⟨aH.2 ⟨aH.2 ⟨aH.2 ⟨aH.2 ⟨aH.2 ⟨aH.2 ⟨aH.2 ⟨aH.2 ⟨aH.2 ⟨aH.2 ⟨aH.2 ⟨aH.2 ⟨aH.2 ⟨aH.2 ⟨aH.2 ⟨aH.2 ⟨k0,k1⟩,k2⟩,k3⟩,k4⟩,k5⟩,k6⟩,k7⟩,k8⟩,k9⟩,k10⟩,k11⟩,k12⟩,k13⟩,k14⟩,k15⟩,k16⟩,k17⟩,k18⟩,k19⟩,k20⟩,k21⟩,k22⟩,k23⟩,k24⟩,k25⟩,k26⟩,k27⟩,k28⟩,k29⟩,k30⟩,k31⟩
theorem k0:Rows.poolActsRow.wf (OpenSpec.ofChange Rows.poolActsSpec)=true:=kR
theorem k1:laidOutB prog=true:=kR
theorem k2:mapsRowed prog=true:=kR
theorem k3:Tryz.f3.params.all (prog.readableRec ·)=true:=kR
theorem k4:namedTie prog Rows.poolActsRow.named Rows.poolActsSpec.vars=true:=kR
theorem k5:(Rows.poolActsRow.stops==[])=true:=kR
theorem k6:(prog.stops==[])=true:=kR
theorem k7:(Rows.poolActsRow.knobs==[])=true:=kR
theorem k8:(prog.stopKnobs==[])=true:=kR
theorem k9:(Rows.poolActsRow.inPlace==prog.inPlace 3)=true:=kR
theorem k10:(Rows.poolActsRow.unfollowed==prog.unfollowed 3)=true:=kR
theorem k11:(Rows.poolActsRow.recurses==prog.recurses 3)=true:=kR
theorem k12:(Rows.poolActsRow.named==prog.varsNamed 3)=true:=kR
theorem k13:(Rows.poolActsRow.maps==(Tryz.f3.params.toList++Rows.poolActsSpec.plain.varTypes prog).any (prog.mapsRec ·))=true:=kR
theorem k14:(Rows.poolActsRow.ifaces==(Tryz.f3.params.toList++Rows.poolActsSpec.plain.varTypes prog).any (prog.ifacesRec ·))=true:=kR
theorem k15:(Rows.poolActsRow.mapsOut==prog.mapsAmong Tryz.f3.resultTypes.toList)=true:=kR
theorem k16:(Rows.poolActsRow.loops==(Tryz.f3.params.toList++Rows.poolActsSpec.plain.varTypes prog).any (prog.loopsFrom ·))=true:=kR
theorem k17:(Rows.poolActsRow.wideKeys==(Tryz.f3.params.toList++Rows.poolActsSpec.plain.varTypes prog++Tryz.f3.resultTypes.toList).any (prog.wideKeysFrom ·))=true:=kR
theorem k18:Rows.poolActsSpec.vars.all (prog.varReadable ·)=true:=kR
theorem k19:Tryz.f3.resultTypes.all (fun t=>prog.readableRec t&&decide (t<prog.types.size))=true:=kR
theorem k20:(Rows.poolActsRow.ifacesOut==Tryz.f3.resultTypes.toList.any (prog.ifacesRec ·))=true:=kR
theorem k21:(Rows.poolActsRow.loopsOut==Tryz.f3.resultTypes.toList.any (prog.loopsFrom ·))=true:=kR
theorem k22:(Rows.poolActsRow.plainKeys==prog.plainKeys)=true:=kR
theorem k23:Rows.poolActsRow.shortTexts.isNone=true:=kR
theorem k24:prog.stopsHeard=true:=kR
theorem k25:prog.mayEnter=true:=kR
theorem k26:(Rows.poolActsRow.lifted==prog.liftsFinal)=true:=kR
theorem k27:(prog.make==some Rows.poolActsRow.make)=true:=kR
theorem k28:(Rows.poolActsRow.kinds==(if Rows.poolActsRow.domain.isEmpty then[] else Tryz.f3.params.toList.map fun t=>match prog.underlying t with|some (.int k)=>some k|_=>none))=true:=kR
theorem k29:(Rows.poolActsRow.pinned==Rows.poolActsRow.pinnedBy)=true:=kR
theorem k30:(Rows.poolActsRow.veiled==(Tryz.f3.params.toList++Rows.poolActsSpec.plain.varTypes prog++Tryz.f3.resultTypes.toList).any (prog.veiledRec ·))=true:=kR
theorem k31:Rows.poolActsRow.veiledFits prog Tryz.f3.params.toList (Tryz.f3.params.toList++Rows.poolActsSpec.plain.varTypes prog++Tryz.f3.resultTypes.toList)=true:=kR
theorem closed:joinedFacts prog 3 Tryz.f3 Rows.poolActsSpec Rows.poolActsRow=true:=
 xw k0 k1 k2 k3 k4 k5 k6 k7 k8 k9 k10 k11 k12 k13 k14 k15 k16 k17 k18 k19 k20 k21 k22 k23 k24 k25 k26 k27 k28 k29 k30 k31
theorem said:Rows.PoolActsSaid:=
 jo 3 Tryz.f3 rfl rfl rfl rfl rfl rfl rfl ⟨rfl,rfl,rfl,rfl,rfl⟩ rfl rfl rfl rfl rfl kR Tryz.func3 closed
  (of_decide_eq_true kR) (by unfold Func.isWrapper;first|(rw[if_pos (by decide+kernel)];kernel_rfl)|(rw[if_neg (by decide+kernel)];exact⟨rfl,rfl⟩))
  (fun os started H enc _=>lifted os started H enc)
end sQ
end
