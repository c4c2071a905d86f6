/- Lemmas and contracts for the claim's last text: StoreSharedCS. -/
import Derived.Test.YtehhldljdakgeaaGreatDoorQa01
import Derived.Test.YtehhldljdakgeaaGreatDoorQa53
set_option linter.unusedSimpArgs false
set_option linter.unusedVariables false
set_option maxHeartbeats 16000000
set_option maxRecDepth 100000
namespace Go.Proofs.YtehhldljdakgeaaGreatDoor
open Go.RowKit Go.Maps
attribute [local go_sem ↓] aJ aK
section
open Go.ChangeShapes Go.WideShapes Go.ChangeAt Go.RowKit Go.Joins
namespace mU
theorem Bc {P:Program} {f:FuncId} {fn:Func} {s:ChangeSpec} {c:OpenClaim}
 (k0:c.wf (OpenSpec.ofChange s)=true)
 (k1:laidOutB P=true)
 (k2:mapsRowed P=true)
 (k3:fn.params.all (P.readableRec ·)=true)
 (k4:namedTie P c.named s.vars=true)
 (k5:(c.stops==[])=true)
 (k6:(P.stops==[])=true)
 (k7:(c.knobs==[])=true)
 (k8:(P.stopKnobs==[])=true)
 (k9:(c.inPlace==P.inPlace f)=true)
 (k10:(c.unfollowed==P.unfollowed f)=true)
 (k11:(c.recurses==P.recurses f)=true)
 (k12:(c.named==P.varsNamed f)=true)
 (k13:(c.maps==(fn.params.toList++s.plain.varTypes P).any (P.mapsRec ·))=true)
 (k14:(c.ifaces==(fn.params.toList++s.plain.varTypes P).any (P.ifacesRec ·))=true)
 (k15:(c.mapsOut==P.mapsAmong fn.resultTypes.toList)=true)
 (k16:(c.loops==(fn.params.toList++s.plain.varTypes P).any (P.loopsFrom ·))=true)
 (k17:(c.wideKeys==(fn.params.toList++s.plain.varTypes P++fn.resultTypes.toList).any (P.wideKeysFrom ·))=true)
 (k18:s.vars.all (P.varReadable ·)=true)
 (k19:fn.resultTypes.all (fun t=>P.readableRec t&&decide (t<P.types.size))=true)
 (k20:(c.ifacesOut==fn.resultTypes.toList.any (P.ifacesRec ·))=true)
 (k21:(c.loopsOut==fn.resultTypes.toList.any (P.loopsFrom ·))=true)
 (k22:(c.plainKeys==P.plainKeys)=true)
 (k23:c.shortTexts.isNone=true)
 (k24:P.stopsHeard=true)
 (k25:P.mayEnter=true)
 (k26:(c.lifted==P.liftsFinal)=true)
 (k27:(P.make==some c.make)=true)
 (k28:(c.kinds==(if c.domain.isEmpty then[] else fn.params.toList.map fun t=>match P.underlying t with|some (.int k)=>some k|_=>none))=true)
 (k29:(c.pinned==c.pinnedBy)=true)
 (k30:(c.veiled==(fn.params.toList++s.plain.varTypes P++fn.resultTypes.toList).any (P.veiledRec ·))=true)
 (k31:c.veiledFits P fn.params.toList (fn.params.toList++s.plain.varTypes P++fn.resultTypes.toList)=true):joinedFacts P f fn s c=true:=by
 unfold joinedFacts;exact aL.2 ⟨aL.2 ⟨aL.2 ⟨aL.2 ⟨aL.2 ⟨aL.2 ⟨aL.2 ⟨aL.2 ⟨aL.2 ⟨aL.2 ⟨aL.2 ⟨aL.2 ⟨aL.2 ⟨aL.2 ⟨aL.2 ⟨aL.2 ⟨aL.2 ⟨aL.2 ⟨aL.2 ⟨aL.2 ⟨aL.2 ⟨aL.2 ⟨aL.2 ⟨aL.2 ⟨aL.2 ⟨aL.2 ⟨aL.2 ⟨aL.2 ⟨aL.2 ⟨aL.2 ⟨aL.2 ⟨k0,k1⟩,k2⟩,k3⟩,k4⟩,k5⟩,k6⟩,k7⟩,k8⟩,k9⟩,k10⟩,k11⟩,k12⟩,k13⟩,k14⟩,k15⟩,k16⟩,k17⟩,k18⟩,k19⟩,k20⟩,k21⟩,k22⟩,k23⟩,k24⟩,k25⟩,k26⟩,k27⟩,k28⟩,k29⟩,k30⟩,k31⟩
theorem k0:Rows.storeSharedRow.wf (OpenSpec.ofChange Rows.storeSharedSpec)=true:=kR
theorem k1:laidOutB Tryz.prog=true:=kR
theorem k2:mapsRowed Tryz.prog=true:=kR
theorem k3:Tryz.f5.params.all (Tryz.prog.readableRec ·)=true:=kR
theorem k4:namedTie Tryz.prog Rows.storeSharedRow.named Rows.storeSharedSpec.vars=true:=kR
theorem k5:(Rows.storeSharedRow.stops==[])=true:=kR
theorem k6:(Tryz.prog.stops==[])=true:=kR
theorem k7:(Rows.storeSharedRow.knobs==[])=true:=kR
theorem k8:(Tryz.prog.stopKnobs==[])=true:=kR
theorem k9:(Rows.storeSharedRow.inPlace==Tryz.prog.inPlace 5)=true:=kR
theorem k10:(Rows.storeSharedRow.unfollowed==Tryz.prog.unfollowed 5)=true:=kR
theorem k11:(Rows.storeSharedRow.recurses==Tryz.prog.recurses 5)=true:=kR
theorem k12:(Rows.storeSharedRow.named==Tryz.prog.varsNamed 5)=true:=kR
theorem k13:(Rows.storeSharedRow.maps==(Tryz.f5.params.toList++Rows.storeSharedSpec.plain.varTypes Tryz.prog).any (Tryz.prog.mapsRec ·))=true:=kR
theorem k14:(Rows.storeSharedRow.ifaces==(Tryz.f5.params.toList++Rows.storeSharedSpec.plain.varTypes Tryz.prog).any (Tryz.prog.ifacesRec ·))=true:=kR
theorem k15:(Rows.storeSharedRow.mapsOut==Tryz.prog.mapsAmong Tryz.f5.resultTypes.toList)=true:=kR
theorem k16:(Rows.storeSharedRow.loops==(Tryz.f5.params.toList++Rows.storeSharedSpec.plain.varTypes Tryz.prog).any (Tryz.prog.loopsFrom ·))=true:=kR
theorem k17:(Rows.storeSharedRow.wideKeys==(Tryz.f5.params.toList++Rows.storeSharedSpec.plain.varTypes Tryz.prog++Tryz.f5.resultTypes.toList).any (Tryz.prog.wideKeysFrom ·))=true:=kR
theorem k18:Rows.storeSharedSpec.vars.all (Tryz.prog.varReadable ·)=true:=kR
theorem k19:Tryz.f5.resultTypes.all (fun t=>Tryz.prog.readableRec t&&decide (t<Tryz.prog.types.size))=true:=kR
theorem k20:(Rows.storeSharedRow.ifacesOut==Tryz.f5.resultTypes.toList.any (Tryz.prog.ifacesRec ·))=true:=kR
theorem k21:(Rows.storeSharedRow.loopsOut==Tryz.f5.resultTypes.toList.any (Tryz.prog.loopsFrom ·))=true:=kR
theorem k22:(Rows.storeSharedRow.plainKeys==Tryz.prog.plainKeys)=true:=kR
theorem k23:Rows.storeSharedRow.shortTexts.isNone=true:=kR
theorem k24:Tryz.prog.stopsHeard=true:=kR
theorem k25:Tryz.prog.mayEnter=true:=kR
theorem k26:(Rows.storeSharedRow.lifted==Tryz.prog.liftsFinal)=true:=kR
theorem k27:(Tryz.prog.make==some Rows.storeSharedRow.make)=true:=kR
theorem k28:(Rows.storeSharedRow.kinds==(if Rows.storeSharedRow.domain.isEmpty then[] else Tryz.f5.params.toList.map fun t=>match Tryz.prog.underlying t with|some (.int k)=>some k|_=>none))=true:=kR
theorem k29:(Rows.storeSharedRow.pinned==Rows.storeSharedRow.pinnedBy)=true:=kR
theorem k30:(Rows.storeSharedRow.veiled==(Tryz.f5.params.toList++Rows.storeSharedSpec.plain.varTypes Tryz.prog++Tryz.f5.resultTypes.toList).any (Tryz.prog.veiledRec ·))=true:=kR
theorem k31:Rows.storeSharedRow.veiledFits Tryz.prog Tryz.f5.params.toList (Tryz.f5.params.toList++Rows.storeSharedSpec.plain.varTypes Tryz.prog++Tryz.f5.resultTypes.toList)=true:=kR
theorem closed:joinedFacts Tryz.prog 5 Tryz.f5 Rows.storeSharedSpec Rows.storeSharedRow=true:=
 Bc k0 k1 k2 k3 k4 k5 k6 k7 k8 k9 k10 k11 k12 k13 k14 k15 k16 k17 k18 k19 k20 k21 k22 k23 k24 k25 k26 k27 k28 k29 k30 k31
theorem said:Rows.StoreSharedSaid:=
 OpenClaim.holds_of_wide 5 Tryz.f5 rfl rfl rfl rfl rfl rfl rfl ⟨rfl,rfl,rfl,rfl,rfl⟩ rfl rfl rfl rfl rfl kR Tryz.func5 closed
  (of_decide_eq_true kR) (by unfold Func.isWrapper;first|(rw[if_pos (by decide+kernel)];kernel_rfl)|(rw[if_neg (by decide+kernel)];exact⟨rfl,rfl⟩))
  (fun os started H enc _=>lifted os started H enc)
end mU
end
end Go.Proofs.YtehhldljdakgeaaGreatDoor
