/- Lemmas and contracts for the claim's last text: StoreSharedCL. -/
import Derived.Test.YtehhldljdakgeaaGreatDoorQa01
import Derived.Test.YtehhldljdakgeaaGreatDoorQa35
import Derived.Test.YtehhldljdakgeaaGreatDoorQa52
set_option linter.unusedSimpArgs false
set_option linter.unusedVariables false
set_option maxHeartbeats 16000000
set_option maxRecDepth 100000
namespace Go.Proofs.YtehhldljdakgeaaGreatDoor
open Go.RowKit Go.Maps
attribute [local go_sem ↓] aJ aK
section
open Go.ChangeShapes Go.WideShapes Go.ChangeAt Go.RowKit Go.Joins
namespace mU
theorem own:ownKnob Tryz.prog.godebug=none:=kR
theorem met (os:Os) (args:Array Value):laidMetH Tryz.prog Rows.storeSharedRow.laid ((World.doorLaid Tryz.prog 400 os).forCall (fun _ _=>0) ⟨#[],args,[]⟩).memory:=
 laidMetH_of_parts3 (fuel:=8) (laidMet_of_run' 8 kR kR) kR kR
theorem lifted (os:Os) (started:os.Started) (H:Type) (enc:TypeId×Value→H):
 ReturnsInHanded {} Tryz.checked os 5 .any (fun w args=>(Rows.storeSharedSpec.pre enc Tryz.prog Tryz.f5 [] false w args∧laidMetH Tryz.prog Rows.storeSharedRow.laid w)∧sizedMet enc Tryz.prog Tryz.f5 (OpenSpec.ofChange Rows.storeSharedSpec) false w args)
  (Rows.storeSharedSpec.post enc Tryz.prog Tryz.f5 false true false false):=by
 refine returnsInHanded_of_change_and (C:=Tryz.checked) (X:=fun w _=>laidMetH Tryz.prog Rows.storeSharedRow.laid w) (fun _ _ _ hh h=>h.of_heap hh) own started kR Tryz.func5
  (ChangeSpec.witness_shaped (enc:=enc) (C:=Tryz.checked) (os:=os) (X:=fun w _=>laidMetH Tryz.prog Rows.storeSharedRow.laid w) false (World.doorLaid Tryz.prog 400 os) #[.int .i64 0,.int .i64 0,.string ⟨#[]⟩,.int .i64 0] 8 rfl (World.shaped_of_RefB kR kR) kR kR kR (met os _)) ?_
 intro W base args ds gs before hval0 hW _ _ hL _;have hval: ∀(j:Nat) t v,Tryz.f5.params[j]?=some t→args[j]?=some v→Value.okWide Tryz.prog W .any base t v:=hval0;have hW':=hW;obtain⟨p,q,hA0,hV,rfl,hfz,hnd⟩:=hW;have hA:DataW.TrodAll enc Tryz.prog W 0 (fun _=>true) true Tryz.f5.params.toList args.toList ds p:=hA0;rw[Tryz.params5] at hA hval;obtain⟨rfl,rfl⟩:=vD hV;obtain⟨v0,v1,v2,v3,d0,d1,d2,d3,p0,p1,p2,p3,rfl,rfl,rfl,h0,h1,h2,h3⟩:=trodAll_four hA;obtain⟨x0,rfl,rfl,rfl,wx0⟩:=open_int bE (hval 0 _ v0 rfl rfl) h0;obtain⟨x1,rfl,rfl,rfl,wx1⟩:=open_int bE (hval 1 _ v1 rfl rfl) h1;obtain⟨x2,rfl,rfl,rfl,wx2⟩:=Go.ChangeMaps.open_string jh (hval 2 _ v2 rfl rfl) h2;obtain⟨x3,rfl,rfl,rfl,wx3⟩:=open_int bE (hval 3 _ v3 rfl rfl) h3;have hL':laidMetH Tryz.prog Rows.poolActsRow.laid W:=hL;obtain⟨ev,hE⟩:=yF hL';refine(yQ x0 x1 x3 x2 W hE (qx wx0) (qx wx1) (qx wx3)).mono fun e W' ⟨he,hb⟩=> ?_
 subst he;exact⟨_,rfl,OI rfl rfl kR (by decide+kernel) hW' hb _⟩
end mU
end
end Go.Proofs.YtehhldljdakgeaaGreatDoor
