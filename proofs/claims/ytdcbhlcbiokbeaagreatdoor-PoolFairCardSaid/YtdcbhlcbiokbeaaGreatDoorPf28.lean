/- Lemmas and contracts for the claim's last text: PoolFairCL. -/
import Derived.Test.YtdcbhlcbiokbeaaGreatDoorPf01
import Derived.Test.YtdcbhlcbiokbeaaGreatDoorPf27
set_option linter.unusedSimpArgs false
set_option linter.unusedVariables false
set_option maxHeartbeats 16000000
set_option maxRecDepth 100000
namespace Go.Proofs.YtdcbhlcbiokbeaaGreatDoor
section
open Go.ChangeShapes Go.WideShapes Go.ChangeAt Go.RowKit Go.Joins
namespace jV
theorem own:ownKnob Tryz.prog.godebug=none:=kR
theorem met (os:Os) (args:Array Value):laidMetH Tryz.prog Rows.poolFairRow.laid ((World.doorLaid Tryz.prog 400 os).forCall (fun _ _=>0) ⟨#[],args,[]⟩).memory:=
 laidMetH_of_parts3 (fuel:=8) (laidMet_of_run' 8 kR kR) kR kR
theorem lifted (os:Os) (started:os.Started) (H:Type) (enc:TypeId×Value→H):
 ReturnsInHanded {} Tryz.checked os 5 .any (fun w args=>(Rows.poolFairSpec.pre enc Tryz.prog Tryz.f5 [] false w args∧laidMetH Tryz.prog Rows.poolFairRow.laid w)∧sizedMet enc Tryz.prog Tryz.f5 (OpenSpec.ofChange Rows.poolFairSpec) false w args)
  (Rows.poolFairSpec.post enc Tryz.prog Tryz.f5 false true false false):=by
 refine returnsInHanded_of_change_and (C:=Tryz.checked) (X:=fun w _=>laidMetH Tryz.prog Rows.poolFairRow.laid w) (fun _ _ _ hh h=>h.of_heap hh) own started kR Tryz.func5
  (ChangeSpec.witness_shaped (enc:=enc) (C:=Tryz.checked) (os:=os) (X:=fun w _=>laidMetH Tryz.prog Rows.poolFairRow.laid w) false (World.doorLaid Tryz.prog 400 os) #[.int .i64 0,.int .i64 0] 8 rfl (World.shaped_of_RefB kR kR) kR kR kR (met os _)) ?_
 intro W base args ds gs before hval0 hW _ _ hL _
 have hval: ∀(j:Nat) t v,Tryz.f5.params[j]?=some t→args[j]?=some v→Value.okWide Tryz.prog W .any base t v:=hval0
 have hW':=hW
 obtain⟨p,q,hA0,hV,rfl,hfz,hnd⟩:=hW
 have hA:DataW.TrodAll enc Tryz.prog W 0 (fun _=>true) true Tryz.f5.params.toList args.toList ds p:=hA0
 rw[Tryz.params5] at hA hval
 obtain⟨rfl,rfl⟩:=qL hV
 obtain⟨v0,v1,d0,d1,p0,p1,rfl,rfl,rfl,h0,h1⟩:=trodAll_two hA
 obtain⟨x0,rfl,rfl,rfl,wx0⟩:=open_int bD (hval 0 _ v0 rfl rfl) h0
 obtain⟨x1,rfl,rfl,rfl,wx1⟩:=open_int bD (hval 1 _ v1 rfl rfl) h1
 have hL':laidMetH Tryz.prog Rows.slabActsRow.laid W:=hL
 obtain⟨ev,hE⟩:=x9 hL'
 refine(uW x0 x1 W hE).mono fun e W' ⟨he,hb⟩=> ?_
 subst he
 exact⟨_,rfl,law_post rfl rfl kR (by decide+kernel) hW' hb _⟩
end jV
end
end Go.Proofs.YtdcbhlcbiokbeaaGreatDoor
