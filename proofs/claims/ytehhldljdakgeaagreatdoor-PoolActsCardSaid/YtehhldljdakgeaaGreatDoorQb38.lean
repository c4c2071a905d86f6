/- Lemmas. -/
import Derived.Test.YtehhldljdakgeaaGreatDoorQb01
import Derived.Test.YtehhldljdakgeaaGreatDoorQb25
import Derived.Test.YtehhldljdakgeaaGreatDoorQb36
import Derived.Test.YtehhldljdakgeaaGreatDoorQb37
set_option linter.unusedSimpArgs false
set_option linter.unusedVariables false
set_option maxHeartbeats 16000000
set_option maxRecDepth 100000
namespace Go.Proofs.YtehhldljdakgeaaGreatDoor
open Go.RowKit Go.Maps Go.Proofs.Tryz
attribute [local go_sem ↓] aJ aK
section
open Go.ChangeShapes Go.WideShapes Go.ChangeAt Go.RowKit Go.Joins
namespace sQ
theorem own:ownKnob prog.godebug=none:=kR
theorem met (os:Os) (args:Array Value):laidMetH prog Rows.poolActsRow.laid ((World.doorLaid prog 400 os).forCall (fun _ _=>0) ⟨#[],args,[]⟩).memory:=
 laidMetH_of_parts3 (fuel:=8) (laidMet_of_run' 8 kR kR) kR kR
theorem lifted (os:Os) (started:os.Started) (H:Type) (enc:TypeId×Value→H):
 ReturnsInHanded {} Tryz.checked os 3 .any (fun w args=>(Rows.poolActsSpec.pre enc prog Tryz.f3 [] false w args∧laidMetH prog Rows.poolActsRow.laid w)∧sizedMet enc prog Tryz.f3 (OpenSpec.ofChange Rows.poolActsSpec) false w args)
  (Rows.poolActsSpec.post enc prog Tryz.f3 false true false false):=by
 refine returnsInHanded_of_change_and (C:=Tryz.checked) (X:=fun w _=>laidMetH prog Rows.poolActsRow.laid w) (fun _ _ _ hh h=>h.of_heap hh) own started kR Tryz.func3
  (jc (enc:=enc) (C:=Tryz.checked) (os:=os) (X:=fun w _=>laidMetH prog Rows.poolActsRow.laid w) false (World.doorLaid prog 400 os) #[.int .i64 0,.int .i64 0,.int .i64 0,.int .i64 0,.slice none 0 0] 8 rfl (jO kR kR) kR kR kR (met os _)) ?_
 intro W base args ds gs before hval0 hW _ _ hL _;have hval: ∀(j:Nat) t v,Tryz.f3.params[j]?=some t→args[j]?=some v→Value.okWide prog W .any base t v:=hval0;have hW':=hW;obtain⟨p,q,hA0,hV,rfl,hfz,hnd⟩:=hW;have hA:DataW.TrodAll enc prog W 0 (fun _=>true) true Tryz.f3.params.toList args.toList ds p:=hA0;rw[Tryz.params3] at hA hval;obtain⟨rfl,rfl⟩:=uM hV;obtain⟨v0,v1,v2,v3,v4,d0,d1,d2,d3,d4,p0,p1,p2,p3,p4,rfl,rfl,rfl,h0,h1,h2,h3,h4⟩:=J3 hA;obtain⟨x0,rfl,rfl,rfl,wx0⟩:=open_int bB (hval 0 _ v0 rfl rfl) h0;obtain⟨x1,rfl,rfl,rfl,wx1⟩:=open_int bB (hval 1 _ v1 rfl rfl) h1;obtain⟨x2,rfl,rfl,rfl,wx2⟩:=open_int bB (hval 2 _ v2 rfl rfl) h2;obtain⟨x3,rfl,rfl,rfl,wx3⟩:=open_int bB (hval 3 _ v3 rfl rfl) h3;obtain⟨u4,l4,c4,rfl⟩:=okWide_slice Tryz.underlying22 (hval 4 _ v4 rfl rfl);obtain⟨_,hf4⟩:=h4;obtain⟨xs4,hx4⟩:=Ub hf4;have hL':laidMetH prog Rows.poolActsRow.laid W:=hL;obtain⟨ev,hE⟩:=wY hL';refine(Gq x0 x1 x2 x3 _ xs4 W hE (oW wx1) (oW wx3) hx4).mono fun e W' ⟨he,hb⟩=> ?_
 subst he;exact⟨_,rfl,Gf rfl rfl kR (by decide+kernel) hW' hb _⟩
end sQ
end
