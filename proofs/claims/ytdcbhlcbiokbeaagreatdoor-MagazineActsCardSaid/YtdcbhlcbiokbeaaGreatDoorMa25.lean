/- Lemmas and contracts for the claim's last text: MagazineActsCL. -/
import Derived.Test.YtdcbhlcbiokbeaaGreatDoorMa01
import Derived.Test.YtdcbhlcbiokbeaaGreatDoorMa05
import Derived.Test.YtdcbhlcbiokbeaaGreatDoorMa24
set_option linter.unusedSimpArgs false
set_option linter.unusedVariables false
set_option maxHeartbeats 16000000
set_option maxRecDepth 100000
namespace Go.Proofs.YtdcbhlcbiokbeaaGreatDoor
section
open Go.ChangeShapes Go.WideShapes Go.ChangeAt Go.RowKit Go.Joins
namespace jq
theorem own:ownKnob Tryz.prog.godebug=none:=kR
theorem met (os:Os) (args:Array Value):laidMetH Tryz.prog Rows.magazineActsRow.laid ((World.doorLaid Tryz.prog 400 os).forCall (fun _ _=>0) ⟨#[],args,[]⟩).memory:=
 laidMetH_of_parts3 (fuel:=8) (laidMet_of_run' 8 kR kR) kR kR
theorem lifted (os:Os) (started:os.Started) (H:Type) (enc:TypeId×Value→H):
 ReturnsInHanded {} Tryz.checked os 4 .any (fun w args=>(Rows.magazineActsSpec.pre enc Tryz.prog Tryz.f4 [] false w args∧laidMetH Tryz.prog Rows.magazineActsRow.laid w)∧sizedMet enc Tryz.prog Tryz.f4 (OpenSpec.ofChange Rows.magazineActsSpec) false w args)
  (Rows.magazineActsSpec.post enc Tryz.prog Tryz.f4 false true false false):=by
 refine returnsInHanded_of_change_and (C:=Tryz.checked) (X:=fun w _=>laidMetH Tryz.prog Rows.magazineActsRow.laid w) (fun _ _ _ hh h=>h.of_heap hh) own started kR Tryz.func4
  (ChangeSpec.witness_shaped (enc:=enc) (C:=Tryz.checked) (os:=os) (X:=fun w _=>laidMetH Tryz.prog Rows.magazineActsRow.laid w) false (World.doorLaid Tryz.prog 400 os) #[.agg #[.slice none 0 0,.slice none 0 0,.int .i64 0,.int .i64 0,.int .i64 0],.int .i64 0,.int .i64 0,.slice none 0 0] 8 rfl (World.shaped_of_RefB kR kR) kR kR kR (met os _)) ?_
 intro W base args ds gs before hval0 hW _ _ hL _
 have hval: ∀(j:Nat) t v,Tryz.f4.params[j]?=some t→args[j]?=some v→Value.okWide Tryz.prog W .any base t v:=hval0
 have hW':=hW
 obtain⟨p,q,hA0,hV,rfl,hfz,hnd⟩:=hW
 have hA:DataW.TrodAll enc Tryz.prog W 0 (fun _=>true) true Tryz.f4.params.toList args.toList ds p:=hA0
 rw[Tryz.params4] at hA hval
 obtain⟨rfl,rfl⟩:=tu hV
 obtain⟨v0,v1,v2,v3,d0,d1,d2,d3,p0,p1,p2,p3,rfl,rfl,rfl,h0,h1,h2,h3⟩:=trodAll_four hA
 obtain⟨vP,vN,P,N,mn,lw,hi,rfl,hcfg,⟨wmn,wlw,whi⟩,fP,fN⟩:=ER (hval 0 _ v0 rfl rfl) h0
 obtain⟨x1,rfl,rfl,rfl,wx1⟩:=open_int bg (hval 1 _ v1 rfl rfl) h1
 obtain⟨x2,rfl,rfl,rfl,wx2⟩:=open_int bg (hval 2 _ v2 rfl rfl) h2
 obtain⟨u3,l3,c3,rfl⟩:=okWide_slice Tryz.underlying73 (hval 3 _ v3 rfl rfl)
 obtain⟨_,hf3⟩:=h3
 obtain⟨xs3,hx3⟩:=DU hf3
 have hL':laidMetH Tryz.prog Rows.slabActsRow.laid W:=hL
 obtain⟨ev,hE⟩:=zW hL'
 refine(sO vP vN _ P N mn lw hi x1 x2 xs3 W hE hcfg whi.2 hx3).mono fun e W' ⟨he,hb⟩=> ?_
 subst he
 exact⟨_,rfl,law_post rfl rfl kR (by decide+kernel) hW' hb _⟩
end jq
end
end Go.Proofs.YtdcbhlcbiokbeaaGreatDoor
