/- The laws' asBuddy by its contract: a buddy and the document's, with the same blocks. -/
import Derived.Test.YtcooflachcimbaaDoorRefW
import Derived.Test.YtcooflachcimbaaDoorBudE
import Derived.Test.YtcooflachcimbaaDoorBudK
import Derived.Deep.RegionHeld3
namespace Go.Proofs.YtcooflachcimbaaDoor
open Go.RowKit Go.Maps
set_option linter.unusedSimpArgs false

set_option maxHeartbeats 4000000 in
set_option maxRecDepth 100000 in
theorem asBuddy_ok {X : List Nat} (pb pm : Nat) (n : Int) (bf bt : Nat) (vF vT : Value) (F T : List (Int × Int)) (w : World) (h : Bud w pb n bf bt F T) (hr : RBud X w pm n vF vT F T) (hI : Inv n F T) :
    Calls Tryd.prog 44 #[.pointer (some ⟨pb, 0, none⟩), .pointer (some ⟨pm, 0, none⟩)] w fun e w' => e = .returned (.bool true) ∧ Below w.heap.size w w' := by
  have HB := Lib.hid h; have HR := Lib.hid hr; have HI := Lib.hid hI
  have lpm := hr.lt
  clear h hr hI
  go_enter Tryd.func44, Tryd.ntmps44
  go_wp2_with fail
  refine (pages_ok pb n bf bt F T w HB.out).mono ?_
  rintro e w1 ⟨rfl, hb1⟩
  have z1 := hb1.size
  have B1 := HB.out.below hb1
  have R1 := HR.out.below hb1
  have lp1 := R1.lt
  have FR : Hid (∀ w' : World, Below w1.heap.size w1 w' → Calls Tryd.prog 33 #[.pointer (some ⟨pb, 0, none⟩)] w' fun e w'' => ∃ v, e = .returned v ∧ OwnB w' w'' v F) := fun w' hb => free_ok pb n bf bt F T w' (B1.below hb)
  have TR : Hid (∀ w' : World, Below w1.heap.size w1 w' → Calls Tryd.prog 34 #[.pointer (some ⟨pb, 0, none⟩)] w' fun e w'' => ∃ v, e = .returned v ∧ OwnB w' w'' v T) := fun w' hb => taken_ok pb n bf bt F T w' (B1.below hb)
  have SF : Hid (∀ w0 (w' : World) (v : Value), Below w1.heap.size w1 w' → OwnB w0 w' v F → Calls Tryd.prog 30 #[v, vF] w' fun e w'' => e = .returned (.bool true) ∧ Below w'.heap.size w' w'') := fun w0 w' v hb ho => same_yes v vF F w' ho.rowT.rowB (R1.below hb).rF.rowT.rowB
  have ST : Hid (∀ w0 (w' : World) (v : Value), Below w1.heap.size w1 w' → OwnB w0 w' v T → Calls Tryd.prog 30 #[v, vT] w' fun e w'' => e = .returned (.bool true) ∧ Below w'.heap.size w' w'') := fun w0 w' v hb ho => same_yes v vT T w' ho.rowT.rowB (R1.below hb).rT.rowT.rowB
  have FP : Hid (∀ w' : World, Below w1.heap.size w1 w' → Calls Tryd.prog 61 #[.pointer (some ⟨pm, 0, none⟩)] w' fun e w'' => e = .returned (.int .i64 (sumL F)) ∧ Below w'.heap.size w' w'') := fun w' hb => freePages_ok pm n vF vT F T w' (R1.below hb) HI.out
  have BB0 : Hid (∀ w' : World, Below w1.heap.size w1 w' → w'.cell? ⟨pm, 0, none⟩ = some (.int .i64 n)) := fun w' hb => (hb.cell (p := ⟨pm, 0, none⟩) lp1).trans R1.c0
  have BB1 : Hid (∀ w' : World, Below w1.heap.size w1 w' → w'.cell? ⟨pm, 1, none⟩ = some vF) := fun w' hb => (hb.cell (p := ⟨pm, 1, none⟩) lp1).trans R1.c1
  have BB2 : Hid (∀ w' : World, Below w1.heap.size w1 w' → w'.cell? ⟨pm, 2, none⟩ = some vT) := fun w' hb => (hb.cell (p := ⟨pm, 2, none⟩) lp1).trans R1.c2
  have y0 := R1.c0; have y1 := R1.c1; have y2 := R1.c2
  clear B1 R1
  go_wp2_with fail
  go_region_held3 (fun w' => w'.cell? ⟨pm, 0, none⟩ = some (.int .i64 n) ∧ w'.cell? ⟨pm, 1, none⟩ = some vF ∧ w'.cell? ⟨pm, 2, none⟩ = some vT) (go_keep) (first
    | (go_at_call 33; refine (FR.out _ ((Below.refl _ _).drew)).mono ?_; rintro e wa ⟨va, rfl, hoa⟩; have cba : Below w1.heap.size w1 wa := ((Below.refl _ _).drew).trans (hoa.2.mono (by simp)); have xa0 := BB0.out _ cba; have xa1 := BB1.out _ cba; have xa2 := BB2.out _ cba)
    | (go_at_call_of 30 va; refine (SF.out _ wa va cba hoa).mono ?_; rintro e wb ⟨rfl, hbb⟩; have cbb : Below w1.heap.size w1 wb := cba.trans (hbb.mono cba.size); have xb0 := BB0.out _ cbb; have xb1 := BB1.out _ cbb; have xb2 := BB2.out _ cbb)
    | (go_at_call 34; refine (TR.out wb cbb).mono ?_; rintro e wc ⟨vc, rfl, hoc⟩; have cbc : Below w1.heap.size w1 wc := cbb.trans (hoc.2.mono cbb.size); have xc0 := BB0.out _ cbc; have xc1 := BB1.out _ cbc; have xc2 := BB2.out _ cbc)
    | (go_at_call_of 30 vc; refine (ST.out _ wc vc cbc hoc).mono ?_; rintro e wd ⟨rfl, hbd⟩; have cbd : Below w1.heap.size w1 wd := cbc.trans (hbd.mono cbc.size); have xd0 := BB0.out _ cbd; have xd1 := BB1.out _ cbd; have xd2 := BB2.out _ cbd)
    | (go_at_call 61; refine (FP.out wd cbd).mono ?_; rintro e we ⟨rfl, hbe⟩; have cbe : Below w1.heap.size w1 we := cbd.trans (hbe.mono cbd.size); have xe0 := BB0.out _ cbe; have xe1 := BB1.out _ cbe; have xe2 := BB2.out _ cbe))
  all_goals
    have KE : Below w.heap.size w we := hb1.trans (cbe.mono z1)
    go_wp2
    go_ret
    exact ⟨by simp, KE⟩
end Go.Proofs.YtcooflachcimbaaDoor
