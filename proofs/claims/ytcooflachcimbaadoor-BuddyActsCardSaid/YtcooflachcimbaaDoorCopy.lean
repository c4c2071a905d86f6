/- (*Buddy).Copy by its contract: a buddy of its own, with the same blocks. -/
import Derived.Test.YtcooflachcimbaaDoorBudN
import Derived.Test.YtcooflachcimbaaDoorSort
import Derived.Shelf.SlMaps.Clone
import Derived.Deep.RegionHeld3
namespace Go.Proofs.YtcooflachcimbaaDoor
open Go.RowKit Go.Maps
set_option linter.unusedSimpArgs false

theorem clone_ok (b : Nat) (l : List (Int × Int)) (w : World) (h : MapB w b l) :
    Calls Tryd.prog 60 #[.map (some b)] w fun e w' => e = .returned (.map (some w.heap.size)) ∧ MapB w' w.heap.size l ∧ Below w.heap.size w w' := by
  have := AnyW.maps_Clone_owns Tryd.cloneA 3 _ b l.length (toD (H := Unit) l) w h.own
  exact this.mono fun e w' ⟨h1, h2, _, h4⟩ => ⟨h1, ⟨h.asc, h2, h.few, h.rng⟩, h4⟩

/-- what a copy's making has come to: nothing older has turned; what has been cloned lies where it was told -/
def CpS (w : World) (pb : Nat) (n : Int) (bf bt : Nat) (F T : List (Int × Int)) (w' : World) : Prop := Below w.heap.size w w' ∧ Bud w' pb n bf bt F T

set_option maxHeartbeats 4000000 in
set_option maxRecDepth 100000 in
theorem copy_ok (pb : Nat) (n : Int) (bf bt : Nat) (F T : List (Int × Int)) (w : World) (h : Bud w pb n bf bt F T) :
    Calls Tryd.prog 43 #[.pointer (some ⟨pb, 0, none⟩)] w fun e w' => ∃ pb' bf' bt', e = .returned (.pointer (some ⟨pb', 0, none⟩)) ∧ Bud w' pb' n bf' bt' F T ∧ (w.heap.size ≤ pb' ∧ w.heap.size ≤ bf' ∧ w.heap.size ≤ bt') ∧ Below w.heap.size w w' := by
  have lp := h.ltp
  have c0 := h.c0; have c1 := h.c1; have c2 := h.c2
  have HB := Lib.hid h
  have lf := h.ltf; have lt := h.ltt
  clear h
  go_enter Tryd.func43, Tryd.ntmps43
  go_wp2_with fail
  have b0 : ∀ w' : World, Below w.heap.size w w' → w'.cell? ⟨pb, 0, none⟩ = some (.int .i64 n) := fun w' hb => (hb.cell (p := ⟨pb, 0, none⟩) lp).trans c0
  have b1 : ∀ w' : World, Below w.heap.size w w' → w'.cell? ⟨pb, 1, none⟩ = some (.map (some bf)) := fun w' hb => (hb.cell (p := ⟨pb, 1, none⟩) lp).trans c1
  have b2 : ∀ w' : World, Below w.heap.size w w' → w'.cell? ⟨pb, 2, none⟩ = some (.map (some bt)) := fun w' hb => (hb.cell (p := ⟨pb, 2, none⟩) lp).trans c2
  have BB0 := Lib.hid b0; have BB1 := Lib.hid b1; have BB2 := Lib.hid b2
  clear b0 b1 b2
  go_region_held3 (fun w' => w'.cell? ⟨pb, 0, none⟩ = some (.int .i64 n) ∧ w'.cell? ⟨pb, 1, none⟩ = some (.map (some bf)) ∧ w'.cell? ⟨pb, 2, none⟩ = some (.map (some bt))) (go_keep) (first
      | (go_at_call_of 60 (Value.map (some bf)); refine (clone_ok bf F _ ?_).mono ?_; (first | exact HB.out.free.keep ((Keep.refl [] _).drew) (by simp) | exact HB.out.free.keep (((Keep.refl [] _).drew).step hbb) (by simp)); rintro e wa ⟨rfl, hma, hba⟩; have hza := hba.size; (first | have cba : Below w.heap.size w wa := (((Below.refl _ _).drew).trans (hbb.mono (by simp))).trans (hba.mono hzb) | have cba : Below w.heap.size w wa := ((Below.refl _ _).drew).trans (hba.mono (by simp))); have xa0 := BB0.out _ cba; have xa1 := BB1.out _ cba; have xa2 := BB2.out _ cba)
      | (go_at_call_of 60 (Value.map (some bt)); refine (clone_ok bt T _ ?_).mono ?_; (first | exact HB.out.taken.keep ((Keep.refl [] _).drew) (by simp) | exact HB.out.taken.keep (((Keep.refl [] _).drew).step hba) (by simp)); rintro e wb ⟨rfl, hmb, hbb⟩; have hzb := hbb.size; (first | have cbb : Below w.heap.size w wb := (((Below.refl _ _).drew).trans (hba.mono (by simp))).trans (hbb.mono hza) | have cbb : Below w.heap.size w wb := ((Below.refl _ _).drew).trans (hbb.mono (by simp))); have xb0 := BB0.out _ cbb; have xb1 := BB1.out _ cbb; have xb2 := BB2.out _ cbb))
  all_goals
    have hma' : MapB wa w.heap.size F := hma
    have zwa : w.heap.size < wa.heap.size := hma'.own.lt
    have zwb : wa.heap.size < wb.heap.size := hmb.own.lt
    have hmf := (hma'.below hbb (by omega)).keep ((Keep.refl [] _).alloc (.cells #[.int .i64 n, .map (some w.heap.size), .map (some wa.heap.size)] 86)) (by simp)
    have hmt := hmb.keep ((Keep.refl [] _).alloc (.cells #[.int .i64 n, .map (some w.heap.size), .map (some wa.heap.size)] 86)) (by simp)
    have HF := Lib.hid hmf; have HT := Lib.hid hmt
    have KK := Lib.hid (cbb.alloc (by omega) (.cells #[.int .i64 n, .map (some w.heap.size), .map (some wa.heap.size)] 86))
    clear hma hma' hmb hmf hmt hba hbb
    go_wp2
    go_ret
    refine ⟨_, _, _, rfl, ⟨?_, ?_, ?_, HF.out, HT.out, by omega, by omega, by omega⟩, ⟨by omega, by omega, by omega⟩, KK.out⟩
    · rw [World.cell?_alloc_at _ _ _ _ (by simp)]; rfl
    · rw [World.cell?_alloc_at _ _ _ _ (by simp)]; rfl
    · rw [World.cell?_alloc_at _ _ _ _ (by simp)]; rfl
end Go.Proofs.YtcooflachcimbaaDoor
