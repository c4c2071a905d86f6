/- The document's buddy: Split by its contracts. -/
import Derived.Test.YtcooflachcimbaaDoorRefT
import Derived.Test.YtcooflachcimbaaDoorBudG
import Derived.Test.YtcooflachcimbaaDoorQuiet
namespace Go.Proofs.YtcooflachcimbaaDoor
open Go.RowKit
set_option linter.unusedSimpArgs false

set_option maxHeartbeats 2000000 in
theorem rsplit_none {X : List Nat} (pm : Nat) (n : Int) (vF vT : Value) (F T : List (Int × Int)) (a k : Int) (w : World) (h : RBud X w pm n vF vT F T) (hlen : T.length ≤ 256) (hx : (a, k) ∉ T) :
    Calls Tryd.prog 42 #[.pointer (some ⟨pm, 0, none⟩), .agg #[.int .i64 a, .int .i64 k]] w fun e w' => e = .returned (.int .i64 4) ∧ Below w.heap.size w w' := by
  have c2 := h.c2; have lp := h.lt
  have FI : Hid (∀ w' : World, Below w.heap.size w w' → Calls Tryd.prog 59 #[vT, .agg #[.int .i64 a, .int .i64 k]] w' fun e w'' => e = .returned (.int .i64 (-1)) ∧ Below w'.heap.size w' w'') :=
    fun w' hb => find_no vT T a k w' ((h.below hb).rT.rowT) hx hlen
  clear h hx
  go_enter Tryd.func42, Tryd.ntmps42
  go_wp2
  refine wp_region_behind (by kernel_rfl) (by kernel_rfl) ?_
  repeat (go_big_quiet_step ((go_at_call 59; exact Calls.behind (FI.out _ (Below.trans (by exact (by repeat (first | exact Below.refl _ _ | refine Below.drew ?_ | refine below_drewN ?_ _ | refine Below.trans ?_ (Below.mono (by assumption) (by first | omega | (simp; omega) | (simp; done))) | refine Below.alloc ?_ (by first | omega | (simp; omega) | (simp; done)) _ | refine Below.setCell ?_ (by first | omega | (simp; omega) | (simp; done)) _))) ((Behind.h _).mono (by simp)))))))
  refine wpQuiet_nil ?_
  intro w1 hw'
  have hb1 := behind_out hw'
  clear hw'
  have z1 := hb1.size; try simp at z1
  go_wp2
  go_ret
  exact ⟨rfl, (by repeat (first | exact Below.refl _ _ | refine Below.drew ?_ | refine below_drewN ?_ _ | refine Below.trans ?_ (Below.mono (by assumption) (by first | omega | (simp; omega) | (simp; done))) | refine Below.alloc ?_ (by first | omega | (simp; omega) | (simp; done)) _ | refine Below.setCell ?_ (by first | omega | (simp; omega) | (simp; done)) _))⟩

set_option maxHeartbeats 2000000 in
theorem rsplit_shape {X : List Nat} (pm : Nat) (n : Int) (vF vT : Value) (F T : List (Int × Int)) (a : Int) (w : World) (h : RBud X w pm n vF vT F T) (hI : Inv n F T) (hx : (a, 0) ∈ T) :
    Calls Tryd.prog 42 #[.pointer (some ⟨pm, 0, none⟩), .agg #[.int .i64 a, .int .i64 0]] w fun e w' => e = .returned (.int .i64 3) ∧ Below w.heap.size w w' := by
  have c2 := h.c2; have lp := h.lt
  obtain ⟨j0, hj0, hno⟩ := asc_at hI.ta hx
  have lT := hI.lenT
  have FI : Hid (∀ w' : World, Below w.heap.size w w' → Calls Tryd.prog 59 #[vT, .agg #[.int .i64 a, .int .i64 0]] w' fun e w'' => e = .returned (.int .i64 (j0 : Int)) ∧ Below w'.heap.size w' w'') :=
    fun w' hb => find_yes vT T a 0 j0 w' ((h.below hb).rT.rowT) hj0 hno lT
  have jz : ¬ (j0 : Int) < 0 := by omega
  clear h hI hx hj0 hno
  go_enter Tryd.func42, Tryd.ntmps42
  go_wp2
  refine wp_region_behind (by kernel_rfl) (by kernel_rfl) ?_
  repeat (go_big_quiet_step ((go_at_call 59; exact Calls.behind (FI.out _ (Below.trans (by exact (by repeat (first | exact Below.refl _ _ | refine Below.drew ?_ | refine below_drewN ?_ _ | refine Below.trans ?_ (Below.mono (by assumption) (by first | omega | (simp; omega) | (simp; done))) | refine Below.alloc ?_ (by first | omega | (simp; omega) | (simp; done)) _ | refine Below.setCell ?_ (by first | omega | (simp; omega) | (simp; done)) _))) ((Behind.h _).mono (by simp)))))))
  refine wpQuiet_nil ?_
  intro w1 hw'
  have hb1 := behind_out hw'
  clear hw'
  have z1 := hb1.size; try simp at z1
  have X1 := (Loc2.new w a 0 23).below hb1 (by simp)
  have x0 := X1.c0; have x1 := X1.c1; have xl := X1.lt
  clear X1 FI
  go_wp2
  go_ret
  exact ⟨rfl, (by repeat (first | exact Below.refl _ _ | refine Below.drew ?_ | refine below_drewN ?_ _ | refine Below.trans ?_ (Below.mono (by assumption) (by first | omega | (simp; omega) | (simp; done))) | refine Below.alloc ?_ (by first | omega | (simp; omega) | (simp; done)) _ | refine Below.setCell ?_ (by first | omega | (simp; omega) | (simp; done)) _))⟩
theorem putL_delL {T : List (Int × Int)} (hA : Asc T) (a k : Int) : putL a k (delL a T) = putL a k T := by
  refine asc_ext ((hA.del a).put a k) (hA.put a k) fun b => ?_
  rw [getL_put _ _ _ (hA.del a), getL_put _ _ _ hA, getL_del]
  by_cases e : a = b
  · simp [e]
  · simp [e]
theorem Inv.split_abs {n : Int} {F T : List (Int × Int)} (h : Inv n F T) {a k : Int} (k1 : 1 ≤ k) (hx : (a, k) ∈ T) : ∀ z ∈ putL a (k - 1) (delL a T), z.1 ≠ a + sz (k - 1) := by
  intro z hz e
  have hb := h.t.blk (h.memT hx)
  have h6 := hb.2.2.1
  simp only at h6
  have s1 := sz_pos (k - 1)
  have s2 := sz_succ (k := k - 1) (by omega) (by omega)
  rw [show k - 1 + 1 = k by omega] at s2
  rcases (mem_putL (h.ta.del a)).1 hz with rfl | ⟨hz, hne⟩
  · simp only at e; omega
  · have hzT := (mem_delL.1 hz).1
    have := h.t.one (h.memT hzT) (h.memT hx) (p := z.1) (inn_at z) ⟨by show a ≤ z.1; omega, by show z.1 < a + sz k; omega⟩
    exact hne (by rw [this])

set_option maxHeartbeats 4000000 in
set_option maxRecDepth 100000 in
theorem rsplit_yes {X : List Nat} (pm : Nat) (n : Int) (vF vT : Value) (F T : List (Int × Int)) (a k : Int) (w : World) (h : RBud X w pm n vF vT F T) (hX : ∀ x ∈ X, x < w.heap.size) (hI : Inv n F T) (hx : (a, k) ∈ T) (k1 : 1 ≤ k) :
    Calls Tryd.prog 42 #[.pointer (some ⟨pm, 0, none⟩), .agg #[.int .i64 a, .int .i64 k]] w fun e w' => ∃ vT', e = .returned (.int .i64 0) ∧ RBud X w' pm n vF vT' F (putL (a + sz (k - 1)) (k - 1) (putL a (k - 1) T)) ∧ Keep [pm] w w' := by
  have c2 := h.c2; have lp := h.lt
  have hrx := hI.rngT hx
  simp only at hrx
  obtain ⟨j0, hj0, hno⟩ := asc_at hI.ta hx
  have hjT := (List.getElem?_eq_some_iff.1 hj0).1
  have lT := hI.lenT
  have edel := delL_cut hI.ta hj0
  simp only at edel
  have FI : Hid (∀ w' : World, Below w.heap.size w w' → Calls Tryd.prog 59 #[vT, .agg #[.int .i64 a, .int .i64 k]] w' fun e w'' => e = .returned (.int .i64 (j0 : Int)) ∧ Below w'.heap.size w' w'') :=
    fun w' hb => find_yes vT T a k j0 w' ((h.below hb).rT.rowT) hj0 hno lT
  have WO : Hid (∀ w' : World, Below w.heap.size w w' → Calls Tryd.prog 57 #[vT, .int .i64 (j0 : Int)] w' fun e w'' => ∃ v', e = .returned v' ∧ OwnB w' w'' v' (delL a T)) :=
    fun w' hb => by
      have := without_ok vT T j0 w' ((h.below hb).rT.rowT) hjT lT
      rwa [← edel] at this
  have habs := hI.split_abs k1 hx
  have hl1 : (delL a T).length ≤ 256 := Nat.le_trans (List.length_filter_le _ _) lT
  have hl2 : (putL a (k - 1) (delL a T)).length ≤ 256 := by
    rw [putL_delL hI.ta]
    exact asc_len256 (hI.ta.put _ _) (fun p hp => by
      rcases putL_mem hp with rfl | hp
      · exact ⟨hrx.1, hrx.2.1, by show (0 : Int) ≤ k - 1; omega, by show k - 1 ≤ 6; omega⟩
      · exact hI.rngT hp)
  have W1 : Hid (∀ w0 (w' w2 : World) (v : Value), OwnB w0 w' v (delL a T) → Below w'.heap.size w' w2 → Calls Tryd.prog 58 #[v, .agg #[.int .i64 a, .int .i64 (k - 1)]] w2 fun e w'' => ∃ v', e = .returned v' ∧ OwnB w2 w'' v' (putL a (k - 1) (delL a T))) :=
    fun w0 w' w2 v ho hb => with_ok v _ _ _ w2 ((ho.rowT.below hb).mono (Nat.zero_le _)) (hI.ta.del a) (fun z hz => (mem_delL.1 hz).2) hl1
  have W2 : Hid (∀ w0 (w' w2 : World) (v : Value), OwnB w0 w' v (putL a (k - 1) (delL a T)) → Below w'.heap.size w' w2 → Calls Tryd.prog 58 #[v, .agg #[.int .i64 (a + sz (k - 1)), .int .i64 (k - 1)]] w2 fun e w'' => ∃ v', e = .returned v' ∧ OwnB w2 w'' v' (putL (a + sz (k - 1)) (k - 1) (putL a (k - 1) (delL a T)))) :=
    fun w0 w' w2 v ho hb => with_ok v _ _ _ w2 ((ho.rowT.below hb).mono (Nat.zero_le _)) ((hI.ta.del a).put _ _) habs hl2
  have hblk := (hI.t.blk (hI.memT hx)).2.2.2
  obtain ⟨m1, m2, _⟩ := half_bud (a := a) (k := k - 1) (by omega) (by omega) (by rw [show k - 1 + 1 = k by omega]; exact hblk)
  have BO := Lib.hid (fun w => buddyOf_ok a (k - 1) w hrx.1 (by omega) (by omega) (by omega) m1)
  simp only [m2] at BO
  have PD := Lib.hid (putL_delL hI.ta a (k - 1))
  have HR := Lib.hid h; have HX := Lib.hid hX
  have jz : ¬ (j0 : Int) < 0 := by omega
  have kz : (k == 0) = false := beq_eq_false_iff_ne.2 (by omega)
  clear h hX hI hx hj0 hno edel habs hblk m1 m2
  go_enter Tryd.func42, Tryd.ntmps42
  go_wp2
  refine wp_region_behind (by kernel_rfl) (by kernel_rfl) ?_
  repeat (go_big_quiet_step ((go_at_call 59; exact Calls.behind (FI.out _ (Below.trans (by exact (by repeat (first | exact Below.refl _ _ | refine Below.drew ?_ | refine below_drewN ?_ _ | refine Below.trans ?_ (Below.mono (by assumption) (by first | omega | (simp; omega) | (simp; done))) | refine Below.alloc ?_ (by first | omega | (simp; omega) | (simp; done)) _ | refine Below.setCell ?_ (by first | omega | (simp; omega) | (simp; done)) _))) ((Behind.h _).mono (by simp)))))))
  refine wpQuiet_nil ?_
  intro w1 hw'
  have hb1 := behind_out hw'
  clear hw'
  have z1 := hb1.size; try simp at z1
  have X1 := (Loc2.new w a k 23).below hb1 (by simp)
  have x0 := X1.c0; have x1 := X1.c1; have xl := X1.lt
  have bel1 : Below w.heap.size w w1 := Below.trans (by exact (by repeat (first | exact Below.refl _ _ | refine Below.drew ?_ | refine below_drewN ?_ _ | refine Below.trans ?_ (Below.mono (by assumption) (by first | omega | (simp; omega) | (simp; done))) | refine Below.alloc ?_ (by first | omega | (simp; omega) | (simp; done)) _ | refine Below.setCell ?_ (by first | omega | (simp; omega) | (simp; done)) _))) (hb1.mono (by simp))
  clear X1 FI
  go_wp2_with fail
  obtain ⟨w2, hw2⟩ : ∃ w2, w2 = w1.alloc (.cells #[.int .i64 a, .int .i64 (k - 1)] 23) := ⟨_, rfl⟩
  have L2 := Loc2.new w1 a (k - 1) 23
  rw [← hw2] at L2 ⊢
  have bel2 : Below w.heap.size w w2 := by rw [hw2]; exact (by repeat (first | exact Below.refl _ _ | refine Below.drew ?_ | refine below_drewN ?_ _ | refine Below.trans ?_ (Below.mono (by assumption) (by first | omega | (simp; omega) | (simp; done))) | refine Below.alloc ?_ (by first | omega | (simp; omega) | (simp; done)) _ | refine Below.setCell ?_ (by first | omega | (simp; omega) | (simp; done)) _))
  have R2 := HR.out.below bel2
  have lp2 := R2.lt; have ll := L2.lt
  clear hw2 x0 x1 bel1
  have BB0 : Hid (∀ w' : World, Below w2.heap.size w2 w' → w'.cell? ⟨pm, 2, none⟩ = some vT) := fun w' hb => (hb.cell (p := ⟨pm, 2, none⟩) lp2).trans R2.c2
  have BB1 : Hid (∀ w' : World, Below w2.heap.size w2 w' → w'.cell? ⟨w1.heap.size, 0, none⟩ = some (.int .i64 a)) := fun w' hb => (hb.cell (p := ⟨w1.heap.size, 0, none⟩) ll).trans L2.c0
  have BB2 : Hid (∀ w' : World, Below w2.heap.size w2 w' → w'.cell? ⟨w1.heap.size, 1, none⟩ = some (.int .i64 (k - 1))) := fun w' hb => (hb.cell (p := ⟨w1.heap.size, 1, none⟩) ll).trans L2.c1
  have BBF : Hid (∀ w' : World, Below w2.heap.size w2 w' → w'.frozen? ⟨pm, 2, none⟩ = false) := fun w' hb => (hb.frozen (p := ⟨pm, 2, none⟩) lp2).trans R2.f2
  have y0 := R2.c2; have y1 := L2.c0; have y2 := L2.c1
  go_region_with (first
    | (go_at_call 57; refine (WO.out _ ?_).mono ?_; (first | exact bel2.drew | exact bel2.trans (cbd.mono bel2.size)); rintro e wa ⟨va, rfl, hoa⟩; (first | have cba : Below w2.heap.size w2 wa := ((Below.refl _ _).drew).trans (hoa.2.mono (by simp)) | have cba : Below w2.heap.size w2 wa := cbd.trans (hoa.2.mono cbd.size)); have xa0 := BB0.out _ cba; have xa1 := BB1.out _ cba; have xa2 := BB2.out _ cba; have xaf := BBF.out _ cba)
    | (go_at_call_of 58 va; refine (W1.out _ wa _ va hoa ?_).mono ?_; (first | exact Below.refl _ _ | exact hbd); rintro e wb ⟨vb, rfl, hob⟩; (first | have cbb : Below w2.heap.size w2 wb := cba.trans (hob.2.mono cba.size) | have cbb : Below w2.heap.size w2 wb := cbd.trans (hob.2.mono cbd.size)); have xb0 := BB0.out _ cbb; have xb1 := BB1.out _ cbb; have xb2 := BB2.out _ cbb; have xbf := BBF.out _ cbb)
    | (go_at_call 26; refine (BO.out _).mono ?_; rintro e wd ⟨rfl, hbd⟩; (first | have cbd : Below w2.heap.size w2 wd := cbb.trans (hbd.mono cbb.size) | have cbd : Below w2.heap.size w2 wd := cba.trans (hbd.mono cba.size) | have cbd : Below w2.heap.size w2 wd := ((Below.refl _ _).drew).trans (hbd.mono (by simp))); have xd0 := BB0.out _ cbd; have xd1 := BB1.out _ cbd; have xd2 := BB2.out _ cbd; have xdf := BBF.out _ cbd)
    | (go_at_call_of 58 vb; refine (W2.out _ wb _ vb hob ?_).mono ?_; (first | exact Below.refl _ _ | exact hbd); rintro e wc ⟨vc, rfl, hoc⟩; obtain ⟨t1, t2, t3, rfl⟩ := hoc.isSlice; (first | have cbc : Below w2.heap.size w2 wc := cbb.trans (hoc.2.mono cbb.size) | have cbc : Below w2.heap.size w2 wc := cbd.trans (hoc.2.mono cbd.size)); have xc0 := BB0.out _ cbc; have xc1 := BB1.out _ cbc; have xc2 := BB2.out _ cbc; have xcf := BBF.out _ cbc))
  all_goals
    have rowc := RowX.of hoc (fun x hx => by have := HX.out x hx; have := bel2.size; have := cbb.size; have := cbd.size; omega)
    have R13 := (R2.below cbc).setT rowc
    rw [PD.out] at R13
    have HR13 := Lib.hid R13
    have K13 := Lib.hid ((Keep.of (S := [pm]) bel2).then ((Keep.of cbc).setCell (p := ⟨pm, 2, none⟩) (.inl (by simp)) (.slice t1 t2 t3)))
    clear R13 rowc hoc cbc
    go_wp2
    go_ret
    exact ⟨_, rfl, HR13.out, K13.out⟩
end Go.Proofs.YtcooflachcimbaaDoor
