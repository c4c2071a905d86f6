/- The document's buddy: Give by its contracts. -/
import Derived.Test.YtcooflachcimbaaDoorRefT
import Derived.Test.YtcooflachcimbaaDoorBudG
import Derived.Test.YtcooflachcimbaaDoorQuiet
namespace Go.Proofs.YtcooflachcimbaaDoor
open Go.RowKit
set_option linter.unusedSimpArgs false

set_option maxHeartbeats 2000000 in
theorem rgive_none {X : List Nat} (pm : Nat) (n : Int) (vF vT : Value) (F T : List (Int × Int)) (a k : Int) (w : World) (h : RBud X w pm n vF vT F T) (hlen : T.length ≤ 256) (hx : (a, k) ∉ T) :
    Calls Tryd.prog 41 #[.pointer (some ⟨pm, 0, none⟩), .agg #[.int .i64 a, .int .i64 k]] w fun e w' => e = .returned (.int .i64 4) ∧ Below w.heap.size w w' := by
  have c2 := h.c2; have lp := h.lt
  have FI : Hid (∀ w' : World, Below w.heap.size w w' → Calls Tryd.prog 59 #[vT, .agg #[.int .i64 a, .int .i64 k]] w' fun e w'' => e = .returned (.int .i64 (-1)) ∧ Below w'.heap.size w' w'') :=
    fun w' hb => find_no vT T a k w' ((h.below hb).rT.rowT) hx hlen
  clear h hx
  go_enter Tryd.func41, Tryd.ntmps41
  go_wp2
  refine wp_region_behind (by kernel_rfl) (by kernel_rfl) ?_
  repeat (go_big_quiet_step ((go_at_call 59; exact Calls.behind (FI.out _ (Below.trans (by exact (by repeat (first | exact Below.refl _ _ | refine Below.drew ?_ | refine below_drewN ?_ _ | refine Below.trans ?_ (Below.mono (by assumption) (by first | omega | (simp; omega) | (simp; done))) | refine Below.alloc ?_ (by first | omega | (simp; omega) | (simp; done)) _ | refine Below.setCell ?_ (by first | omega | (simp; omega) | (simp; done)) _))) ((Behind.h _).mono (by simp)))))))
  refine wpQuiet_nil ?_
  intro w1 hw'
  have hb1 := behind_out hw'
  clear hw'
  have z1 := hb1.size; try simp at z1
  go_wp2
  go_ret
  exact ⟨rfl, (by repeat (first | exact Below.refl _ _ | refine Below.drew ?_ | refine below_drewN ?_ _ | refine Below.trans ?_ (Below.mono (by assumption) (by first | omega | (simp; omega) | (simp; done))) | refine Below.alloc ?_ (by first | omega | (simp; omega) | (simp; done)) _ | refine Below.setCell ?_ (by first | omega | (simp; omega) | (simp; done)) _))⟩

set_option maxHeartbeats 4000000 in
set_option maxRecDepth 100000 in
theorem rgive_yes {X : List Nat} (pm : Nat) (n : Int) (vF vT : Value) (F T : List (Int × Int)) (a k : Int) (w : World) (h : RBud X w pm n vF vT F T) (hX : ∀ x ∈ X, x < w.heap.size) (hI : Inv n F T) (hx : (a, k) ∈ T) :
    Calls Tryd.prog 41 #[.pointer (some ⟨pm, 0, none⟩), .agg #[.int .i64 a, .int .i64 k]] w fun e w' => ∃ vF' vT', e = .returned (.int .i64 0) ∧ RBud X w' pm n vF' vT' (giveF a k F) (delL a T) ∧ Keep [pm] w w' := by
  have c2 := h.c2; have lp := h.lt
  have pmX := h.mem
  have hrx := hI.rngT hx
  simp only at hrx
  obtain ⟨j0, hj0, hno⟩ := asc_at hI.ta hx
  have hjT := (List.getElem?_eq_some_iff.1 hj0).1
  have lT := hI.lenT
  have edel := delL_cut hI.ta hj0
  simp only at edel
  have FI : Hid (∀ w' : World, Below w.heap.size w w' → Calls Tryd.prog 59 #[vT, .agg #[.int .i64 a, .int .i64 k]] w' fun e w'' => e = .returned (.int .i64 (j0 : Int)) ∧ Below w'.heap.size w' w'') :=
    fun w' hb => find_yes vT T a k j0 w' ((h.below hb).rT.rowT) hj0 hno lT
  have WO : Hid (∀ w' : World, Below w.heap.size w w' → Calls Tryd.prog 57 #[vT, .int .i64 (j0 : Int)] w' fun e w'' => ∃ v', e = .returned v' ∧ OwnB w' w'' v' (delL a T)) :=
    fun w' hb => by
      have := without_ok vT T j0 w' ((h.below hb).rT.rowT) hjT lT
      rwa [← edel] at this
  have HR := Lib.hid (h.more (Y := w.heap.size :: X) (by simp [pmX]) (fun y hy => by simp at hy; rcases hy with rfl | hy; (· right; omega); (· left; exact hy)))
  have HX := Lib.hid hX
  have ih := Lib.hid (hI.handT hx)
  have GF := Lib.hid (show upP a k F = giveF a k F from rfl)
  have jz : ¬ (j0 : Int) < 0 := by omega
  clear h hX hI hx hj0 hno edel
  go_enter Tryd.func41, Tryd.ntmps41
  go_wp2
  refine wp_region_behind (by kernel_rfl) (by kernel_rfl) ?_
  repeat (go_big_quiet_step ((go_at_call 59; exact Calls.behind (FI.out _ (Below.trans (by exact (by repeat (first | exact Below.refl _ _ | refine Below.drew ?_ | refine below_drewN ?_ _ | refine Below.trans ?_ (Below.mono (by assumption) (by first | omega | (simp; omega) | (simp; done))) | refine Below.alloc ?_ (by first | omega | (simp; omega) | (simp; done)) _ | refine Below.setCell ?_ (by first | omega | (simp; omega) | (simp; done)) _))) ((Behind.h _).mono (by simp)))))))
  refine wpQuiet_nil ?_
  intro w1 hw'
  have hb1 := behind_out hw'
  clear hw'
  have z1 := hb1.size; try simp at z1
  have X1 := (Loc2.new w a k 23).below hb1 (by simp)
  have bel1 : Below w.heap.size w w1 := Below.trans (by exact (by repeat (first | exact Below.refl _ _ | refine Below.drew ?_ | refine below_drewN ?_ _ | refine Below.trans ?_ (Below.mono (by assumption) (by first | omega | (simp; omega) | (simp; done))) | refine Below.alloc ?_ (by first | omega | (simp; omega) | (simp; done)) _ | refine Below.setCell ?_ (by first | omega | (simp; omega) | (simp; done)) _))) (hb1.mono (by simp))
  have R1 := HR.out.below bel1
  have c1' := R1.c2; have lp1 := R1.lt; have fr1 := R1.f2
  clear FI
  go_wp2_with fail
  refine (WO.out _ bel1).mono ?_
  rintro e w2 ⟨v2, rfl, ho⟩
  obtain ⟨t1, t2, t3, rfl⟩ := ho.isSlice
  have bel2 : Below w1.heap.size w1 w2 := ho.2
  have R2 := R1.below bel2
  have c2' := R2.c2; have lp2 := R2.lt; have fr2 := R2.f2
  have hX1 : ∀ y ∈ w.heap.size :: X, y < w1.heap.size := fun y hy => by
    simp at hy
    have := X1.lt; have := bel1.size
    rcases hy with rfl | hy
    · omega
    · have := HX.out y hy; omega
  have row2 := RowX.of ho hX1
  have R3 := R2.setT row2
  have nop : w.heap.size ≠ pm := by omega
  have k3 : Keep [pm] w1 (w2.setCell ⟨pm, 2, none⟩ (.slice t1 t2 t3)) := (Keep.of bel2).setCell (.inl (by simp)) _
  have X3 := X1.keep k3 (by simpa using nop)
  have K3 : Keep [pm] w (w2.setCell ⟨pm, 2, none⟩ (.slice t1 t2 t3)) := (Keep.of bel1).then k3
  have HR3 := Lib.hid R3; have HX3 := Lib.hid X3
  clear ho row2 R3 R2 R1 X1 k3 X3 hX1 bel1 bel2 WO HR
  go_wp2
  obtain ⟨w3, hw3⟩ : ∃ w3, w3 = w2.setCell ⟨pm, 2, none⟩ (.slice t1 t2 t3) := ⟨_, rfl⟩
  rw [← hw3] at HR3 HX3 K3 ⊢
  obtain ⟨vT3, hvT3⟩ : ∃ v, v = Value.slice t1 t2 t3 := ⟨_, rfl⟩
  rw [← hvT3] at HR3
  clear hw3 c1' c2' fr1 fr2 lp1 lp2 c2 hvT3
  obtain ⟨Y, hY⟩ : ∃ Y, Y = w.heap.size :: X := ⟨_, rfl⟩
  rw [← hY] at HR3
  have HY := Lib.hid hY
  clear hY
  go_loopg [5] 8 (fun gg _ wr => ∃ (q p : Int) (F' : List (Int × Int)) (vF' : Value), (6 - q).toNat < gg ∧ 0 ≤ q ∧ q ≤ 6 ∧ Hid (RBud Y wr pm n vF' vT3 F' (delL a T)) ∧ Hid (InvH n F' (delL a T) (p, q)) ∧ Hid (upP p q F' = giveF a k F) ∧ Hid (Loc2 wr w.heap.size p q) ∧ Keep [pm] w wr)
  case atStart => exact ⟨k, a, F, vF, by omega, by omega, by omega, HR3, ih, GF, HX3, K3⟩
  case round =>
    obtain ⟨q, p, F', vF', hgg, q0, q6, HRq, IHq, DFq, HXq, Kq⟩ := hrel
    clear HR3 ih GF HX3 K3
    have x0 := HXq.out.c0; have x1 := HXq.out.c1; have x2 := HXq.out.f0; have x3 := HXq.out.f1; have xl := HXq.out.lt
    have zr := Kq.size
    have lpq := HRq.out.lt
    have y0 := HRq.out.c1; have y1 := HRq.out.f1
    have hblk := IHq.out.blk
    have hrp := IHq.out.rng (List.mem_cons_self ..)
    have hlen := asc_len256 IHq.out.fa (fun p hp => IHq.out.rng (List.mem_cons_of_mem _ (List.mem_append_left _ hp)))
    simp only at hrp
    by_cases h6 : q < 6
    · have BO := Lib.hid (fun w => buddyOf_ok p q w hrp.1 (by omega) q0 (by omega) hblk.2.2.2)
      by_cases hg : getL F' (budA p q) = some q
      · obtain ⟨j1, hj1, hno1⟩ := asc_at IHq.out.fa (getL_mem hg)
        have hjF := (List.getElem?_eq_some_iff.1 hj1).1
        have edel := delL_cut IHq.out.fa hj1
        simp only at edel
        have FI : Hid (∀ w' : World, Below wr.heap.size wr w' → Calls Tryd.prog 59 #[vF', .agg #[.int .i64 (budA p q), .int .i64 q]] w' fun e w'' => e = .returned (.int .i64 (j1 : Int)) ∧ Below w'.heap.size w' w'') :=
          fun w' hb => find_yes vF' F' _ q j1 w' ((HRq.out.below hb).rF.rowT) hj1 hno1 hlen
        have WO : Hid (∀ w' : World, Below wr.heap.size wr w' → Calls Tryd.prog 57 #[vF', .int .i64 (j1 : Int)] w' fun e w'' => ∃ v', e = .returned v' ∧ OwnB w' w'' v' (delL (budA p q) F')) :=
          fun w' hb => by
            have := without_ok vF' F' j1 w' ((HRq.out.below hb).rF.rowT) hjF hlen
            rwa [← edel] at this
        have hup := IHq.out.up h6 hg
        have DF2 := Lib.hid ((upP_go h6 hg).symm.trans DFq.out)
        have UP := Lib.hid hup
        have PO := Lib.hid (fun w => parentOf_ok p q w hrp.1 (by omega) q0 (by omega) hblk.2.2.2)
        have jz : ¬ (j1 : Int) < 0 := by omega
        clear hj1 hno1 edel hup hg hblk
        go_wp2_with fail
        refine wp_region_behind (by kernel_rfl) (by kernel_rfl) ?_
        repeat (go_big_quiet_step ((first | (go_at_call 26; exact Calls.behind (BO.out _)) | (go_at_call 59; exact Calls.behind (FI.out _ (Behind.h _))))))
        refine wpQuiet_nil ?_
        intro w4 hw'
        have hb4 := behind_out hw'
        clear hw'
        have z4 := hb4.size; try simp at z4
        have R4 := HRq.out.below hb4
        have X4 := HXq.out.below hb4 xl
        have u0 := R4.c1; have u1 := R4.f1; have u2 := R4.lt
        clear BO FI
        go_wp2_with fail
        refine (WO.out _ hb4).mono ?_
        rintro e w5 ⟨v5, rfl, ho⟩
        obtain ⟨t1, t2, t3, rfl⟩ := ho.isSlice
        have R5 := R4.below ho.2
        have X5 := X4.below ho.2 X4.lt
        have v0 := R5.c1; have v1 := R5.f1; have v2 := R5.lt
        have g0 := X5.c0; have g1 := X5.c1; have gl := X5.lt
        have nop2 : pm ≠ w.heap.size := nop.symm
        have hX1 : ∀ y ∈ Y, y < w4.heap.size := fun y hy => by
          rw [HY.out] at hy
          simp at hy
          have := X4.lt; have := hb4.size
          rcases hy with rfl | hy
          · omega
          · have := HX.out y hy; omega
        have R6 := R5.setF (RowX.of ho hX1)
        have k6 : Keep [pm] wr (w5.setCell ⟨pm, 1, none⟩ (.slice t1 t2 t3)) := ((Keep.of hb4).step ho.2).setCell (.inl (by simp)) _
        have X6 := HXq.out.keep k6 (by simpa using nop)
        have K6 := Kq.then k6
        clear ho R5 X5 R4 X4 WO hX1
        go_wp2_with fail
        obtain ⟨w6, hw6⟩ : ∃ w6, w6 = w5.setCell ⟨pm, 1, none⟩ (.slice t1 t2 t3) := ⟨_, rfl⟩
        rw [← hw6] at R6 X6 K6 ⊢
        have s0 := X6.c0; have s1 := X6.c1
        clear hw6 k6 u0 u1 u2 v0 v1 v2 g0 g1
        refine (PO.out w6).mono ?_
        rintro e w7 ⟨rfl, hb7⟩
        have X7 := X6.below hb7 X6.lt
        have R7 := R6.below hb7
        have n0 := X7.c0; have n1 := X7.c1; have n2 := X7.f0; have n3 := X7.f1
        have ks : Keep [w.heap.size] w7 ((w7.setCell ⟨w.heap.size, 0, none⟩ (.int .i64 (parA p q))).setCell ⟨w.heap.size, 1, none⟩ (.int .i64 (q + 1))) := (Keep.refl _ _).store2 (.inl (by simp)) _ _
        have R8 := Lib.hid (R7.keep ks (fun s hs => by rw [List.mem_singleton.1 hs]; exact .inl ⟨by rw [HY.out]; simp, nop⟩))
        have X8 := Lib.hid (X7.store (parA p q) (q + 1))
        have K8 := Lib.hid ((K6.step hb7).store2 (b := w.heap.size) (.inr (Nat.le_refl _)) (.int .i64 (parA p q)) (.int .i64 (q + 1)))
        clear ks R7 X7 R6 X6 K6 PO
        go_wp2
        go_roundg ((6 - (q + 1)).toNat + 1)
        case measure => omega
        case rel => exact ⟨q + 1, parA p q, _, _, by omega, by omega, by omega, R8, UP, DF2, X8, K8.out⟩
      · have HNO : Hid (q < 6 → getL F' (budA p q) ≠ some q) := fun _ => hg
        have FI : Hid (∀ w' : World, Below wr.heap.size wr w' → Calls Tryd.prog 59 #[vF', .agg #[.int .i64 (budA p q), .int .i64 q]] w' fun e w'' => e = .returned (.int .i64 (-1)) ∧ Below w'.heap.size w' w'') :=
          fun w' hb => find_no vF' F' _ q w' ((HRq.out.below hb).rF.rowT) (fun hm => hg (mem_getL IHq.out.fa hm)) hlen
        have hne := fun z hz => IHq.out.other (z := z) (List.mem_append_left (delL a T) hz)
        have NE := Lib.hid hne; have FA := Lib.hid IHq.out.fa
        have WI : Hid (∀ w' : World, Below wr.heap.size wr w' → Calls Tryd.prog 58 #[vF', .agg #[.int .i64 p, .int .i64 q]] w' fun e w'' => ∃ v', e = .returned v' ∧ OwnB w' w'' v' (putL p q F')) :=
          fun w' hb => with_ok vF' F' _ _ w' ((HRq.out.below hb).rF.rowT) FA.out NE.out hlen
        have BB0 : Hid (∀ w' : World, Below wr.heap.size wr w' → w'.cell? ⟨pm, 1, none⟩ = some vF') := fun w' hb => (hb.cell (p := ⟨pm, 1, none⟩) lpq).trans HRq.out.c1
        have BB1 : Hid (∀ w' : World, Below wr.heap.size wr w' → w'.cell? ⟨w.heap.size, 0, none⟩ = some (.int .i64 p)) := fun w' hb => (hb.cell (p := ⟨w.heap.size, 0, none⟩) xl).trans HXq.out.c0
        have BB2 : Hid (∀ w' : World, Below wr.heap.size wr w' → w'.cell? ⟨w.heap.size, 1, none⟩ = some (.int .i64 q)) := fun w' hb => (hb.cell (p := ⟨w.heap.size, 1, none⟩) xl).trans HXq.out.c1
        have BBF : Hid (∀ w' : World, Below wr.heap.size wr w' → w'.frozen? ⟨pm, 1, none⟩ = false) := fun w' hb => (hb.frozen (p := ⟨pm, 1, none⟩) lpq).trans HRq.out.f1
        clear hne
        clear hg hblk
        go_wp2_with fail
        refine wp_region_behind (by kernel_rfl) (by kernel_rfl) ?_
        repeat (go_big_quiet_step ((first | (go_at_call 26; exact Calls.behind (BO.out _)) | (go_at_call 59; exact Calls.behind (FI.out _ (Behind.h _))))))
        refine wpQuiet_nil ?_
        intro w4 hw'
        have hb4 := behind_out hw'
        clear hw'
        have z4 := hb4.size; try simp at z4
        have o0 := BB0.out _ hb4; have o1 := BB1.out _ hb4; have o2 := BB2.out _ hb4; have o3 := BBF.out _ hb4
        have lp4 : pm < w4.heap.size := by omega
        clear BO FI
        go_wp2_with fail
        go_region_with (first
          | (go_at_call 58; refine (WI.out _ (hb4.drew)).mono ?_; rintro e wb ⟨vb, rfl, hob⟩; obtain ⟨t1, t2, t3, rfl⟩ := hob.isSlice; have cbb : Below wr.heap.size wr wb := (hb4.drew).trans (hob.2.mono (by simp; omega)); have xb0 := BB0.out _ cbb; have xb1 := BB1.out _ cbb; have xb2 := BB2.out _ cbb; have xbf := BBF.out _ cbb))
        all_goals
          have hXY : ∀ y ∈ Y, y < w4.drew.heap.size := fun y hy => by
            rw [HY.out] at hy
            simp at hy ⊢
            rcases hy with rfl | hy
            · omega
            · have := HX.out y hy; omega
          have rowb := RowX.of hob hXY
          have R13 := (((HRq.out.below cbb).setF rowb).sub pmX (fun x hx => by rw [HY.out]; simp [hx]))
          rw [← upP_stop q0 q6 HNO.out, DFq.out] at R13
          have HR13 := Lib.hid R13
          have K13 := Lib.hid (Kq.then ((Keep.of cbb).setCell (p := ⟨pm, 1, none⟩) (.inl (by simp)) (.slice t1 t2 t3)))
          clear R13 rowb hob hXY cbb
          go_wp2
          go_ret
          exact ⟨_, _, rfl, HR13.out, K13.out⟩
    · have HNO : Hid (q < 6 → getL F' (budA p q) ≠ some q) := fun h => absurd h h6
      have hne := fun z hz => IHq.out.other (z := z) (List.mem_append_left (delL a T) hz)
      have NE := Lib.hid hne; have FA := Lib.hid IHq.out.fa
      have WI : Hid (∀ w' : World, Below wr.heap.size wr w' → Calls Tryd.prog 58 #[vF', .agg #[.int .i64 p, .int .i64 q]] w' fun e w'' => ∃ v', e = .returned v' ∧ OwnB w' w'' v' (putL p q F')) :=
        fun w' hb => with_ok vF' F' _ _ w' ((HRq.out.below hb).rF.rowT) FA.out NE.out hlen
      have BB0 : Hid (∀ w' : World, Below wr.heap.size wr w' → w'.cell? ⟨pm, 1, none⟩ = some vF') := fun w' hb => (hb.cell (p := ⟨pm, 1, none⟩) lpq).trans HRq.out.c1
      have BB1 : Hid (∀ w' : World, Below wr.heap.size wr w' → w'.cell? ⟨w.heap.size, 0, none⟩ = some (.int .i64 p)) := fun w' hb => (hb.cell (p := ⟨w.heap.size, 0, none⟩) xl).trans HXq.out.c0
      have BB2 : Hid (∀ w' : World, Below wr.heap.size wr w' → w'.cell? ⟨w.heap.size, 1, none⟩ = some (.int .i64 q)) := fun w' hb => (hb.cell (p := ⟨w.heap.size, 1, none⟩) xl).trans HXq.out.c1
      have BBF : Hid (∀ w' : World, Below wr.heap.size wr w' → w'.frozen? ⟨pm, 1, none⟩ = false) := fun w' hb => (hb.frozen (p := ⟨pm, 1, none⟩) lpq).trans HRq.out.f1
      clear hne
      clear hblk
      go_wp2_with fail
      go_region_with (first
        | (go_at_call 58; refine (WI.out _ ((Below.refl _ _).drew)).mono ?_; rintro e wb ⟨vb, rfl, hob⟩; obtain ⟨t1, t2, t3, rfl⟩ := hob.isSlice; have cbb : Below wr.heap.size wr wb := ((Below.refl _ _).drew).trans (hob.2.mono (by simp)); have xb0 := BB0.out _ cbb; have xb1 := BB1.out _ cbb; have xb2 := BB2.out _ cbb; have xbf := BBF.out _ cbb))
      all_goals
        have hXY : ∀ y ∈ Y, y < wr.drew.heap.size := fun y hy => by
          rw [HY.out] at hy
          simp at hy ⊢
          rcases hy with rfl | hy
          · omega
          · have := HX.out y hy; omega
        have rowb := RowX.of hob hXY
        have R13 := (((HRq.out.below cbb).setF rowb).sub pmX (fun x hx => by rw [HY.out]; simp [hx]))
        rw [← upP_stop q0 q6 HNO.out, DFq.out] at R13
        have HR13 := Lib.hid R13
        have K13 := Lib.hid (Kq.then ((Keep.of cbb).setCell (p := ⟨pm, 1, none⟩) (.inl (by simp)) (.slice t1 t2 t3)))
        clear R13 rowb hob hXY cbb
        go_wp2
        go_ret
        exact ⟨_, _, rfl, HR13.out, K13.out⟩
end Go.Proofs.YtcooflachcimbaaDoor
