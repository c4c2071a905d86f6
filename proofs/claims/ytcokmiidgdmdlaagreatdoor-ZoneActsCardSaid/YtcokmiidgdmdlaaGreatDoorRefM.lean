/- The document's buddy: a new one; its free pages. The document's buddy: Give by its contracts. The laws' asBuddy by its contract: a buddy and the document's, with the same blocks. The document's Own: a buddy of its own memory. -/
import Derived.Test.YtcokmiidgdmdlaaGreatDoorRefT
import Derived.Test.YtcokmiidgdmdlaaGreatDoorBud
import Derived.Test.YtcokmiidgdmdlaaGreatDoorBudW
import Derived.Test.YtcokmiidgdmdlaaGreatDoorBase
import Derived.Deep.RegionHeld3
import Derived.Test.YtcokmiidgdmdlaaGreatDoorMem
import Derived.Deep.RegionLaw
import Derived.Deep.DrawnRows
namespace Go.Proofs.YtcokmiidgdmdlaaGreatDoor
open Go.RowKit
set_option linter.unusedSimpArgs false

set_option maxHeartbeats 1000000 in
theorem newBuddy_ok {X : List Nat} (n : Int) (w : World) (n1 : 1 ≤ n) (n2 : n ≤ 256) (hX : ∀ x ∈ X, x < w.heap.size) :
    Calls Tryz.prog 72 #[.int .i64 n] w fun e w' => ∃ pm v, e = .returned (.pointer (some ⟨pm, 0, none⟩)) ∧ RBud (pm :: X) w' pm n v (.slice none 0 0) (covL 0 n) [] ∧ w.heap.size ≤ pm ∧ Below w.heap.size w w' := by
  have HC := Lib.hid (coverOf_ok 0 n w (by omega) (by omega) (by omega))
  have HX := Lib.hid hX
  clear hX
  go_enter Tryz.func72, Tryz.ntmps72
  go_wp2_with fail
  refine HC.out.mono ?_
  rintro e w1 ⟨v, rfl, ho⟩
  have z1 := ho.2.size
  have hb1 := ho.2
  have row := RowX.of ho HX.out
  obtain ⟨t1, t2, t3, rfl⟩ := ho.isSlice
  have HR := Lib.hid row
  clear row ho HC
  go_wp2
  go_ret
  refine ⟨_, .slice t1 t2 t3, rfl, ⟨by simp, by simp, ?_, ?_, ?_, ?_, ?_, ?_, .inl ⟨rfl, rfl⟩⟩, z1, (by repeat (first | exact Below.refl _ _ | refine Below.drew ?_ | refine below_drewN ?_ _ | refine Below.trans ?_ (Below.mono (by assumption) (by first | omega | (simp; omega) | (simp; done))) | refine Below.alloc ?_ (by first | omega | (simp; omega) | (simp; done)) _ | refine Below.setCell ?_ (by first | omega | (simp; omega) | (simp; done)) _))⟩
  · rw [World.cell?_alloc_at _ _ _ _ (by simp)]; rfl
  · rw [World.cell?_alloc_at _ _ _ _ (by simp)]; rfl
  · rw [World.cell?_alloc_at _ _ _ _ (by simp)]; rfl
  · exact World.frozen?_alloc_at _ _ _ _ (by simp)
  · exact World.frozen?_alloc_at _ _ _ _ (by simp)
  · exact (HR.out.more (Y := w1.heap.size :: X) (fun y hy => by simp at hy; rcases hy with rfl | hy; (· right; omega); (· left; exact hy))).keep ((Keep.refl [] _).alloc _) (fun s hs => by cases hs)

theorem sumL_take {F : List (Int × Int)} {i : Nat} {z : Int × Int} (h : F[i]? = some z) : sumL (F.take (i + 1)) = sumL (F.take i) + sz z.2 := by
  rw [List.take_add_one, h]
  show sumL (F.take i ++ [z]) = _
  rw [sumL_append]
  simp [sumL]
theorem sumL_take_le (F : List (Int × Int)) (i : Nat) : 0 ≤ sumL (F.take i) ∧ sumL (F.take i) ≤ sumL F := by
  have h := sumL_append (F.take i) (F.drop i)
  rw [List.take_append_drop] at h
  have := sumL_nonneg (F.take i)
  have := sumL_nonneg (F.drop i)
  omega

set_option maxHeartbeats 1000000 in
theorem freePages_ok {X : List Nat} (pm : Nat) (n : Int) (vF vT : Value) (F T : List (Int × Int)) (w : World) (h : RBud X w pm n vF vT F T) (hI : Inv n F T) :
    Calls Tryz.prog 78 #[.pointer (some ⟨pm, 0, none⟩)] w fun e w' => e = .returned (.int .i64 (sumL F)) ∧ Below w.heap.size w w' := by
  have c1 := h.c1; have lp := h.lt
  have lF := hI.lenF
  have sF := hI.sumF
  have n2 := hI.n2
  have HI := Lib.hid hI
  have h' : ∃ p cap, vF = .slice p F.length cap ∧ Hid (∀ j a k, F[j]? = some (a, k) → ∃ g, p = some ⟨g, 0, none⟩ ∧ g < w.heap.size ∧ w.cell? ⟨g, j * 2 + 1, none⟩ = some (.int .i64 k)) := by
    rcases h.rF with ⟨rfl, rfl⟩ | ⟨g, cap, rfl, _, _, _, hg, hc⟩
    · exact ⟨none, 0, rfl, fun j a k hj => by simp at hj⟩
    · exact ⟨_, cap, rfl, fun j a k hj => ⟨g, rfl, hg, (hc j a k hj).2⟩⟩
  obtain ⟨p, cap, rfl, HP0⟩ := h'
  obtain ⟨N, hN⟩ : ∃ N, N = F.length := ⟨_, rfl⟩
  have HN := Lib.hid hN
  rw [← hN] at lF c1
  clear h hI hN
  go_enter Tryz.func78, Tryz.ntmps78
  go_wp2_with fail
  go_loopw [3, 4] (fun sv iv wr => ∃ i : Nat, i ≤ N ∧ iv = .int .i64 i ∧ sv = .int .i64 (sumL (F.take i)) ∧ Below w.heap.size w wr) (fun _ iv _ => N - (intOf iv).toNat)
  case atStart => exact ⟨0, Nat.zero_le _, by go_num, by simp [sumL], Below.refl _ _⟩
  case round =>
    obtain ⟨i, hi, rfl, rfl, hbel⟩ := hrel
    have hsb := sumL_take_le F i
    have zr := hbel.size
    have cr := (hbel.cell (p := ⟨pm, 1, none⟩) lp).trans c1
    have lpr : pm < wr.heap.size := by omega
    by_cases hlt : i < N
    · obtain ⟨y, hy⟩ : ∃ y, F[i]? = some y := ⟨F[i]'(by rw [← HN.out]; exact hlt), List.getElem?_eq_getElem _⟩
      obtain ⟨a, k⟩ := y
      obtain ⟨g, rfl, hg, r2'⟩ := HP0.out i a k hy
      have r2 := (hbel.cell (p := ⟨g, i * 2 + 1, none⟩) hg).trans r2'
      have gr : g < wr.heap.size := by omega
      have hst := sumL_take hy
      have hrg := HI.out.rngF (List.mem_of_getElem? hy)
      have hsb2 := sumL_take_le F (i + 1)
      simp only at hrg hst
      obtain ⟨s1, s2⟩ := sz_bd hrg.2.2.1 hrg.2.2.2
      have PA := Lib.hid (fun w => pages_any k w hrg.2.2.1 (by omega))
      have ST := Lib.hid hst
      clear hy hst r2'
      go_wp2_with (go_at_call 132; refine (PA.out _).mono ?_; rintro e w' ⟨rfl, rfl⟩)
      go_roundw
      case rel => exact ⟨i + 1, by omega, by go_num, by rw [ST.out], hbel⟩
      case measure => simp [intOf]; omega
    · have ei : i = N := by omega
      have hfin : sumL (F.take i) = sumL F := by rw [ei, HN.out, List.take_length]
      have HF := Lib.hid hfin
      clear hfin ei
      go_wp2
      go_ret
      exact ⟨by simp [HF.out], hbel⟩
end Go.Proofs.YtcokmiidgdmdlaaGreatDoor

namespace Go.Proofs.YtcokmiidgdmdlaaGreatDoor
open Go.RowKit
set_option linter.unusedSimpArgs false

set_option maxHeartbeats 2000000 in
theorem rgive_none {X : List Nat} (pm : Nat) (n : Int) (vF vT : Value) (F T : List (Int × Int)) (a k : Int) (w : World) (h : RBud X w pm n vF vT F T) (hlen : T.length ≤ 256) (hx : (a, k) ∉ T) :
    Calls Tryz.prog 74 #[.pointer (some ⟨pm, 0, none⟩), .agg #[.int .i64 a, .int .i64 k]] w fun e w' => e = .returned (.int .i64 4) ∧ Below w.heap.size w w' := by
  have c2 := h.c2; have lp := h.lt
  have FI : Hid (∀ w' : World, Below w.heap.size w w' → Calls Tryz.prog 127 #[vT, .agg #[.int .i64 a, .int .i64 k]] w' fun e w'' => e = .returned (.int .i64 (-1)) ∧ Below w'.heap.size w' w'') :=
    fun w' hb => rfind_no vT T a k w' ((h.below hb).rT.rowT) hx hlen
  clear h hx
  go_enter Tryz.func74, Tryz.ntmps74
  go_wp2
  refine wp_region_behind (by kernel_rfl) (by kernel_rfl) ?_
  repeat (go_big_quiet_step ((go_at_call 127; exact Calls.behind (FI.out _ (Below.trans (by exact (by repeat (first | exact Below.refl _ _ | refine Below.drew ?_ | refine below_drewN ?_ _ | refine Below.trans ?_ (Below.mono (by assumption) (by first | omega | (simp; omega) | (simp; done))) | refine Below.alloc ?_ (by first | omega | (simp; omega) | (simp; done)) _ | refine Below.setCell ?_ (by first | omega | (simp; omega) | (simp; done)) _))) ((Behind.h _).mono (by simp)))))))
  refine wpQuiet_nil ?_
  intro w1 hw'
  have hb1 := behind_out hw'
  clear hw'
  have z1 := hb1.size; try simp at z1
  go_wp2
  go_ret
  exact ⟨rfl, (by repeat (first | exact Below.refl _ _ | refine Below.drew ?_ | refine below_drewN ?_ _ | refine Below.trans ?_ (Below.mono (by assumption) (by first | omega | (simp; omega) | (simp; done))) | refine Below.alloc ?_ (by first | omega | (simp; omega) | (simp; done)) _ | refine Below.setCell ?_ (by first | omega | (simp; omega) | (simp; done)) _))⟩

set_option maxHeartbeats 4000000 in
set_option maxRecDepth 100000 in
theorem rgive_yes {X : List Nat} (pm : Nat) (n : Int) (vF vT : Value) (F T : List (Int × Int)) (a k : Int) (w : World) (h : RBud X w pm n vF vT F T) (hX : ∀ x ∈ X, x < w.heap.size) (hI : Inv n F T) (hx : (a, k) ∈ T) :
    Calls Tryz.prog 74 #[.pointer (some ⟨pm, 0, none⟩), .agg #[.int .i64 a, .int .i64 k]] w fun e w' => ∃ vF' vT', e = .returned (.int .i64 0) ∧ RBud X w' pm n vF' vT' (giveF a k F) (delL a T) ∧ Keep [pm] w w' := by
  have c2 := h.c2; have lp := h.lt
  have pmX := h.mem
  have hrx := hI.rngT hx
  simp only at hrx
  obtain ⟨j0, hj0, hno⟩ := asc_at hI.ta hx
  have hjT := (List.getElem?_eq_some_iff.1 hj0).1
  have lT := hI.lenT
  have edel := delL_cut hI.ta hj0
  simp only at edel
  have FI : Hid (∀ w' : World, Below w.heap.size w w' → Calls Tryz.prog 127 #[vT, .agg #[.int .i64 a, .int .i64 k]] w' fun e w'' => e = .returned (.int .i64 (j0 : Int)) ∧ Below w'.heap.size w' w'') :=
    fun w' hb => find_yes vT T a k j0 w' ((h.below hb).rT.rowT) hj0 hno lT
  have WO : Hid (∀ w' : World, Below w.heap.size w w' → Calls Tryz.prog 128 #[vT, .int .i64 (j0 : Int)] w' fun e w'' => ∃ v', e = .returned v' ∧ OwnB w' w'' v' (delL a T)) :=
    fun w' hb => by
      have := without_ok vT T j0 w' ((h.below hb).rT.rowT) hjT lT
      rwa [← edel] at this
  have HR := Lib.hid (h.more (Y := w.heap.size :: X) (by simp [pmX]) (fun y hy => by simp at hy; rcases hy with rfl | hy; (· right; omega); (· left; exact hy)))
  have HX := Lib.hid hX
  have ih := Lib.hid (hI.handT hx)
  have GF := Lib.hid (show upP a k F = giveF a k F from rfl)
  have jz : ¬ (j0 : Int) < 0 := by omega
  clear h hX hI hx hj0 hno edel
  go_enter Tryz.func74, Tryz.ntmps74
  go_wp2
  refine wp_region_behind (by kernel_rfl) (by kernel_rfl) ?_
  repeat (go_big_quiet_step ((go_at_call 127; exact Calls.behind (FI.out _ (Below.trans (by exact (by repeat (first | exact Below.refl _ _ | refine Below.drew ?_ | refine below_drewN ?_ _ | refine Below.trans ?_ (Below.mono (by assumption) (by first | omega | (simp; omega) | (simp; done))) | refine Below.alloc ?_ (by first | omega | (simp; omega) | (simp; done)) _ | refine Below.setCell ?_ (by first | omega | (simp; omega) | (simp; done)) _))) ((Behind.h _).mono (by simp)))))))
  refine wpQuiet_nil ?_
  intro w1 hw'
  have hb1 := behind_out hw'
  clear hw'
  have z1 := hb1.size; try simp at z1
  have X1 := (Loc2.new w a k 39).below hb1 (by simp)
  have bel1 : Below w.heap.size w w1 := Below.trans (by exact (by repeat (first | exact Below.refl _ _ | refine Below.drew ?_ | refine below_drewN ?_ _ | refine Below.trans ?_ (Below.mono (by assumption) (by first | omega | (simp; omega) | (simp; done))) | refine Below.alloc ?_ (by first | omega | (simp; omega) | (simp; done)) _ | refine Below.setCell ?_ (by first | omega | (simp; omega) | (simp; done)) _))) (hb1.mono (by simp))
  have R1 := HR.out.below bel1
  have c1' := R1.c2; have lp1 := R1.lt; have fr1 := R1.f2
  clear FI
  go_wp2_with fail
  refine (WO.out _ bel1).mono ?_
  rintro e w2 ⟨v2, rfl, ho⟩
  obtain ⟨t1, t2, t3, rfl⟩ := ho.isSlice
  have bel2 : Below w1.heap.size w1 w2 := ho.2
  have R2 := R1.below bel2
  have c2' := R2.c2; have lp2 := R2.lt; have fr2 := R2.f2
  have hX1 : ∀ y ∈ w.heap.size :: X, y < w1.heap.size := fun y hy => by
    simp at hy
    have := X1.lt; have := bel1.size
    rcases hy with rfl | hy
    · omega
    · have := HX.out y hy; omega
  have row2 := RowX.of ho hX1
  have R3 := R2.setT row2
  have nop : w.heap.size ≠ pm := by omega
  have k3 : Keep [pm] w1 (w2.setCell ⟨pm, 2, none⟩ (.slice t1 t2 t3)) := (Keep.of bel2).setCell (.inl (by simp)) _
  have X3 := X1.keep k3 (by simpa using nop)
  have K3 : Keep [pm] w (w2.setCell ⟨pm, 2, none⟩ (.slice t1 t2 t3)) := (Keep.of bel1).then k3
  have HR3 := Lib.hid R3; have HX3 := Lib.hid X3
  clear ho row2 R3 R2 R1 X1 k3 X3 hX1 bel1 bel2 WO HR
  go_wp2
  obtain ⟨w3, hw3⟩ : ∃ w3, w3 = w2.setCell ⟨pm, 2, none⟩ (.slice t1 t2 t3) := ⟨_, rfl⟩
  rw [← hw3] at HR3 HX3 K3 ⊢
  obtain ⟨vT3, hvT3⟩ : ∃ v, v = Value.slice t1 t2 t3 := ⟨_, rfl⟩
  rw [← hvT3] at HR3
  clear hw3 c1' c2' fr1 fr2 lp1 lp2 c2 hvT3
  obtain ⟨Y, hY⟩ : ∃ Y, Y = w.heap.size :: X := ⟨_, rfl⟩
  rw [← hY] at HR3
  have HY := Lib.hid hY
  clear hY
  go_loopg [5] 8 (fun gg _ wr => ∃ (q p : Int) (F' : List (Int × Int)) (vF' : Value), (6 - q).toNat < gg ∧ 0 ≤ q ∧ q ≤ 6 ∧ Hid (RBud Y wr pm n vF' vT3 F' (delL a T)) ∧ Hid (InvH n F' (delL a T) (p, q)) ∧ Hid (upP p q F' = giveF a k F) ∧ Hid (Loc2 wr w.heap.size p q) ∧ Keep [pm] w wr)
  case atStart => exact ⟨k, a, F, vF, by omega, by omega, by omega, HR3, ih, GF, HX3, K3⟩
  case round =>
    obtain ⟨q, p, F', vF', hgg, q0, q6, HRq, IHq, DFq, HXq, Kq⟩ := hrel
    clear HR3 ih GF HX3 K3
    have x0 := HXq.out.c0; have x1 := HXq.out.c1; have x2 := HXq.out.f0; have x3 := HXq.out.f1; have xl := HXq.out.lt
    have zr := Kq.size
    have lpq := HRq.out.lt
    have y0 := HRq.out.c1; have y1 := HRq.out.f1
    have hblk := IHq.out.blk
    have hrp := IHq.out.rng (List.mem_cons_self ..)
    have hlen := asc_len256 IHq.out.fa (fun p hp => IHq.out.rng (List.mem_cons_of_mem _ (List.mem_append_left _ hp)))
    simp only at hrp
    by_cases h6 : q < 6
    · have BO := Lib.hid (fun w => buddyOf_ok p q w hrp.1 (by omega) q0 (by omega) hblk.2.2.2)
      by_cases hg : getL F' (budA p q) = some q
      · obtain ⟨j1, hj1, hno1⟩ := asc_at IHq.out.fa (getL_mem hg)
        have hjF := (List.getElem?_eq_some_iff.1 hj1).1
        have edel := delL_cut IHq.out.fa hj1
        simp only at edel
        have FI : Hid (∀ w' : World, Below wr.heap.size wr w' → Calls Tryz.prog 127 #[vF', .agg #[.int .i64 (budA p q), .int .i64 q]] w' fun e w'' => e = .returned (.int .i64 (j1 : Int)) ∧ Below w'.heap.size w' w'') :=
          fun w' hb => find_yes vF' F' _ q j1 w' ((HRq.out.below hb).rF.rowT) hj1 hno1 hlen
        have WO : Hid (∀ w' : World, Below wr.heap.size wr w' → Calls Tryz.prog 128 #[vF', .int .i64 (j1 : Int)] w' fun e w'' => ∃ v', e = .returned v' ∧ OwnB w' w'' v' (delL (budA p q) F')) :=
          fun w' hb => by
            have := without_ok vF' F' j1 w' ((HRq.out.below hb).rF.rowT) hjF hlen
            rwa [← edel] at this
        have hup := IHq.out.up h6 hg
        have DF2 := Lib.hid ((upP_go h6 hg).symm.trans DFq.out)
        have UP := Lib.hid hup
        have PO := Lib.hid (fun w => parentOf_ok p q w hrp.1 (by omega) q0 (by omega) hblk.2.2.2)
        have jz : ¬ (j1 : Int) < 0 := by omega
        clear hj1 hno1 edel hup hg hblk
        go_wp2_with fail
        refine wp_region_behind (by kernel_rfl) (by kernel_rfl) ?_
        repeat (go_big_quiet_step ((first | (go_at_call 129; exact Calls.behind (BO.out _)) | (go_at_call 127; exact Calls.behind (FI.out _ (Behind.h _))))))
        refine wpQuiet_nil ?_
        intro w4 hw'
        have hb4 := behind_out hw'
        clear hw'
        have z4 := hb4.size; try simp at z4
        have R4 := HRq.out.below hb4
        have X4 := HXq.out.below hb4 xl
        have u0 := R4.c1; have u1 := R4.f1; have u2 := R4.lt
        clear BO FI
        go_wp2_with fail
        refine (WO.out _ hb4).mono ?_
        rintro e w5 ⟨v5, rfl, ho⟩
        obtain ⟨t1, t2, t3, rfl⟩ := ho.isSlice
        have R5 := R4.below ho.2
        have X5 := X4.below ho.2 X4.lt
        have v0 := R5.c1; have v1 := R5.f1; have v2 := R5.lt
        have g0 := X5.c0; have g1 := X5.c1; have gl := X5.lt
        have nop2 : pm ≠ w.heap.size := nop.symm
        have hX1 : ∀ y ∈ Y, y < w4.heap.size := fun y hy => by
          rw [HY.out] at hy
          simp at hy
          have := X4.lt; have := hb4.size
          rcases hy with rfl | hy
          · omega
          · have := HX.out y hy; omega
        have R6 := R5.setF (RowX.of ho hX1)
        have k6 : Keep [pm] wr (w5.setCell ⟨pm, 1, none⟩ (.slice t1 t2 t3)) := ((Keep.of hb4).step ho.2).setCell (.inl (by simp)) _
        have X6 := HXq.out.keep k6 (by simpa using nop)
        have K6 := Kq.then k6
        clear ho R5 X5 R4 X4 WO hX1
        go_wp2_with fail
        obtain ⟨w6, hw6⟩ : ∃ w6, w6 = w5.setCell ⟨pm, 1, none⟩ (.slice t1 t2 t3) := ⟨_, rfl⟩
        rw [← hw6] at R6 X6 K6 ⊢
        have s0 := X6.c0; have s1 := X6.c1
        clear hw6 k6 u0 u1 u2 v0 v1 v2 g0 g1
        refine (PO.out w6).mono ?_
        rintro e w7 ⟨rfl, hb7⟩
        have X7 := X6.below hb7 X6.lt
        have R7 := R6.below hb7
        have n0 := X7.c0; have n1 := X7.c1; have n2 := X7.f0; have n3 := X7.f1
        have ks : Keep [w.heap.size] w7 ((w7.setCell ⟨w.heap.size, 0, none⟩ (.int .i64 (parA p q))).setCell ⟨w.heap.size, 1, none⟩ (.int .i64 (q + 1))) := (Keep.refl _ _).store2 (.inl (by simp)) _ _
        have R8 := Lib.hid (R7.keep ks (fun s hs => by rw [List.mem_singleton.1 hs]; exact .inl ⟨by rw [HY.out]; simp, nop⟩))
        have X8 := Lib.hid (X7.store (parA p q) (q + 1))
        have K8 := Lib.hid ((K6.step hb7).store2 (b := w.heap.size) (.inr (Nat.le_refl _)) (.int .i64 (parA p q)) (.int .i64 (q + 1)))
        clear ks R7 X7 R6 X6 K6 PO
        go_wp2
        go_roundg ((6 - (q + 1)).toNat + 1)
        case measure => omega
        case rel => exact ⟨q + 1, parA p q, _, _, by omega, by omega, by omega, R8, UP, DF2, X8, K8.out⟩
      · have HNO : Hid (q < 6 → getL F' (budA p q) ≠ some q) := fun _ => hg
        have FI : Hid (∀ w' : World, Below wr.heap.size wr w' → Calls Tryz.prog 127 #[vF', .agg #[.int .i64 (budA p q), .int .i64 q]] w' fun e w'' => e = .returned (.int .i64 (-1)) ∧ Below w'.heap.size w' w'') :=
          fun w' hb => rfind_no vF' F' _ q w' ((HRq.out.below hb).rF.rowT) (fun hm => hg (mem_getL IHq.out.fa hm)) hlen
        have hne := fun z hz => IHq.out.other (z := z) (List.mem_append_left (delL a T) hz)
        have NE := Lib.hid hne; have FA := Lib.hid IHq.out.fa
        have WI : Hid (∀ w' : World, Below wr.heap.size wr w' → Calls Tryz.prog 131 #[vF', .agg #[.int .i64 p, .int .i64 q]] w' fun e w'' => ∃ v', e = .returned v' ∧ OwnB w' w'' v' (putL p q F')) :=
          fun w' hb => with_ok vF' F' _ _ w' ((HRq.out.below hb).rF.rowT) FA.out NE.out hlen
        have BB0 : Hid (∀ w' : World, Below wr.heap.size wr w' → w'.cell? ⟨pm, 1, none⟩ = some vF') := fun w' hb => (hb.cell (p := ⟨pm, 1, none⟩) lpq).trans HRq.out.c1
        have BB1 : Hid (∀ w' : World, Below wr.heap.size wr w' → w'.cell? ⟨w.heap.size, 0, none⟩ = some (.int .i64 p)) := fun w' hb => (hb.cell (p := ⟨w.heap.size, 0, none⟩) xl).trans HXq.out.c0
        have BB2 : Hid (∀ w' : World, Below wr.heap.size wr w' → w'.cell? ⟨w.heap.size, 1, none⟩ = some (.int .i64 q)) := fun w' hb => (hb.cell (p := ⟨w.heap.size, 1, none⟩) xl).trans HXq.out.c1
        have BBF : Hid (∀ w' : World, Below wr.heap.size wr w' → w'.frozen? ⟨pm, 1, none⟩ = false) := fun w' hb => (hb.frozen (p := ⟨pm, 1, none⟩) lpq).trans HRq.out.f1
        clear hne
        clear hg hblk
        go_wp2_with fail
        refine wp_region_behind (by kernel_rfl) (by kernel_rfl) ?_
        repeat (go_big_quiet_step ((first | (go_at_call 129; exact Calls.behind (BO.out _)) | (go_at_call 127; exact Calls.behind (FI.out _ (Behind.h _))))))
        refine wpQuiet_nil ?_
        intro w4 hw'
        have hb4 := behind_out hw'
        clear hw'
        have z4 := hb4.size; try simp at z4
        have o0 := BB0.out _ hb4; have o1 := BB1.out _ hb4; have o2 := BB2.out _ hb4; have o3 := BBF.out _ hb4
        have lp4 : pm < w4.heap.size := by omega
        clear BO FI
        go_wp2_with fail
        go_region_with (first
          | (go_at_call 131; refine (WI.out _ (hb4.drew)).mono ?_; rintro e wb ⟨vb, rfl, hob⟩; obtain ⟨t1, t2, t3, rfl⟩ := hob.isSlice; have cbb : Below wr.heap.size wr wb := (hb4.drew).trans (hob.2.mono (by simp; omega)); have xb0 := BB0.out _ cbb; have xb1 := BB1.out _ cbb; have xb2 := BB2.out _ cbb; have xbf := BBF.out _ cbb))
        all_goals
          have hXY : ∀ y ∈ Y, y < w4.drew.heap.size := fun y hy => by
            rw [HY.out] at hy
            simp at hy ⊢
            rcases hy with rfl | hy
            · omega
            · have := HX.out y hy; omega
          have rowb := RowX.of hob hXY
          have R13 := (((HRq.out.below cbb).setF rowb).sub pmX (fun x hx => by rw [HY.out]; simp [hx]))
          rw [← upP_stop q0 q6 HNO.out, DFq.out] at R13
          have HR13 := Lib.hid R13
          have K13 := Lib.hid (Kq.then ((Keep.of cbb).setCell (p := ⟨pm, 1, none⟩) (.inl (by simp)) (.slice t1 t2 t3)))
          clear R13 rowb hob hXY cbb
          go_wp2
          go_ret
          exact ⟨_, _, rfl, HR13.out, K13.out⟩
    · have HNO : Hid (q < 6 → getL F' (budA p q) ≠ some q) := fun h => absurd h h6
      have hne := fun z hz => IHq.out.other (z := z) (List.mem_append_left (delL a T) hz)
      have NE := Lib.hid hne; have FA := Lib.hid IHq.out.fa
      have WI : Hid (∀ w' : World, Below wr.heap.size wr w' → Calls Tryz.prog 131 #[vF', .agg #[.int .i64 p, .int .i64 q]] w' fun e w'' => ∃ v', e = .returned v' ∧ OwnB w' w'' v' (putL p q F')) :=
        fun w' hb => with_ok vF' F' _ _ w' ((HRq.out.below hb).rF.rowT) FA.out NE.out hlen
      have BB0 : Hid (∀ w' : World, Below wr.heap.size wr w' → w'.cell? ⟨pm, 1, none⟩ = some vF') := fun w' hb => (hb.cell (p := ⟨pm, 1, none⟩) lpq).trans HRq.out.c1
      have BB1 : Hid (∀ w' : World, Below wr.heap.size wr w' → w'.cell? ⟨w.heap.size, 0, none⟩ = some (.int .i64 p)) := fun w' hb => (hb.cell (p := ⟨w.heap.size, 0, none⟩) xl).trans HXq.out.c0
      have BB2 : Hid (∀ w' : World, Below wr.heap.size wr w' → w'.cell? ⟨w.heap.size, 1, none⟩ = some (.int .i64 q)) := fun w' hb => (hb.cell (p := ⟨w.heap.size, 1, none⟩) xl).trans HXq.out.c1
      have BBF : Hid (∀ w' : World, Below wr.heap.size wr w' → w'.frozen? ⟨pm, 1, none⟩ = false) := fun w' hb => (hb.frozen (p := ⟨pm, 1, none⟩) lpq).trans HRq.out.f1
      clear hne
      clear hblk
      go_wp2_with fail
      go_region_with (first
        | (go_at_call 131; refine (WI.out _ ((Below.refl _ _).drew)).mono ?_; rintro e wb ⟨vb, rfl, hob⟩; obtain ⟨t1, t2, t3, rfl⟩ := hob.isSlice; have cbb : Below wr.heap.size wr wb := ((Below.refl _ _).drew).trans (hob.2.mono (by simp)); have xb0 := BB0.out _ cbb; have xb1 := BB1.out _ cbb; have xb2 := BB2.out _ cbb; have xbf := BBF.out _ cbb))
      all_goals
        have hXY : ∀ y ∈ Y, y < wr.drew.heap.size := fun y hy => by
          rw [HY.out] at hy
          simp at hy ⊢
          rcases hy with rfl | hy
          · omega
          · have := HX.out y hy; omega
        have rowb := RowX.of hob hXY
        have R13 := (((HRq.out.below cbb).setF rowb).sub pmX (fun x hx => by rw [HY.out]; simp [hx]))
        rw [← upP_stop q0 q6 HNO.out, DFq.out] at R13
        have HR13 := Lib.hid R13
        have K13 := Lib.hid (Kq.then ((Keep.of cbb).setCell (p := ⟨pm, 1, none⟩) (.inl (by simp)) (.slice t1 t2 t3)))
        clear R13 rowb hob hXY cbb
        go_wp2
        go_ret
        exact ⟨_, _, rfl, HR13.out, K13.out⟩
end Go.Proofs.YtcokmiidgdmdlaaGreatDoor

namespace Go.Proofs.YtcokmiidgdmdlaaGreatDoor
open Go.RowKit Go.Maps
set_option linter.unusedSimpArgs false

set_option maxHeartbeats 4000000 in
set_option maxRecDepth 100000 in
theorem asBuddy_ok {X : List Nat} (pb pm : Nat) (n : Int) (bf bt : Nat) (vF vT : Value) (F T : List (Int × Int)) (w : World) (h : Bud w pb n bf bt F T) (hr : RBud X w pm n vF vT F T) (hI : Inv n F T) :
    Calls Tryz.prog 83 #[.pointer (some ⟨pb, 0, none⟩), .pointer (some ⟨pm, 0, none⟩)] w fun e w' => e = .returned (.bool true) ∧ Below w.heap.size w w' := by
  have HB := Lib.hid h; have HR := Lib.hid hr; have HI := Lib.hid hI
  have lpm := hr.lt
  clear h hr hI
  go_enter Tryz.func83, Tryz.ntmps83
  go_wp2_with fail
  refine (pages_ok pb n bf bt F T w HB.out).mono ?_
  rintro e w1 ⟨rfl, hb1⟩
  have z1 := hb1.size
  have B1 := HB.out.below hb1
  have R1 := HR.out.below hb1
  have lp1 := R1.lt
  have FR : Hid (∀ w' : World, Below w1.heap.size w1 w' → Calls Tryz.prog 62 #[.pointer (some ⟨pb, 0, none⟩)] w' fun e w'' => ∃ v, e = .returned v ∧ OwnB w' w'' v F) := fun w' hb => free_ok pb n bf bt F T w' (B1.below hb)
  have TR : Hid (∀ w' : World, Below w1.heap.size w1 w' → Calls Tryz.prog 135 #[.pointer (some ⟨pb, 0, none⟩)] w' fun e w'' => ∃ v, e = .returned v ∧ OwnB w' w'' v T) := fun w' hb => taken_ok pb n bf bt F T w' (B1.below hb)
  have SF : Hid (∀ w0 (w' : World) (v : Value), Below w1.heap.size w1 w' → OwnB w0 w' v F → Calls Tryz.prog 134 #[v, vF] w' fun e w'' => e = .returned (.bool true) ∧ Below w'.heap.size w' w'') := fun w0 w' v hb ho => same_yes v vF F w' ho.rowT.rowB (R1.below hb).rF.rowT.rowB
  have ST : Hid (∀ w0 (w' : World) (v : Value), Below w1.heap.size w1 w' → OwnB w0 w' v T → Calls Tryz.prog 134 #[v, vT] w' fun e w'' => e = .returned (.bool true) ∧ Below w'.heap.size w' w'') := fun w0 w' v hb ho => same_yes v vT T w' ho.rowT.rowB (R1.below hb).rT.rowT.rowB
  have FP : Hid (∀ w' : World, Below w1.heap.size w1 w' → Calls Tryz.prog 78 #[.pointer (some ⟨pm, 0, none⟩)] w' fun e w'' => e = .returned (.int .i64 (sumL F)) ∧ Below w'.heap.size w' w'') := fun w' hb => freePages_ok pm n vF vT F T w' (R1.below hb) HI.out
  have BB0 : Hid (∀ w' : World, Below w1.heap.size w1 w' → w'.cell? ⟨pm, 0, none⟩ = some (.int .i64 n)) := fun w' hb => (hb.cell (p := ⟨pm, 0, none⟩) lp1).trans R1.c0
  have BB1 : Hid (∀ w' : World, Below w1.heap.size w1 w' → w'.cell? ⟨pm, 1, none⟩ = some vF) := fun w' hb => (hb.cell (p := ⟨pm, 1, none⟩) lp1).trans R1.c1
  have BB2 : Hid (∀ w' : World, Below w1.heap.size w1 w' → w'.cell? ⟨pm, 2, none⟩ = some vT) := fun w' hb => (hb.cell (p := ⟨pm, 2, none⟩) lp1).trans R1.c2
  have y0 := R1.c0; have y1 := R1.c1; have y2 := R1.c2
  clear B1 R1
  go_wp2_with fail
  go_region_held3 (fun w' => w'.cell? ⟨pm, 0, none⟩ = some (.int .i64 n) ∧ w'.cell? ⟨pm, 1, none⟩ = some vF ∧ w'.cell? ⟨pm, 2, none⟩ = some vT) (go_keep) (first
    | (go_at_call 62; refine (FR.out _ ((Below.refl _ _).drew)).mono ?_; rintro e wa ⟨va, rfl, hoa⟩; have cba : Below w1.heap.size w1 wa := ((Below.refl _ _).drew).trans (hoa.2.mono (by simp)); have xa0 := BB0.out _ cba; have xa1 := BB1.out _ cba; have xa2 := BB2.out _ cba)
    | (go_at_call_of 134 va; refine (SF.out _ wa va cba hoa).mono ?_; rintro e wb ⟨rfl, hbb⟩; have cbb : Below w1.heap.size w1 wb := cba.trans (hbb.mono cba.size); have xb0 := BB0.out _ cbb; have xb1 := BB1.out _ cbb; have xb2 := BB2.out _ cbb)
    | (go_at_call 135; refine (TR.out wb cbb).mono ?_; rintro e wc ⟨vc, rfl, hoc⟩; have cbc : Below w1.heap.size w1 wc := cbb.trans (hoc.2.mono cbb.size); have xc0 := BB0.out _ cbc; have xc1 := BB1.out _ cbc; have xc2 := BB2.out _ cbc)
    | (go_at_call_of 134 vc; refine (ST.out _ wc vc cbc hoc).mono ?_; rintro e wd ⟨rfl, hbd⟩; have cbd : Below w1.heap.size w1 wd := cbc.trans (hbd.mono cbc.size); have xd0 := BB0.out _ cbd; have xd1 := BB1.out _ cbd; have xd2 := BB2.out _ cbd)
    | (go_at_call 78; refine (FP.out wd cbd).mono ?_; rintro e we ⟨rfl, hbe⟩; have cbe : Below w1.heap.size w1 we := cbd.trans (hbe.mono cbd.size); have xe0 := BB0.out _ cbe; have xe1 := BB1.out _ cbe; have xe2 := BB2.out _ cbe))
  all_goals
    have KE : Below w.heap.size w we := hb1.trans (cbe.mono z1)
    go_wp2
    go_ret
    exact ⟨by simp, KE⟩
end Go.Proofs.YtcokmiidgdmdlaaGreatDoor

namespace Go.Proofs.YtcokmiidgdmdlaaGreatDoor
open Go.RowKit
set_option linter.unusedSimpArgs false
set_option linter.unusedVariables false
attribute [local go_sem ↓] Go.wp_at_zero Go.wp_at_succ

/-- append of a slice of blocks, at a step of a region that draws its order -/
theorem step_app {base : Nat} {v : Value} {l m : List (Int × Int)} {w : World} {p : Option Addr} {c : Nat} {ops : Array Oper} {o : Oper} {a : Act} {K : Act → World → Prop} {Q : Exit → Act → World → Prop} {F : Prop} (hgd : o.guard = none) (s x : Operand)
    (ho : o.op = .call { callee := .builtin .append, args := #[s, x], argTypes := #[126, 126] }) (hv : a.eval s = v) (mn : Nat) (hx : a.eval x = .slice p mn c) (hmn : m.length = mn)
    (hown : w.ownsRow base 39 2 v l.length (encB l)) (hs : Src w p m) (hl : l.length + m.length ≤ 65536) (hb : base ≤ w.heap.size)
    (h : ∀ q k w', w'.ownsRow base 39 2 (.slice q (l ++ m).length k) (l ++ m).length (encB (l ++ m)) → w.grownBy w' v.ownBlock → K (a.put o.dst (.slice q (l ++ m).length k)) w') :
    if Region.wanted o (yielded ops a.tmps) = true then Oper.wp Tryz.prog o a w K Q else F := by
  subst hmn
  have hw : Region.wanted o (yielded ops a.tmps) = true := by simp [Region.wanted, hgd]
  rw [if_pos hw]
  obtain ⟨v', w', hrun, h2, h3⟩ := run_app (w := w) o.type hown hs hl hb (c := c)
  have hf : ∃ q k, v' = .slice q (l ++ m).length k := by
    rcases h2.2 with ⟨e, e2⟩ | ⟨g', cap', cur, e, _⟩
    · exact ⟨none, 0, by rw [e, e2]⟩
    · exact ⟨_, _, e⟩
  obtain ⟨q, k, rfl⟩ := hf
  unfold Oper.wp execOp
  simp only [ho, resolve, invoke, builtin, Sem.run_bind, Sem.run_pure, Result.andThen_ok, List.map_toArray, List.map_cons, List.map_nil, hv, hx, hrun]
  exact h q k w' h2 h3
theorem RowX.src {X : List Nat} {w : World} {v : Value} {l : List (Int × Int)} (h : RowX X w v l) : ∃ p c, v = .slice p l.length c ∧ Src w p l := by
  rcases h with ⟨rfl, rfl⟩ | ⟨g, cap, rfl, _, _, _, _, hc⟩
  · exact ⟨none, 0, rfl, .inl ⟨rfl, rfl⟩⟩
  · exact ⟨some ⟨g, 0, none⟩, cap, rfl, .inr ⟨g, 0, rfl, fun j a k hj => by simpa using hc j a k hj⟩⟩

/-- what Own comes to -/
def OwnPost (X : List Nat) (n : Int) (F T : List (Int × Int)) (w : World) (e : Ending) (w' : World) : Prop :=
  ∃ (m : Nat) (vF vT : Value), e = .returned (.pointer (some ⟨m, 0, none⟩)) ∧ RBud (m :: X) w' m n vF vT F T ∧ w.heap.size ≤ m ∧ Below w.heap.size w w'

set_option maxHeartbeats 8000000 in
theorem own_ok {X : List Nat} (pm : Nat) (n : Int) (vF vT : Value) (F T : List (Int × Int)) (w : World) (h : RBud X w pm n vF vT F T) (hX : ∀ x ∈ X, x < w.heap.size) (hF : F.length ≤ 256) (hT : T.length ≤ 256) :
    Calls Tryz.prog 76 #[.pointer (some ⟨pm, 0, none⟩)] w (OwnPost X n F T w) := by
  have c0 := h.c0; have c1 := h.c1; have c2 := h.c2; have lp := h.lt
  obtain ⟨pF, kF, rfl, sF⟩ := h.rF.src
  obtain ⟨pT, kT, rfl, sT⟩ := h.rT.src
  have SF : Hid (∀ W, Keep [] w W → Src W pF F) := fun W k => by
    obtain ⟨p, c, e, s⟩ := (h.rF.keep k (fun s q => by cases q)).src
    injection e with e1 _ _; rw [e1]; exact s
  have ST : Hid (∀ W, Keep [] w W → Src W pT T) := fun W k => by
    obtain ⟨p, c, e, s⟩ := (h.rT.keep k (fun s q => by cases q)).src
    injection e with e1 _ _; rw [e1]; exact s
  have ST5 : Hid (∀ W, Below w.heap.size w W → Src W pT T) := fun W k => ST.out W (Keep.of k)
  have L0 := Lib.hid (LocN.mk_ w [.int .i64 n, .slice none 0 0, .slice none 0 0] 206 rfl)
  have hbw : Hid (Below w.heap.size w (w.alloc (.cells #[.int .i64 n, .slice none 0 0, .slice none 0 0] 206)).drew) := (by repeat (first | exact Below.refl _ _ | refine Below.drew ?_ | refine below_drewN ?_ _ | refine Below.trans ?_ (Below.mono (by assumption) (by first | omega | (simp; omega) | (simp; done))) | refine Below.alloc ?_ (by first | omega | (simp; omega) | (simp; done)) _ | refine Below.setCell ?_ (by first | omega | (simp; omega) | (simp; done)) _))
  clear h sF sT
  go_enter Tryz.func76, Tryz.ntmps76
  go_wp2_with fail
  go_region_law (refine step_app (base := w.heap.size + 1) (v := .slice none 0 0) (l := []) (m := F) rfl (.tmp 14) (.tmp 18) (by rfl) (by rfl) F.length (by rfl) rfl (World.ownsRow_nil _ _ _ _) (SF.out _ (by repeat (first | exact Keep.refl _ _ | refine Keep.alloc ?_ _ | refine Keep.drew ?_ | refine Keep.drewN ?_ _ | refine Keep.setCell ?_ (.inr (by first | omega | (simp; omega) | (simp; done))) _))) (by simp; omega) (by simp) ?_; intro q1 k1 w4 hown4 hg4; have B4 : Below (w.heap.size + 1) _ w4 := (Below.refl _ _).grown hg4 (by simp) (fun r hr => by simp [Value.ownBlock] at hr); have M4 := (L0.out.drewL).below B4 (by omega); have x1 := M4.c 1 _ rfl; have x2 := M4.c 2 _ rfl; have f1 := M4.f 1 (by simp); have f2 := M4.f 2 (by simp); have ml := M4.lt)
  all_goals
    have K4 : Below w.heap.size w w4 := hbw.out.trans (B4.mono (by omega))
    have z4 := B4.size
    simp at z4
    have HM4 := Lib.hid (M4.store 1 (.slice q1 F.length k1) (by simp))
    have hlt4 := ml
    have D2 := (K4.cell (p := ⟨pm, 2, none⟩) lp).trans c2
    have HR4 := Lib.hid (show RowX (w.heap.size :: X) w4 (.slice q1 F.length k1) F from RowX.of (w := (w.alloc (.cells #[.int .i64 n, .slice none 0 0, .slice none 0 0] 206)).drew) ⟨by simpa using hown4, by simpa using B4⟩ (fun x hx => by simp at hx; rcases hx with rfl | hx; (· simp); (· have := hX x hx; simp; omega)))
    clear M4 hown4 hg4 x1 x2 f1 f2 ml
    go_wp2_with fail
    obtain ⟨w5, hw5⟩ : ∃ w5, w5 = w4.setCell ⟨w.heap.size, 1, none⟩ (.slice q1 F.length k1) := ⟨_, rfl⟩
    rw [← hw5]
    have ks : Keep [w.heap.size] w4 w5 := by rw [hw5]; exact (Keep.refl _ _).setCell (p := ⟨w.heap.size, 1, none⟩) (.inl (by simp)) _
    have z5 : w5.heap.size = w4.heap.size := by rw [hw5]; simp [World.setCell]
    rw [← hw5] at HM4
    have N5 := HM4.out
    have x0 := N5.c 0 _ rfl; have x1 := N5.c 1 _ rfl; have x2 := N5.c 2 _ rfl; have xl := N5.lt; have g2 := N5.f 2 (by simp)
    have d2 := (ks.cell (b := pm) (o := 2) (by omega) (by simp; omega)).trans D2
    have K5 : Below w.heap.size w w5 := K4.trans (ks.below (by omega) (fun s hs => by simp at hs; omega))
    have HR5 := Lib.hid (HR4.out.keep ks (fun s hs => .inl (by simp at hs; simp [hs])))
    have HK5 := Lib.hid K5
    have SK : Hid (∀ W, Keep [] w5 W → Src W pT T) := fun W k => ST5.out W (HK5.out.trans (k.belowN.mono K5.size))
    have lp5 : pm < w5.heap.size := by omega
    clear hw5 ks D2 HR4 K4 B4 N5
    go_region_law (refine step_app (base := w5.heap.size) (v := .slice none 0 0) (l := []) (m := T) rfl (.tmp 26) (.tmp 30) (by rfl) (by rfl) T.length (by rfl) rfl (World.ownsRow_nil _ _ _ _) (SK.out _ (by repeat (first | exact Keep.refl _ _ | refine Keep.alloc ?_ _ | refine Keep.drew ?_ | refine Keep.drewN ?_ _ | refine Keep.setCell ?_ (.inr (by first | omega | (simp; omega) | (simp; done))) _))) (by simp; omega) (by simp) ?_; intro q2 k2 w6 hown6 hg6; have B6 : Below w5.heap.size _ w6 := (Below.refl _ _).grown hg6 (by simp) (fun r hr => by simp [Value.ownBlock] at hr); have M6 := (HM4.out.drewL).below B6 (by omega); have y1 := M6.c 1 _ rfl; have y2 := M6.c 2 _ rfl; have h1 := M6.f 1 (by simp); have h2 := M6.f 2 (by simp); have yl := M6.lt)
    all_goals
      have HM6 := Lib.hid (M6.store 2 (.slice q2 T.length k2) (by simp))
      have z6 := B6.size
      simp at z6
      have K6 : Below w.heap.size w w6 := HK5.out.trans ((Below.trans (Below.refl _ _).drew B6).mono K5.size)
      have HR6 := Lib.hid (HR5.out.keep (Keep.of (Below.trans (Below.refl _ _).drew B6) : Keep [] w5 w6) (fun s hs => by cases hs))
      have HT6 := Lib.hid (show RowX (w.heap.size :: X) w6 (.slice q2 T.length k2) T from RowX.of (w := w5.drew) ⟨by simpa using hown6, by simpa using B6⟩ (fun x hx => by simp at hx; rcases hx with rfl | hx; (· simpa using xl); (· have := hX x hx; simp; omega)))
      clear M6 hown6 hg6
      go_wp2
      go_ret
      have ks : Keep [w.heap.size] w6 (w6.setCell ⟨w.heap.size, 2, none⟩ (.slice q2 T.length k2)) := (Keep.refl _ _).setCell (p := ⟨w.heap.size, 2, none⟩) (.inl (by simp)) _
      refine ⟨w.heap.size, .slice q1 F.length k1, .slice q2 T.length k2, rfl, ⟨HM6.out.lt, by simp, HM6.out.c 0 _ rfl, HM6.out.c 1 _ rfl, HM6.out.c 2 _ rfl, HM6.out.f 1 (by simp), HM6.out.f 2 (by simp), HR6.out.keep ks (fun s hs => .inl (by simp at hs; simp [hs])), HT6.out.keep ks (fun s hs => .inl (by simp at hs; simp [hs]))⟩, Nat.le_refl _, K6.trans (ks.below (by omega) (fun s hs => by simp at hs; omega))⟩
end Go.Proofs.YtcokmiidgdmdlaaGreatDoor
