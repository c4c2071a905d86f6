/- The statement BuddyWhole: its walk. -/
import Derived.Test.YtcooflachcimbaaDoorBudH
import Derived.Test.YtcooflachcimbaaDoorRowI
import Derived.Test.YtcooflachcimbaaDoorBudO
import Derived.IntWalk
namespace Go.Proofs.YtcooflachcimbaaDoor
open Go.RowKit Go.Maps
set_option linter.unusedSimpArgs false

set_option maxHeartbeats 400000 in
theorem buddyWhole_no {B : Nat} {ev : Nat → Addr} (n : Int) (v : Value) (xs : List Int) (w : World) (hE : ErrC B ev w) (hv : RowI w v xs) (h : 100 < xs.length ∨ n < 1 ∨ 256 < n) :
    Calls Tryd.prog 8 #[.int .i64 n, v] w fun e w' => e = .returned (.bool true) ∧ Below w.heap.size w w' := by
  obtain ⟨p, cap, rfl, _⟩ := hv
  by_cases h1 : 100 < xs.length
  · clear h
    go_enter Tryd.func8, Tryd.ntmps8
    go_wp2_with fail
    refine (paired_yes w hE).mono ?_
    rintro e w1 ⟨rfl, hb1⟩
    go_wp2
    go_ret
    exact ⟨rfl, hb1⟩
  by_cases h2 : n < 1
  · clear h
    go_enter Tryd.func8, Tryd.ntmps8
    go_wp2_with fail
    refine (paired_yes w hE).mono ?_
    rintro e w1 ⟨rfl, hb1⟩
    go_wp2
    go_ret
    exact ⟨rfl, hb1⟩
  · have h3 : 256 < n := by omega
    clear h
    go_enter Tryd.func8, Tryd.ntmps8
    go_wp2_with fail
    refine (paired_yes w hE).mono ?_
    rintro e w1 ⟨rfl, hb1⟩
    go_wp2
    go_ret
    exact ⟨rfl, hb1⟩

theorem delL_head {T : List (Int × Int)} (hA : Asc T) {j : Nat} {z : Int × Int} (h : T[j]? = some z) : delL z.1 (T.drop j) = T.drop (j + 1) := by
  have hA' : Asc (T.drop j) := List.Pairwise.sublist (List.drop_sublist j T) hA
  have hj : (T.drop j)[0]? = some z := by rw [List.getElem?_drop]; exact h
  rw [delL_cut hA' hj]
  simp

set_option maxHeartbeats 4000000 in
set_option maxRecDepth 100000 in
theorem buddyWhole_yes {B : Nat} {ev : Nat → Addr} (n : Int) (v : Value) (xs : List Int) (w : World) (hE : ErrD B ev w) (hv : RowI w v xs) (h1 : xs.length ≤ 100) (n1 : 1 ≤ n) (n2 : n ≤ 256) :
    Calls Tryd.prog 8 #[.int .i64 n, v] w fun e w' => e = .returned (.bool true) ∧ Below w.heap.size w w' := by
  have hB := hE.size
  obtain ⟨p, cap, rfl, hc⟩ := hv
  have C := Lib.hid hc
  have NEW := Lib.hid (fun w => new_ok n w n1 n2)
  have I0 := Lib.hid (Inv.start n1 n2)
  obtain ⟨NX, hNX⟩ : ∃ m, m = xs.length := ⟨_, rfl⟩
  rw [← hNX] at h1 ⊢
  have HNX := Lib.hid hNX
  clear hc hNX
  go_enter Tryd.func8, Tryd.ntmps8
  go_wp2_with fail
  refine (paired_yes w hE.c).mono ?_
  rintro e w1 ⟨rfl, hb1⟩
  have z1 := hb1.size
  go_wp2_with fail
  refine (NEW.out w1).mono ?_
  rintro e w2 ⟨pb, bf, bt, rfl, hbud, ⟨g1, g2, g3⟩, hb2⟩
  have BU2 := Lib.hid hbud
  have z2 := hb2.size
  have K2 : Below w.heap.size w w2 := hb1.trans (hb2.mono z1)
  have ltf := hbud.ltf; have ltt := hbud.ltt
  clear hbud NEW
  go_wp2_with fail
  refine (free_ok pb n bf bt _ _ w2 BU2.out).mono ?_
  rintro e w3 ⟨vf, rfl, ho⟩
  have hb3 := ho.2
  have z3 := hb3.size
  have FI := Lib.hid ho.rowS
  have BU3 := Lib.hid (BU2.out.below hb3)
  have K3 : Below w.heap.size w w3 := K2.trans (hb3.mono (by omega))
  clear ho BU2
  go_wp2_with fail
  go_loopw [9] (fun iv wr => ∃ (j : Nat) (F T : List (Int × Int)), j ≤ NX ∧ iv = .int .i64 j ∧ Hid (Bud wr pb n bf bt F T) ∧ Hid (Inv n F T) ∧ Hid (RowS w2.heap.size wr vf (covL 0 n)) ∧ Below w.heap.size w wr) (fun iv _ => NX - (intOf iv).toNat)
  case atStart => exact ⟨0, _, _, Nat.zero_le _, rfl, BU3, I0, FI, K3⟩
  case round =>
    obtain ⟨j, F, T, hj, rfl, BUr, Ir, FIr, hbel⟩ := hrel
    clear BU3 I0 FI
    have zr := hbel.size
    have hEr : ErrD B ev wr := hE.below (hbel.mono hB)
    by_cases hlt : j < NX
    · obtain ⟨x, hx⟩ : ∃ x, xs[j]? = some x := ⟨xs[j]'(by rw [← HNX.out]; exact hlt), List.getElem?_eq_getElem _⟩
      obtain ⟨g, off, rfl, hg, hcx, wx1, wx2⟩ := C.out j x hx
      have r1 := (hbel.cell (p := ⟨g, off + j, none⟩) hg).trans hcx
      clear hx hcx
      go_wp2_with fail
      refine (taken_ok pb n bf bt F T wr BUr.out).mono ?_
      rintro e w4 ⟨vt, rfl, ho⟩
      have hb4 := ho.2
      have z4 := hb4.size
      have BU4 := Lib.hid (BUr.out.below hb4)
      have RT := ho.rowS
      have r2 := (hb4.cell (p := ⟨g, off + j, none⟩) (show g < wr.heap.size by omega)).trans r1
      have K4 : Below w.heap.size w w4 := hbel.trans (hb4.mono zr)
      have hE4 : ErrD B ev w4 := hE.below (K4.mono hB)
      have F4 := Lib.hid (FIr.out.below hb4)
      clear ho r1 FIr BUr hEr
      by_cases hx0 : 0 ≤ x
      · by_cases hx6 : x ≤ 6
        · have TS := Lib.hid (take_st pb n bf bt F T x w4 hE4 (by omega) BU4.out Ir.out)
          clear RT
          go_wp2_with fail
          refine TS.out.mono ?_
          rintro e w5 ⟨r, x', F', T', rfl, BU5, I5, hk5⟩
          clear TS BU4 r2
          have z5 := hk5.size
          have K5 : Below w.heap.size w w5 := hk5.after K4 (by omega) (by simp; omega)
          have hE5 := hE.below (K5.mono hB)
          have F5 := Lib.hid (F4.out.keep hk5 (by simp; omega))
          have TI := Lib.hid (tiled_ok pb n bf bt _ _ w5 hE5.c BU5.out I5.out)
          clear F4 hE5 hk5
          go_wp2_with fail
          refine TI.out.mono ?_
          rintro e w6 ⟨rfl, hb6⟩
          have BU6 := Lib.hid (BU5.out.below hb6)
          have F6 := Lib.hid (F5.out.below hb6)
          have K6 : Below w.heap.size w w6 := K5.trans (hb6.mono (by omega))
          clear TI F5 BU5 K5
          go_wp2
          go_roundw
          case rel => exact ⟨j + 1, _, _, by omega, by go_num, BU6, I5, F6, K6⟩
          case measure => simp [intOf]; omega
        · obtain ⟨q, cap', rfl, _, hc2⟩ := RT
          have C2 := Lib.hid hc2
          have hlT := Ir.out.lenT
          clear hc2
          by_cases hT : T = []
          · subst hT
            have I5 := Ir
            have TI := Lib.hid (tiled_ok pb n bf bt _ _ w4 hE4.c BU4.out I5.out)
            go_wp2_with fail
            refine TI.out.mono ?_
            rintro e w6 ⟨rfl, hb6⟩
            have BU6 := Lib.hid (BU4.out.below hb6)
            have F6 := Lib.hid (F4.out.below hb6)
            have K6 : Below w.heap.size w w6 := K4.trans (hb6.mono (by omega))
            clear TI F4 BU4 K4 r2
            go_wp2
            go_roundw
            case rel => exact ⟨j + 1, _, _, by omega, by go_num, BU6, I5, F6, K6⟩
            case measure => simp [intOf]; omega
          · have hTp : 0 < T.length := List.length_pos_iff.2 hT
            have hTz : (0 : Int) < T.length := by omega
            have hx7 : ¬ x ≤ 6 := hx6
            obtain ⟨m, hm⟩ : ∃ m : Nat, x % (T.length : Int) = m := ⟨(x % (T.length : Int)).toNat, by have := Int.emod_nonneg x (show (T.length : Int) ≠ 0 by omega); omega⟩
            have hml : m < T.length := by have := Int.emod_lt_of_pos x hTz; omega
            obtain ⟨y, hy⟩ : ∃ y, T[m]? = some y := ⟨T[m], List.getElem?_eq_getElem _⟩
            obtain ⟨a, k⟩ := y
            obtain ⟨g', rfl, _, hg', p1, p2⟩ := C2.out m a k hy
            have SP := Lib.hid (split_st pb n bf bt F T a k w4 hE4.c BU4.out Ir.out (List.mem_of_getElem? hy))
            clear hy hT BU4
            go_wp2_with fail
            refine SP.out.mono ?_
            rintro e w5 ⟨x', F', T', rfl, BU5, I5, hk5⟩
            clear SP p1 p2 hm r2
            have z5 := hk5.size
            have K5 : Below w.heap.size w w5 := hk5.after K4 (by omega) (by simp; omega)
            have hE5 := hE.below (K5.mono hB)
            have F5 := Lib.hid (F4.out.keep hk5 (by simp; omega))
            have TI := Lib.hid (tiled_ok pb n bf bt _ _ w5 hE5.c BU5.out I5.out)
            clear F4 hE5 hk5
            go_wp2_with fail
            refine TI.out.mono ?_
            rintro e w6 ⟨rfl, hb6⟩
            have BU6 := Lib.hid (BU5.out.below hb6)
            have F6 := Lib.hid (F5.out.below hb6)
            have K6 : Below w.heap.size w w6 := K5.trans (hb6.mono (by omega))
            clear TI F5 BU5 K5
            go_wp2
            go_roundw
            case rel => exact ⟨j + 1, _, _, by omega, by go_num, BU6, I5, F6, K6⟩
            case measure => simp [intOf]; omega
      · obtain ⟨q, cap', rfl, _, hc2⟩ := RT
        have C2 := Lib.hid hc2
        have hlT := Ir.out.lenT
        clear hc2
        by_cases hT : T = []
        · subst hT
          have I5 := Ir
          have TI := Lib.hid (tiled_ok pb n bf bt _ _ w4 hE4.c BU4.out I5.out)
          go_wp2_with fail
          refine TI.out.mono ?_
          rintro e w6 ⟨rfl, hb6⟩
          have BU6 := Lib.hid (BU4.out.below hb6)
          have F6 := Lib.hid (F4.out.below hb6)
          have K6 : Below w.heap.size w w6 := K4.trans (hb6.mono (by omega))
          clear TI F4 BU4 K4 r2
          go_wp2
          go_roundw
          case rel => exact ⟨j + 1, _, _, by omega, by go_num, BU6, I5, F6, K6⟩
          case measure => simp [intOf]; omega
        · have hTp : 0 < T.length := List.length_pos_iff.2 hT
          have hTz : (0 : Int) < T.length := by omega
          have hw1 : IntKind.i64.wrap (x + 1) = x + 1 := IntWalk.i64_in _ (by omega)
          have hw2 : IntKind.i64.wrap (-(x + 1)) = -(x + 1) := IntWalk.i64_in _ (by omega)
          obtain ⟨m, hm⟩ : ∃ m : Nat, (-(x + 1)) % (T.length : Int) = m := ⟨((-(x + 1)) % (T.length : Int)).toNat, by have := Int.emod_nonneg (-(x + 1)) (show (T.length : Int) ≠ 0 by omega); omega⟩
          have hml : m < T.length := by have := Int.emod_lt_of_pos (-(x + 1)) hTz; omega
          have hmt : (x + 1).tmod (T.length : Int) = -(m : Int) := by
            have := Int.tmod_eq_emod_of_nonneg (a := -(x + 1)) (b := (T.length : Int)) (by omega)
            rw [Int.neg_tmod] at this
            omega
          clear hm
          obtain ⟨y, hy⟩ : ∃ y, T[m]? = some y := ⟨T[m], List.getElem?_eq_getElem _⟩
          obtain ⟨a, k⟩ := y
          obtain ⟨g', rfl, _, hg', p1, p2⟩ := C2.out m a k hy
          have GI := Lib.hid (give_st pb n bf bt F T a k w4 hE4.c (by omega) (by omega) BU4.out Ir.out (List.mem_of_getElem? hy))
          clear hy hT BU4
          go_wp2_with fail
          refine GI.out.mono ?_
          rintro e w5 ⟨F', rfl, BU5, I5, hk5⟩
          clear GI p1 p2 hmt r2 hw1 hw2
          have z5 := hk5.size
          have K5 : Below w.heap.size w w5 := hk5.after K4 (by omega) (by simp; omega)
          have hE5 := hE.below (K5.mono hB)
          have F5 := Lib.hid (F4.out.keep hk5 (by simp; omega))
          have TI := Lib.hid (tiled_ok pb n bf bt _ _ w5 hE5.c BU5.out I5.out)
          clear F4 hE5 hk5
          go_wp2_with fail
          refine TI.out.mono ?_
          rintro e w6 ⟨rfl, hb6⟩
          have BU6 := Lib.hid (BU5.out.below hb6)
          have F6 := Lib.hid (F5.out.below hb6)
          have K6 : Below w.heap.size w w6 := K5.trans (hb6.mono (by omega))
          clear TI F5 BU5 K5
          go_wp2
          go_roundw
          case rel => exact ⟨j + 1, _, _, by omega, by go_num, BU6, I5, F6, K6⟩
          case measure => simp [intOf]; omega
    · have hnl : ¬ j < NX := hlt
      go_wp2_with fail
      refine (taken_ok pb n bf bt F T wr BUr.out).mono ?_
      rintro e w4 ⟨vt, rfl, ho⟩
      have hb4 := ho.2
      have z4 := hb4.size
      have BU4 := Lib.hid (BUr.out.below hb4)
      have RT := ho.rowS
      have K4 : Below w.heap.size w w4 := hbel.trans (hb4.mono zr)
      have F4 := Lib.hid (FIr.out.below hb4)
      have hlT := Ir.out.lenT
      obtain ⟨q, cap', rfl, _, hc2⟩ := RT
      have C2 := Lib.hid (show RowS wr.heap.size w4 (.slice q T.length cap') T from ho.rowS)
      have I4 := Lib.hid (show Inv n F (T.drop 0) from Ir.out)
      have B4 := Lib.hid (show Bud w4 pb n bf bt F (T.drop 0) from BU4.out)
      have TA := Lib.hid Ir.out.ta
      have lfr := BUr.out.ltf; have ltr := BUr.out.ltt
      clear ho FIr BUr hEr hc2 Ir BU4
      obtain ⟨NT, hNT⟩ : ∃ m, m = T.length := ⟨_, rfl⟩
      have HNT := Lib.hid hNT
      rw [← hNT] at hlT C2 ⊢
      clear hNT hbel
      obtain ⟨wo, rfl⟩ : ∃ wo : World, wo = wr := ⟨_, rfl⟩
      go_wp2_with fail
      go_loopw [15] (fun iv wr => ∃ (i : Nat) (F' : List (Int × Int)), i ≤ NT ∧ iv = .int .i64 i ∧ Hid (Bud wr pb n bf bt F' (T.drop i)) ∧ Hid (Inv n F' (T.drop i)) ∧ Hid (RowS w2.heap.size wr vf (covL 0 n)) ∧ Hid (RowS wo.heap.size wr (.slice q NT cap') T) ∧ Below w.heap.size w wr ∧ wo.heap.size ≤ wr.heap.size) (fun iv _ => NT - (intOf iv).toNat)
      case atStart => exact ⟨0, F, Nat.zero_le _, rfl, B4, I4, F4, C2, K4, z4⟩
      case round =>
        obtain ⟨i, F', hi, rfl, BUq, Iq, Fq, Cq, Kq, zq⟩ := hrel
        clear B4 I4 F4 C2 K4
        have bq := BUq.out.ltf; have bq2 := BUq.out.ltt
        have hEq : ErrD B ev wr := hE.below (Kq.mono hB)
        obtain ⟨p', c', e, _, hcq⟩ := Cq.out
        have e1 : q = p' := by injection e
        rw [← e1] at hcq
        clear e e1
        by_cases hlt : i < NT
        · obtain ⟨y, hy⟩ : ∃ y, T[i]? = some y := ⟨T[i]'(by rw [← HNT.out]; exact hlt), List.getElem?_eq_getElem _⟩
          obtain ⟨a, k⟩ := y
          obtain ⟨g, rfl, hgb, hg, p1, p2⟩ := hcq i a k hy
          have hmem : (a, k) ∈ T.drop i := by
            rw [List.drop_eq_getElem_cons (List.getElem?_eq_some_iff.1 hy).1, (List.getElem?_eq_some_iff.1 hy).2]
            exact List.mem_cons_self ..
          have GI := give_st pb n bf bt F' (T.drop i) a k wr hEq.c (by omega) (by omega) BUq.out Iq.out hmem
          rw [delL_head TA.out hy] at GI
          have HGI := Lib.hid GI
          clear hy hmem hcq GI hEq
          go_wp2_with fail
          refine HGI.out.mono ?_
          rintro e w5 ⟨F2, rfl, BU5, I5, hk5⟩
          have z5 := hk5.size
          have K5 : Below w.heap.size w w5 := hk5.after Kq (by omega) (by simp; omega)
          have F5 := Lib.hid (Fq.out.keep hk5 (by simp; omega))
          have C5 := Lib.hid (Cq.out.keep hk5 (by simp; omega))
          clear p1 p2 HGI
          go_wp2
          go_roundw
          case rel => exact ⟨i + 1, F2, by omega, by go_num, BU5, I5, F5, C5, K5, by omega⟩
          case measure => simp [intOf]; omega
        · have ei : i = NT := by omega
          have ed : T.drop i = [] := by rw [ei, HNT.out]; exact List.drop_length
          rw [ed] at BUq Iq
          have hw := Iq.out.whole
          have hlF := Iq.out.lenF
          have FR := Lib.hid (free_ok pb n bf bt F' [] wr BUq.out)
          have HW := Lib.hid hw
          clear hcq hEq ed hw ei
          go_wp2_with fail
          refine FR.out.mono ?_
          rintro e w5 ⟨v5, rfl, ho⟩
          have hb5 := ho.2
          have z5 := hb5.size
          have BU5 := Lib.hid (BUq.out.below hb5)
          have R5 := ho.rowS
          have F5 := Fq.out.below hb5
          rw [← HW.out] at F5
          have SY := Lib.hid (same_yes v5 vf F' w5 (R5.rowB (by unfold maxLen; omega)) (F5.rowB (by unfold maxLen; omega)))
          have K5 : Below w.heap.size w w5 := Kq.trans (hb5.mono (by omega))
          clear ho FR R5 F5
          go_wp2_with fail
          refine SY.out.mono ?_
          rintro e w6 ⟨rfl, hb6⟩
          have z6 := hb6.size
          have TK := Lib.hid (taken_ok pb n bf bt F' [] w6 (BU5.out.below hb6))
          have K6 : Below w.heap.size w w6 := K5.trans (hb6.mono (by omega))
          clear SY
          go_wp2_with fail
          refine TK.out.mono ?_
          rintro e w7 ⟨v7, rfl, ho⟩
          have K7 : Below w.heap.size w w7 := K6.trans (ho.2.mono (by omega))
          obtain ⟨q7, c7, rfl, _, _⟩ := ho.rowS
          clear ho TK
          go_wp2
          go_ret
          exact ⟨by simp, K7⟩

theorem buddyWhole_walk {B : Nat} {ev : Nat → Addr} (n : Int) (v : Value) (xs : List Int) (w : World) (hE : ErrD B ev w) (hv : RowI w v xs) :
    Calls Tryd.prog 8 #[.int .i64 n, v] w fun e w' => e = .returned (.bool true) ∧ Below w.heap.size w w' := by
  by_cases h : 100 < xs.length ∨ n < 1 ∨ 256 < n
  · exact buddyWhole_no n v xs w hE.c hv h
  · exact buddyWhole_yes n v xs w hE hv (by omega) (by omega) (by omega)
end Go.Proofs.YtcooflachcimbaaDoor
