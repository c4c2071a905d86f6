/- The statement BuddyLeft: its walk. -/
import Derived.Test.YtcooflachcimbaaDoorBudH
import Derived.Test.YtcooflachcimbaaDoorRowI
import Derived.Test.YtcooflachcimbaaDoorBudO
import Derived.Test.YtcooflachcimbaaDoorCode
import Derived.IntWalk
namespace Go.Proofs.YtcooflachcimbaaDoor
open Go.RowKit Go.Maps
set_option linter.unusedSimpArgs false

def greatL (k : Int) (l : List (Int × Int)) : Bool := l.any fun p => decide (k ≤ p.2)
theorem greatL_none {k : Int} {F : List (Int × Int)} (h : bestL k F = none) : greatL k F = false := by
  unfold greatL
  rw [List.any_eq_false]
  intro p hp
  have := bestL_none h p hp
  simp; omega
theorem greatL_some {k : Int} {F : List (Int × Int)} {x : Int × Int} (h : bestL k F = some x) : greatL k F = true := by
  obtain ⟨h1, h2⟩ := bestL_some h
  unfold greatL
  exact List.any_eq_true.2 ⟨x, h1, by simpa using h2⟩
theorem greatL_snoc {k : Int} {F : List (Int × Int)} {i : Nat} {z : Int × Int} (h : F[i]? = some z) : greatL k (F.take (i + 1)) = (greatL k (F.take i) || decide (k ≤ z.2)) := by
  unfold greatL
  rw [List.take_add_one, h]
  simp

set_option maxHeartbeats 1000000 in
set_option maxRecDepth 100000 in
theorem buddyLeft_no {B : Nat} {ev : Nat → Addr} (n : Int) (v : Value) (xs : List Int) (order : Int) (w : World) (hE : Errs B ev w) (hv : RowI w v xs) (h : 60 < xs.length ∨ n < 1 ∨ 256 < n ∨ order < 0 ∨ 6 < order) :
    Calls Tryd.prog 9 #[.int .i64 n, v, .int .i64 order] w fun e w' => e = .returned (.bool true) ∧ Below w.heap.size w w' := by
  obtain ⟨p, cap, rfl, _⟩ := hv
  by_cases h1 : 60 < xs.length
  · clear h
    go_enter Tryd.func9, Tryd.ntmps9
    go_wp2_with fail
    refine (paired_yes w hE.c).mono ?_
    rintro e w1 ⟨rfl, hb1⟩
    go_wp2
    go_ret
    exact ⟨rfl, hb1⟩
  by_cases h2 : n < 1
  · clear h
    go_enter Tryd.func9, Tryd.ntmps9
    go_wp2_with fail
    refine (paired_yes w hE.c).mono ?_
    rintro e w1 ⟨rfl, hb1⟩
    go_wp2
    go_ret
    exact ⟨rfl, hb1⟩
  by_cases h3 : 256 < n
  · clear h
    go_enter Tryd.func9, Tryd.ntmps9
    go_wp2_with fail
    refine (paired_yes w hE.c).mono ?_
    rintro e w1 ⟨rfl, hb1⟩
    go_wp2
    go_ret
    exact ⟨rfl, hb1⟩
  by_cases h4 : order < 0
  · clear h
    go_enter Tryd.func9, Tryd.ntmps9
    go_wp2_with fail
    refine (paired_yes w hE.c).mono ?_
    rintro e w1 ⟨rfl, hb1⟩
    go_wp2
    go_ret
    exact ⟨rfl, hb1⟩
  · have h5 : 6 < order := by omega
    clear h
    go_enter Tryd.func9, Tryd.ntmps9
    go_wp2_with fail
    refine (paired_yes w hE.c).mono ?_
    rintro e w1 ⟨rfl, hb1⟩
    go_wp2
    go_ret
    exact ⟨rfl, hb1⟩

set_option maxHeartbeats 4000000 in
set_option maxRecDepth 100000 in
theorem buddyLeft_yes {B : Nat} {ev : Nat → Addr} (n : Int) (v : Value) (xs : List Int) (order : Int) (w : World) (hE : Errs B ev w) (hv : RowI w v xs) (h1 : xs.length ≤ 60) (n1 : 1 ≤ n) (n2 : n ≤ 256) (k0 : 0 ≤ order) (k6 : order ≤ 6) :
    Calls Tryd.prog 9 #[.int .i64 n, v, .int .i64 order] w fun e w' => e = .returned (.bool true) ∧ Below w.heap.size w w' := by
  have hB := hE.size
  obtain ⟨p, cap, rfl, hc⟩ := hv
  have C := Lib.hid hc
  have NEW := Lib.hid (fun w => new_ok n w n1 n2)
  have I0 := Lib.hid (Inv.start n1 n2)
  obtain ⟨NX, hNX⟩ : ∃ m, m = xs.length := ⟨_, rfl⟩
  rw [← hNX] at h1 ⊢
  have HNX := Lib.hid hNX
  clear hc hNX
  go_enter Tryd.func9, Tryd.ntmps9
  go_wp2_with fail
  refine (paired_yes w hE.c).mono ?_
  rintro e w1 ⟨rfl, hb1⟩
  have z1 := hb1.size
  go_wp2_with fail
  refine (NEW.out w1).mono ?_
  rintro e w2 ⟨pb, bf, bt, rfl, hbud, ⟨g1, g2, g3⟩, hb2⟩
  have BU2 := Lib.hid hbud
  have z2 := hb2.size
  have K2 : Below w.heap.size w w2 := hb1.trans (hb2.mono z1)
  have ltf := hbud.ltf; have ltt := hbud.ltt
  clear hbud NEW
  go_wp2_with fail
  go_loopw [10] (fun iv wr => ∃ (j : Nat) (F T : List (Int × Int)), j ≤ NX ∧ iv = .int .i64 j ∧ Hid (Bud wr pb n bf bt F T) ∧ Hid (Inv n F T) ∧ Below w.heap.size w wr ∧ w2.heap.size ≤ wr.heap.size) (fun iv _ => NX - (intOf iv).toNat)
  case atStart => exact ⟨0, _, _, Nat.zero_le _, rfl, BU2, I0, K2, Nat.le_refl _⟩
  case round =>
    obtain ⟨j, F, T, hj, rfl, BUr, Ir, hbel, z2r⟩ := hrel
    clear BU2 I0
    have zr := hbel.size
    have hEr : Errs B ev wr := hE.below (hbel.mono hB)
    by_cases hlt : j < NX
    · obtain ⟨x, hx⟩ : ∃ x, xs[j]? = some x := ⟨xs[j]'(by rw [← HNX.out]; exact hlt), List.getElem?_eq_getElem _⟩
      obtain ⟨g, off, rfl, hg, hcx, wx1, wx2⟩ := C.out j x hx
      have r1 := (hbel.cell (p := ⟨g, off + j, none⟩) hg).trans hcx
      clear hx hcx
      go_wp2_with fail
      refine (taken_ok pb n bf bt F T wr BUr.out).mono ?_
      rintro e w4 ⟨vt, rfl, ho⟩
      have hb4 := ho.2
      have z4 := hb4.size
      have BU4 := Lib.hid (BUr.out.below hb4)
      have RT := ho.rowS
      have r2 := (hb4.cell (p := ⟨g, off + j, none⟩) (show g < wr.heap.size by omega)).trans r1
      have K4 : Below w.heap.size w w4 := hbel.trans (hb4.mono zr)
      have hE4 : Errs B ev w4 := hE.below (K4.mono hB)
      clear ho r1 BUr hEr
      obtain ⟨q, cap', rfl, _, hc2⟩ := RT
      have C2 := Lib.hid hc2
      have hlT := Ir.out.lenT
      clear hc2
      by_cases hx0 : 0 ≤ x
      · have hx0' : ¬ x < 0 := by omega
        have TS := Lib.hid (take_st pb n bf bt F T x w4 hE4.d (by omega) BU4.out Ir.out)
        clear BU4
        go_wp2_with fail
        refine TS.out.mono ?_
        rintro e w5 ⟨r, x', F', T', rfl, BU5, I5, hk5⟩
        have z5 := hk5.size
        have K5 : Below w.heap.size w w5 := hk5.after K4 (by omega) (by simp; omega)
        clear TS
        go_wp2
        go_roundw
        case rel => exact ⟨j + 1, _, _, by omega, by go_num, BU5, I5, K5, by omega⟩
        case measure => simp [intOf]; omega
      · by_cases hT : T = []
        · subst hT
          have hx0' : x < 0 := by omega
          have TS := Lib.hid (take_st pb n bf bt F [] x w4 hE4.d (by omega) BU4.out Ir.out)
          clear BU4
          go_wp2_with fail
          refine TS.out.mono ?_
          rintro e w5 ⟨r, x', F', T', rfl, BU5, I5, hk5⟩
          have z5 := hk5.size
          have K5 : Below w.heap.size w w5 := hk5.after K4 (by omega) (by simp; omega)
          clear TS
          go_wp2
          go_roundw
          case rel => exact ⟨j + 1, _, _, by omega, by go_num, BU5, I5, K5, by omega⟩
          case measure => simp [intOf]; omega
        · have hTp : 0 < T.length := List.length_pos_iff.2 hT
          have hTz : (0 : Int) < T.length := by omega
          have hw1 : IntKind.i64.wrap (x + 1) = x + 1 := IntWalk.i64_in _ (by omega)
          have hw2 : IntKind.i64.wrap (-(x + 1)) = -(x + 1) := IntWalk.i64_in _ (by omega)
          obtain ⟨m, hm⟩ : ∃ m : Nat, (-(x + 1)) % (T.length : Int) = m := ⟨((-(x + 1)) % (T.length : Int)).toNat, by have := Int.emod_nonneg (-(x + 1)) (show (T.length : Int) ≠ 0 by omega); omega⟩
          have hml : m < T.length := by have := Int.emod_lt_of_pos (-(x + 1)) hTz; omega
          have hmt : (x + 1).tmod (T.length : Int) = -(m : Int) := by
            have := Int.tmod_eq_emod_of_nonneg (a := -(x + 1)) (b := (T.length : Int)) (by omega)
            rw [Int.neg_tmod] at this
            omega
          clear hm
          obtain ⟨y, hy⟩ : ∃ y, T[m]? = some y := ⟨T[m], List.getElem?_eq_getElem _⟩
          obtain ⟨a, k⟩ := y
          obtain ⟨g', rfl, _, hg', p1, p2⟩ := C2.out m a k hy
          have GI := Lib.hid (give_st pb n bf bt F T a k w4 hE4.c (by omega) (by omega) BU4.out Ir.out (List.mem_of_getElem? hy))
          clear hy hT BU4
          go_wp2_with fail
          refine GI.out.mono ?_
          rintro e w5 ⟨F', rfl, BU5, I5, hk5⟩
          have z5 := hk5.size
          have K5 : Below w.heap.size w w5 := hk5.after K4 (by omega) (by simp; omega)
          clear GI p1 p2 hmt r2 hw1 hw2
          go_wp2
          go_roundw
          case rel => exact ⟨j + 1, _, _, by omega, by go_num, BU5, I5, K5, by omega⟩
          case measure => simp [intOf]; omega
    · obtain ⟨wo, rfl⟩ : ∃ wo : World, wo = wr := ⟨_, rfl⟩
      go_wp2_with fail
      refine (free_ok pb n bf bt F T wo BUr.out).mono ?_
      rintro e w4 ⟨vf, rfl, ho⟩
      have hb4 := ho.2
      have z4 := hb4.size
      have BU4 := Lib.hid (BUr.out.below hb4)
      have K4 : Below w.heap.size w w4 := hbel.trans (hb4.mono zr)
      have RS4 := Lib.hid ho.rowS
      obtain ⟨q, cap', rfl, _, hc2⟩ := ho.rowS
      have C2 := Lib.hid hc2
      have hlF := Ir.out.lenF
      clear ho hc2 hEr BUr
      obtain ⟨NF, hNF⟩ : ∃ m, m = F.length := ⟨_, rfl⟩
      rw [← hNF] at hlF RS4 ⊢
      have HNF := Lib.hid hNF
      clear hNF hlt hbel
      go_wp2_with fail
      go_loopw [13] (fun iv wr => ∃ (i : Nat), 1 ≤ i ∧ i ≤ NF + 1 ∧ iv = .int .i64 i ∧ Below w4.heap.size w4 wr) (fun iv _ => NF - (intOf iv).toNat)
      case atStart => exact ⟨1, by omega, by omega, by go_num, Below.refl _ _⟩
      case round =>
        obtain ⟨i, i1, i2, rfl, hbel⟩ := hrel
        have zr := hbel.size
        have hEr : Errs B ev wr := hE.below (K4.trans (hbel.mono (by omega)) |>.mono hB)
        by_cases hlt : i < NF
        · obtain ⟨y, hy⟩ : ∃ y, F[i]? = some y := ⟨F[i]'(by rw [← HNF.out]; exact hlt), List.getElem?_eq_getElem _⟩
          obtain ⟨y', hy'⟩ : ∃ y, F[i - 1]? = some y := ⟨F[i - 1]'(by rw [← HNF.out]; omega), List.getElem?_eq_getElem _⟩
          obtain ⟨a, k⟩ := y
          obtain ⟨a', k'⟩ := y'
          obtain ⟨g, rfl, _, hg, p1, p2⟩ := C2.out i a k hy
          obtain ⟨g', e', _, _, p3, p4⟩ := C2.out (i - 1) a' k' hy'
          have eg : g = g' := by injection e' with e'; injection e'
          subst eg
          have r1 := (hbel.cell (p := ⟨g, i * 2, none⟩) hg).trans p1
          have r2 := (hbel.cell (p := ⟨g, i * 2 + 1, none⟩) hg).trans p2
          have r3 := (hbel.cell (p := ⟨g, (i - 1) * 2, none⟩) hg).trans p3
          have r4 := (hbel.cell (p := ⟨g, (i - 1) * 2 + 1, none⟩) hg).trans p4
          have gr : g < wr.heap.size := by omega
          have hI := Ir.out
          have hmF := List.mem_of_getElem? hy
          have hrg := hI.rngF hmF
          have hblk := (hI.t.blk (hI.memF hmF)).2.2.2
          simp only at hrg hblk
          have al : aloneE a k = 0 := aloneE_mk hrg.1 (by omega) hrg.2.2.1 hrg.2.2.2 hblk
          have iz : (1 : Int) ≤ i := by omega
          have hlz : (i : Int) < NF := by omega
          have hc1 : ((i : Int) - 1).toNat = i - 1 := by omega
          have eb := eqB; have gb := guardB
          by_cases h6 : k = 6
          · have BO := Lib.hid (buddy_err a k 3 wr hEr.c (by unfold upE; rw [if_pos al, if_pos h6]))
            clear p1 p2 p3 p4 hy hy' hmF hrg hblk al hI e' hEr h6
            go_wp2_with fail
            refine BO.out.mono ?_
            rintro e w5 ⟨rfl, hb5⟩
            have z5 := hb5.size
            go_wp2
            go_quiet (fail)
            go_wp2
            go_roundw
            case rel => exact ⟨i + 1, by omega, by omega, by go_num, (by repeat (first | exact Below.refl _ _ | refine Below.drew ?_ | refine below_drewN ?_ _ | refine Below.trans ?_ (Below.mono (by assumption) (by first | omega | (simp; omega) | (simp; done))) | refine Below.alloc ?_ (by first | omega | (simp; omega) | (simp; done)) _ | refine Below.setCell ?_ (by first | omega | (simp; omega) | (simp; done)) _))⟩
            case measure => simp [intOf]; omega
          · have BO := Lib.hid (buddy_ok a k wr hEr.c (upE_mk al h6))
            have hneq : (budA a k == a' && k == k') = false := by
              rw [Bool.and_eq_false_iff]
              by_cases e1 : budA a k = a'
              · right
                refine beq_eq_false_iff_ne.2 fun e2 => ?_
                refine hI.ap _ hmF (by show k < 6; omega) ?_
                rw [e1]
                rw [← e2] at hy'
                exact List.mem_of_getElem? hy'
              · left; exact beq_eq_false_iff_ne.2 e1
            clear p1 p2 p3 p4 hy hy' hmF hrg hblk al hI e' hEr
            go_wp2_with fail
            refine BO.out.mono ?_
            rintro e w5 ⟨rfl, hb5⟩
            have z5 := hb5.size
            have s3 := (hb5.cell (p := ⟨g, (i - 1) * 2, none⟩) gr).trans r3
            have s4 := (hb5.cell (p := ⟨g, (i - 1) * 2 + 1, none⟩) gr).trans r4
            have gr5 : g < w5.heap.size := by omega
            go_wp2
            go_quiet (fail)
            go_wp2
            go_roundw
            case rel => exact ⟨i + 1, by omega, by omega, by go_num, (by repeat (first | exact Below.refl _ _ | refine Below.drew ?_ | refine below_drewN ?_ _ | refine Below.trans ?_ (Below.mono (by assumption) (by first | omega | (simp; omega) | (simp; done))) | refine Below.alloc ?_ (by first | omega | (simp; omega) | (simp; done)) _ | refine Below.setCell ?_ (by first | omega | (simp; omega) | (simp; done)) _))⟩
            case measure => simp [intOf]; omega
        · obtain ⟨wp, rfl⟩ : ∃ wp : World, wp = wr := ⟨_, rfl⟩
          have K5 : Below w.heap.size w wp := K4.trans (hbel.mono (by omega))
          have RS5 := Lib.hid (RS4.out.below hbel)
          have BU5 := Lib.hid (BU4.out.below hbel)
          have hltz : ¬ (i : Int) < NF := by omega
          clear hlt RS4 BU4 hEr
          go_wp2
          go_loopw [16, 17] (fun gv iv wr => ∃ (i : Nat) (gr : Bool), i ≤ NF ∧ iv = .int .i64 i ∧ gv = .bool gr ∧ Hid (gr = greatL order (F.take i)) ∧ Below wp.heap.size wp wr) (fun _ iv _ => NF - (intOf iv).toNat)
          case atStart => exact ⟨0, false, by omega, by go_num, rfl, (show _ = _ by simp [greatL]), Below.refl _ _⟩
          case round =>
            clear hltz i1 i2
            obtain ⟨i, gr, i1, rfl, rfl, GR, hbel5⟩ := hrel
            have zr5 := hbel5.size
            by_cases hlt : i < NF
            · obtain ⟨y, hy⟩ : ∃ y, F[i]? = some y := ⟨F[i]'(by rw [← HNF.out]; exact hlt), List.getElem?_eq_getElem _⟩
              have hsn := greatL_snoc (k := order) hy
              rw [← GR.out] at hsn
              obtain ⟨a, k⟩ := y
              obtain ⟨g, rfl, _, hg, p1, p2⟩ := C2.out i a k hy
              have q1 := (hbel.cell (p := ⟨g, i * 2, none⟩) hg).trans p1
              have q2 := (hbel.cell (p := ⟨g, i * 2 + 1, none⟩) hg).trans p2
              have r1 := (hbel5.cell (p := ⟨g, i * 2, none⟩) (by show g < wp.heap.size; omega)).trans q1
              have r2 := (hbel5.cell (p := ⟨g, i * 2 + 1, none⟩) (by show g < wp.heap.size; omega)).trans q2
              have SN := Lib.hid hsn
              have gr' : g < wr.heap.size := by omega
              clear p1 p2 q1 q2 hy hsn
              by_cases hk : order ≤ k
              · go_wp2
                go_roundw
                case rel => exact ⟨i + 1, true, by omega, by go_num, rfl, (show _ = _ by rw [SN.out]; simp [hk]), hbel5⟩
                case measure => simp [intOf]; omega
              · have hk' : k < order := by omega
                go_wp2
                go_roundw
                case rel => exact ⟨i + 1, gr, by omega, by go_num, rfl, (show _ = _ by rw [SN.out]; simp [hk]), hbel5⟩
                case measure => simp [intOf]; omega
            · have ei : i = NF := by omega
              have hgr : gr = greatL order F := by have := GR.out; rwa [ei, HNF.out, List.take_length] at this
              have K6 : Below w.heap.size w wr := K5.trans (hbel5.mono (by omega))
              have hE6 : Errs B ev wr := hE.below (K6.mono hB)
              have BU6 := BU5.out.below hbel5
              have RS6 := RS5.out.below hbel5
              cases hb : bestL order F with
              | none =>
                have hg0 : gr = false := by rw [hgr, greatL_none hb]
                subst hg0
                have TF := Lib.hid (take_full pb n bf bt F T order wr hE6.d BU6 k0 k6 hb)
                have HB6 := Lib.hid BU6; have HR6 := Lib.hid RS6
                have eb := eqB; have gb := guardB
                clear hgr GR hb BU6 RS6 ei
                go_wp2_with fail
                refine TF.out.mono ?_
                rintro e w7 ⟨rfl, hb7⟩
                have z7 := hb7.size
                have K7 : Below w.heap.size w w7 := K6.trans (hb7.mono (by omega))
                have hE7 := hE6.below (hb7.mono (by omega))
                have BU7 := Lib.hid (HB6.out.below hb7)
                have RS7 := Lib.hid (HR6.out.below hb7)
                clear TF HB6 HR6
                go_wp2_with fail
                refine (coded_at 5 5 _ (hE7.below (by repeat (first | exact Below.refl _ _ | refine Below.drew ?_ | refine below_drewN ?_ _ | refine Below.trans ?_ (Below.mono (by assumption) (by first | omega | (simp; omega) | (simp; done))) | refine Below.alloc ?_ (by first | omega | (simp; omega) | (simp; done)) _ | refine Below.setCell ?_ (by first | omega | (simp; omega) | (simp; done)) _))) (by decide) rfl).mono ?_
                rintro e w8 ⟨rfl, hb8⟩
                have z8 := hb8.size
                simp at z8
                have b78 : Below w7.heap.size w7 w8 := (by repeat (first | exact Below.refl _ _ | refine Below.drew ?_ | refine below_drewN ?_ _ | refine Below.trans ?_ (Below.mono (by assumption) (by first | omega | (simp; omega) | (simp; done))) | refine Below.alloc ?_ (by first | omega | (simp; omega) | (simp; done)) _ | refine Below.setCell ?_ (by first | omega | (simp; omega) | (simp; done)) _))
                have X8 := (Loc2.new w7 0 0 23).below hb8 (by simp)
                have x0 := X8.c0; have x1 := X8.c1; have xl := X8.lt
                have BU8 := Lib.hid (BU7.out.below b78)
                have RS8 := Lib.hid (RS7.out.below b78)
                have K8 : Below w.heap.size w w8 := K7.trans (b78.mono (by omega))
                clear X8 BU7 RS7
                go_wp2_with fail
                refine (free_ok pb n bf bt F T _ BU8.out).mono ?_
                rintro e w9 ⟨v9, rfl, ho9⟩
                have z9 := ho9.2.size
                have R9 := ho9.rowS
                have RF9 := RS8.out.below ho9.2
                have K9 : Below w.heap.size w w9 := K8.trans (ho9.2.mono (by omega))
                have SY := Lib.hid (same_yes v9 _ F w9 (R9.rowB (by rw [← HNF.out]; unfold maxLen; omega)) (RF9.rowB (by rw [← HNF.out]; unfold maxLen; omega)))
                clear ho9 R9 RF9
                go_wp2_with fail
                refine SY.out.mono ?_
                rintro e w10 ⟨rfl, hb10⟩
                go_wp2
                go_ret
                exact ⟨rfl, K9.trans (hb10.mono (by omega))⟩
              | some x =>
                have hg0 : gr = true := by rw [hgr, greatL_some hb]
                subst hg0
                have TF := Lib.hid (take_ok pb n bf bt F T order x wr hE6.c (by omega) BU6 Ir.out k0 k6 hb)
                clear hgr GR hb BU6 RS6 ei
                go_wp2_with fail
                refine TF.out.mono ?_
                rintro e w7 ⟨rfl, _, hk7⟩
                have K7 : Below w.heap.size w w7 := hk7.after K6 (by omega) (by simp; omega)
                clear TF hk7
                go_wp2
                go_ret
                exact ⟨by simp, K7.alloc K7.size _⟩

theorem buddyLeft_walk {B : Nat} {ev : Nat → Addr} (n : Int) (v : Value) (xs : List Int) (order : Int) (w : World) (hE : Errs B ev w) (hv : RowI w v xs) :
    Calls Tryd.prog 9 #[.int .i64 n, v, .int .i64 order] w fun e w' => e = .returned (.bool true) ∧ Below w.heap.size w w' := by
  by_cases h : 60 < xs.length ∨ n < 1 ∨ 256 < n ∨ order < 0 ∨ 6 < order
  · exact buddyLeft_no n v xs order w hE hv h
  · exact buddyLeft_yes n v xs order w hE hv (by omega) (by omega) (by omega) (by omega) (by omega)
end Go.Proofs.YtcooflachcimbaaDoor
