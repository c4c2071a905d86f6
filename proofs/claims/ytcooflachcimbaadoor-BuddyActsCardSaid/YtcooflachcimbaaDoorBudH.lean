/- What the laws on buddies lean on: tiled, paired. -/
import Derived.Test.YtcooflachcimbaaDoorRowS
import Derived.Test.YtcooflachcimbaaDoorBudQ
import Derived.Test.YtcooflachcimbaaDoorBudE
import Derived.Test.YtcooflachcimbaaDoorPlain
import Derived.Test.YtcooflachcimbaaDoorFramesK
import Derived.Test.YtcooflachcimbaaDoorRow
namespace Go.Proofs.YtcooflachcimbaaDoor
open Go.RowKit Go.Maps
set_option linter.unusedSimpArgs false

theorem check_ok {B : Nat} {ev : Nat → Addr} (a k n : Int) (w : World) (hE : ErrC B ev w) (h : checkE a k n = 0) :
    Calls Tryd.prog 23 #[.agg #[.int .i64 a, .int .i64 k], .int .i64 n] w fun e w' => e = .returned .nilIface ∧ Below w.heap.size w w' :=
  (check_any a k n w hE).mono fun _ _ ⟨h1, h2⟩ => ⟨by rw [h1, h]; rfl, h2⟩

set_option maxHeartbeats 4000000 in
set_option maxRecDepth 100000 in
theorem tiled_ok {B : Nat} {ev : Nat → Addr} (pb : Nat) (n : Int) (bf bt : Nat) (F T : List (Int × Int)) (w : World) (hE : ErrC B ev w) (hb : Bud w pb n bf bt F T) (hI : Inv n F T) :
    Calls Tryd.prog 38 #[.pointer (some ⟨pb, 0, none⟩), .int .i64 n] w fun e w' => e = .returned (.bool true) ∧ Below w.heap.size w w' := by
  have hB := hE.size
  have HB := Lib.hid hb; have HI := Lib.hid hI
  have n1 := hI.n1; have n2 := hI.n2
  have lf := hI.lenF; have lt := hI.lenT
  have S0 := Lib.hid (TS.start hI)
  clear hb hI
  go_enter Tryd.func38, Tryd.ntmps38
  go_wp2_with fail
  refine (free_ok pb n bf bt F T w HB.out).mono ?_
  rintro e w1 ⟨v1, rfl, ho1⟩
  have hb1 := ho1.2
  have z1 := hb1.size
  have R1 := ho1.rowS
  clear ho1
  go_wp2_with fail
  refine (taken_ok pb n bf bt F T w1 (HB.out.below hb1)).mono ?_
  rintro e w2 ⟨v2, rfl, ho2⟩
  have hb2 := ho2.2
  have z2 := hb2.size
  have R2 := ho2.rowS
  have R1' := R1.below hb2
  obtain ⟨p, cap, rfl, _, hc1⟩ := R1'
  obtain ⟨q, cap', rfl, _, hc2⟩ := R2
  have C1 := Lib.hid hc1; have C2 := Lib.hid hc2
  have K2 : Below w.heap.size w w2 := hb1.trans (hb2.mono z1)
  clear hc1 hc2 R1 ho2
  obtain ⟨NF, hNF⟩ : ∃ m, m = F.length := ⟨_, rfl⟩
  obtain ⟨NT, hNT⟩ : ∃ m, m = T.length := ⟨_, rfl⟩
  rw [← hNF] at lf ⊢
  rw [← hNT] at lt ⊢
  have HNF := Lib.hid hNF; have HNT := Lib.hid hNT
  clear hNF hNT
  go_wp2_with fail
  go_loopw [7, 8, 9, 10, 11, 12] (fun av iv kv _ _ _ wr => ∃ (i k : Nat) (at' : Int), av = .int .i64 at' ∧ iv = .int .i64 i ∧ kv = .int .i64 k ∧ Hid (TS n F T i k at') ∧ Below w2.heap.size w2 wr) (fun av _ _ _ _ _ _ => (n - intOf av).toNat)
  case atStart => exact ⟨0, 0, 0, rfl, rfl, rfl, S0, Below.refl _ _⟩
  case round =>
    obtain ⟨i, k, at', rfl, rfl, rfl, TSr, hbel⟩ := hrel
    have ts := TSr.out
    have i1 := ts.i1; have k1 := ts.k1; have a0 := ts.a0; have a1 := ts.a1
    rw [← HNF.out] at i1
    rw [← HNT.out] at k1
    have zr := hbel.size
    have hEr : ErrC B ev wr := hE.below (K2.trans (hbel.mono (by omega)) |>.mono (by omega))
    by_cases hlt : i < NF ∨ k < NT
    · obtain ⟨b, hck, b0, b6, hcase⟩ := ts.step HI.out (by rw [← HNF.out, ← HNT.out]; exact hlt)
      obtain ⟨s1, s2⟩ := sz_bd b0 b6
      have HCK := Lib.hid hck
      clear hck ts
      rcases hcase with ⟨hF, hts⟩ | ⟨hnF, hT, hts⟩
      · have hiN : i < NF := by rw [HNF.out]; exact (List.getElem?_eq_some_iff.1 hF).1
        obtain ⟨g, rfl, hg1, hg2, p1, p2⟩ := C1.out i at' b hF
        have r1 := (hbel.cell (p := ⟨g, i * 2, none⟩) hg2).trans p1
        have r2 := (hbel.cell (p := ⟨g, i * 2 + 1, none⟩) hg2).trans p2
        have gr : g < wr.heap.size := by omega
        have HTS := Lib.hid hts
        have han : at' + sz b ≤ n := hts.a1
        clear hF hts p1 p2 hlt
        have HCO := Lib.hid (fun w1 hE1 => check_ok (B := B) (ev := ev) at' b n w1 hE1 HCK.out)
        go_wp2_with fail
        refine (HCO.out _ (hEr.below (by repeat (first | exact Below.refl _ _ | refine Below.drew ?_ | refine below_drewN ?_ _ | refine Below.trans ?_ (Below.mono (by assumption) (by first | omega | (simp; omega) | (simp; done))) | refine Below.alloc ?_ (by first | omega | (simp; omega) | (simp; done)) _ | refine Below.setCell ?_ (by first | omega | (simp; omega) | (simp; done)) _)))).mono ?_
        rintro e w5 ⟨rfl, hb5⟩
        have z5 := hb5.size
        simp at z5
        have X5 := ((Loc2.new wr at' b 23).below hb5 (by simp))
        have x0 := X5.c0; have x1 := X5.c1; have xl := X5.lt
        clear X5 HCO hEr
        go_wp2_with (go_at_call 19; refine (size_yes _ _ ⟨b0, b6⟩).mono ?_; rintro e w' ⟨rfl, rfl⟩)
        go_roundw
        case rel => exact ⟨i + 1, k, at' + sz b, by go_num, by go_num, by go_num, HTS, (by repeat (first | exact Below.refl _ _ | refine Below.drew ?_ | refine below_drewN ?_ _ | refine Below.trans ?_ (Below.mono (by assumption) (by first | omega | (simp; omega) | (simp; done))) | refine Below.alloc ?_ (by first | omega | (simp; omega) | (simp; done)) _ | refine Below.setCell ?_ (by first | omega | (simp; omega) | (simp; done)) _))⟩
        case measure => simp [intOf]; omega
      · have hkN : k < NT := by rw [HNT.out]; exact (List.getElem?_eq_some_iff.1 hT).1
        obtain ⟨g, rfl, hg1, hg2, p1, p2⟩ := C2.out k at' b hT
        have r1 := (hbel.cell (p := ⟨g, k * 2, none⟩) hg2).trans p1
        have r2 := (hbel.cell (p := ⟨g, k * 2 + 1, none⟩) hg2).trans p2
        have gr : g < wr.heap.size := by omega
        have HTS := Lib.hid hts
        have han : at' + sz b ≤ n := hts.a1
        by_cases hiN : i < NF
        · obtain ⟨y, hy⟩ : ∃ y, F[i]? = some y := ⟨F[i]'(by rw [← HNF.out]; exact hiN), List.getElem?_eq_getElem _⟩
          obtain ⟨y0, y1⟩ := y
          have hne := hnF _ hy
          simp only at hne
          have hnb : (y0 == at') = false := beq_eq_false_iff_ne.2 hne
          obtain ⟨g', rfl, hg1', hg2', p1', p2'⟩ := C1.out i y0 y1 hy
          have r3 := (hbel.cell (p := ⟨g', i * 2, none⟩) hg2').trans p1'
          have r4 := (hbel.cell (p := ⟨g', i * 2 + 1, none⟩) hg2').trans p2'
          have gr' : g' < wr.heap.size := by omega
          clear hT hts p1 p2 hlt hy hne hnF p1' p2'
          have HCO := Lib.hid (fun w1 hE1 => check_ok (B := B) (ev := ev) at' b n w1 hE1 HCK.out)
          go_wp2_with fail
          refine (HCO.out _ (hEr.below (by repeat (first | exact Below.refl _ _ | refine Below.drew ?_ | refine below_drewN ?_ _ | refine Below.trans ?_ (Below.mono (by assumption) (by first | omega | (simp; omega) | (simp; done))) | refine Below.alloc ?_ (by first | omega | (simp; omega) | (simp; done)) _ | refine Below.setCell ?_ (by first | omega | (simp; omega) | (simp; done)) _)))).mono ?_
          rintro e w5 ⟨rfl, hb5⟩
          have z5 := hb5.size
          simp at z5
          have X5 := ((Loc2.new wr at' b 23).below hb5 (by simp))
          have x0 := X5.c0; have x1 := X5.c1; have xl := X5.lt
          clear X5 HCO hEr
          go_wp2_with (go_at_call 19; refine (size_yes _ _ ⟨b0, b6⟩).mono ?_; rintro e w' ⟨rfl, rfl⟩)
          go_roundw
          case rel => exact ⟨i, k + 1, at' + sz b, by go_num, by go_num, by go_num, HTS, (by repeat (first | exact Below.refl _ _ | refine Below.drew ?_ | refine below_drewN ?_ _ | refine Below.trans ?_ (Below.mono (by assumption) (by first | omega | (simp; omega) | (simp; done))) | refine Below.alloc ?_ (by first | omega | (simp; omega) | (simp; done)) _ | refine Below.setCell ?_ (by first | omega | (simp; omega) | (simp; done)) _))⟩
          case measure => simp [intOf]; omega
        · clear hT hts p1 p2 hlt hnF
          have HCO := Lib.hid (fun w1 hE1 => check_ok (B := B) (ev := ev) at' b n w1 hE1 HCK.out)
          go_wp2_with fail
          refine (HCO.out _ (hEr.below (by repeat (first | exact Below.refl _ _ | refine Below.drew ?_ | refine below_drewN ?_ _ | refine Below.trans ?_ (Below.mono (by assumption) (by first | omega | (simp; omega) | (simp; done))) | refine Below.alloc ?_ (by first | omega | (simp; omega) | (simp; done)) _ | refine Below.setCell ?_ (by first | omega | (simp; omega) | (simp; done)) _)))).mono ?_
          rintro e w5 ⟨rfl, hb5⟩
          have z5 := hb5.size
          simp at z5
          have X5 := ((Loc2.new wr at' b 23).below hb5 (by simp))
          have x0 := X5.c0; have x1 := X5.c1; have xl := X5.lt
          clear X5 HCO hEr
          go_wp2_with (go_at_call 19; refine (size_yes _ _ ⟨b0, b6⟩).mono ?_; rintro e w' ⟨rfl, rfl⟩)
          go_roundw
          case rel => exact ⟨i, k + 1, at' + sz b, by go_num, by go_num, by go_num, HTS, (by repeat (first | exact Below.refl _ _ | refine Below.drew ?_ | refine below_drewN ?_ _ | refine Below.trans ?_ (Below.mono (by assumption) (by first | omega | (simp; omega) | (simp; done))) | refine Below.alloc ?_ (by first | omega | (simp; omega) | (simp; done)) _ | refine Below.setCell ?_ (by first | omega | (simp; omega) | (simp; done)) _))⟩
          case measure => simp [intOf]; omega
    · have ei : i = NF := by omega
      have ek : k = NT := by omega
      have ea : at' = n := by
        rw [ei, ek, HNF.out, HNT.out] at ts
        exact ts.fin HI.out
      subst ea
      have hne1 : ¬ i < NF := by omega
      have hne2 : ¬ k < NT := by omega
      clear ts ei ek hlt hEr
      go_wp2
      go_ret
      exact ⟨by simp, K2.trans (hbel.mono (by omega))⟩

set_option maxHeartbeats 2000000 in
theorem paired_yes {B : Nat} {ev : Nat → Addr} (w : World) (hE : ErrC B ev w) :
    Calls Tryd.prog 31 #[] w fun e w' => e = .returned (.bool true) ∧ Below w.heap.size w w' := by
  have hB := hE.size
  have eb := eqB; have nb := neqB; have gb := guardB
  have e0 : covL 0 2 = [(0, 1)] := by decide +kernel
  have hI0 := Inv.start (n := 2) (by omega) (by omega)
  rw [e0] at hI0
  have hbest : bestL 0 [((0 : Int), (1 : Int))] = some (0, 1) := by decide +kernel
  have hI1 := hI0.take (k := 0) (by omega) hbest
  have e1 : takeF 0 (0, 1) [((0 : Int), (1 : Int))] = [(1, 0)] := by decide +kernel
  have e2 : putL (0 : Int) 0 [] = [(0, 0)] := rfl
  simp only [e1, e2] at hI1
  have e3 : giveF 0 0 [((1 : Int), (0 : Int))] = [(0, 1)] := by decide +kernel
  have e4 : delL 0 [((0 : Int), (0 : Int))] = [] := rfl
  have hsum : sumL [((0 : Int), (1 : Int))] = 2 := rfl
  have I0 := Lib.hid hI0; have I1 := Lib.hid hI1; have BE := Lib.hid hbest; have E0 := Lib.hid e0; have E1 := Lib.hid e1; have E3 := Lib.hid e3; have SU := Lib.hid hsum
  clear hI0 hI1 hbest e0 e1 e2 e3 e4 hsum
  have NEW := Lib.hid (new_ok 2 w (by omega) (by omega))
  go_enter Tryd.func31, Tryd.ntmps31
  go_wp2_with fail
  refine NEW.out.mono ?_
  rintro e w1 ⟨pb, bf, bt, rfl, hbud, ⟨g1, g2, g3⟩, hb1⟩
  clear NEW
  rw [E0.out] at hbud
  have BU := Lib.hid hbud
  have z1 := hb1.size
  have hE1 := hE.below (hb1.mono hB)
  clear hbud
  go_wp2_with fail
  refine (take_ok pb 2 bf bt _ _ 0 (0, 1) w1 hE1 (by omega) BU.out I0.out (by omega) (by omega) BE.out).mono ?_
  rintro e w2 ⟨rfl, hbud, hk2⟩
  rw [E1.out] at hbud
  have BU2 := Lib.hid (show Bud w2 pb 2 bf bt [(1, 0)] [(0, 0)] from hbud)
  have z2 := hk2.size
  have hb2 : Below w.heap.size w w2 := hk2.after hb1 (by omega) (by simp; omega)
  have hE2 := hE.below (hb2.mono hB)
  have bud2 : Bud (w2.alloc (.cells #[.int .i64 0, .int .i64 0] 23)) pb 2 bf bt [(1, 0)] [(0, 0)] := hbud.below (by repeat (first | exact Below.refl _ _ | refine Below.drew ?_ | refine below_drewN ?_ _ | refine Below.trans ?_ (Below.mono (by assumption) (by first | omega | (simp; omega) | (simp; done))) | refine Below.alloc ?_ (by first | omega | (simp; omega) | (simp; done)) _ | refine Below.setCell ?_ (by first | omega | (simp; omega) | (simp; done)) _))
  have GI := Lib.hid (give_ok pb 2 bf bt _ _ 0 0 _ (hE2.below (by repeat (first | exact Below.refl _ _ | refine Below.drew ?_ | refine below_drewN ?_ _ | refine Below.trans ?_ (Below.mono (by assumption) (by first | omega | (simp; omega) | (simp; done))) | refine Below.alloc ?_ (by first | omega | (simp; omega) | (simp; done)) _ | refine Below.setCell ?_ (by first | omega | (simp; omega) | (simp; done)) _))) (by omega) (by omega) bud2 I1.out (by simp))
  clear hbud BU hk2 bud2 hE1
  go_wp2_with fail
  refine GI.out.mono ?_
  rintro e w3 ⟨rfl, hbud, hk3⟩
  rw [E3.out] at hbud
  have BU3 := Lib.hid (show Bud w3 pb 2 bf bt [(0, 1)] [] from hbud)
  have z3 := hk3.size
  simp at z3
  have hb3 : Below w.heap.size w w3 := hk3.after (w0 := w) (by repeat (first | exact Below.refl _ _ | refine Below.drew ?_ | refine below_drewN ?_ _ | refine Below.trans ?_ (Below.mono (by assumption) (by first | omega | (simp; omega) | (simp; done))) | refine Below.alloc ?_ (by first | omega | (simp; omega) | (simp; done)) _ | refine Below.setCell ?_ (by first | omega | (simp; omega) | (simp; done)) _)) (by first | omega | (simp; omega) | (simp; done)) (by simp; omega)
  clear hbud hk3 GI BU2
  go_wp2_with fail
  refine (free_ok pb 2 bf bt _ _ w3 BU3.out).mono ?_
  rintro e w4 ⟨v, rfl, hv⟩
  have hb4 := hv.2
  have z4 := hb4.size
  rcases hv.rowS with ⟨p, cap, rfl, _, hc⟩
  obtain ⟨g, rfl, _, hg, p1, p2⟩ := hc 0 0 1 rfl
  have BU4 := BU3.out.below hb4
  have PG := Lib.hid (pages_ok pb 2 bf bt _ _ w4 BU4)
  rw [SU.out] at PG
  clear hc hv BU4
  go_wp2_with fail
  refine PG.out.mono ?_
  rintro e w5 ⟨rfl, hb5⟩
  have z5 := hb5.size
  have r1 := (hb5.cell (p := ⟨g, 0, none⟩) hg).trans p1
  have r2 := (hb5.cell (p := ⟨g, 1, none⟩) hg).trans p2
  clear p1 p2
  go_wp2
  go_ret
  exact ⟨rfl, (by repeat (first | exact Below.refl _ _ | refine Below.drew ?_ | refine below_drewN ?_ _ | refine Below.trans ?_ (Below.mono (by assumption) (by first | omega | (simp; omega) | (simp; done))) | refine Below.alloc ?_ (by first | omega | (simp; omega) | (simp; done)) _ | refine Below.setCell ?_ (by first | omega | (simp; omega) | (simp; done)) _))⟩
end Go.Proofs.YtcooflachcimbaaDoor
