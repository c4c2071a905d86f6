/- The statement SlabApart: its walk. -/
import Derived.Test.YtcokmiidgdmdlaaGreatDoorSAp
import Derived.Test.YtcokmiidgdmdlaaGreatDoorZMin
import Derived.Test.YtcokmiidgdmdlaaGreatDoorRowASl
namespace Go.Proofs.YtcokmiidgdmdlaaGreatDoor
open Go.RowKit Go.Maps
set_option linter.unusedSimpArgs false
set_option linter.unusedVariables false

set_option maxHeartbeats 16000000 in
set_option maxRecDepth 200000 in
theorem slabApart_walk {B : Nat} {ev : Nat → Addr} (vP vN vl : Value) (P : List Int) (N : List (List Int)) (mn lw hi : Int) (size : Int) (xs : List SActD) (w : World) (hE : Errs B ev w) (hC : Cfg [] w vP vN P N) (hfit : hi ≤ 9223372036854775807) (hx : RowSAct w vl xs) :
    Calls Tryz.prog 8 #[.agg #[vP, vN, .int .i64 mn, .int .i64 lw, .int .i64 hi], .int .i64 size, vl] w fun e w' => e = .returned (.bool true) ∧ Below w.heap.size w w' := by
  have hB := hE.size
  obtain ⟨p, cap, rfl, hcp, hmx, hcl⟩ := hC.p.int
  obtain ⟨q, k, rfl, hck, hkm, _⟩ := hC.n.form
  obtain ⟨pl, kl, rfl, ⟨hkl, hml⟩, hxx⟩ := id hx
  have L0 := Lib.hid (LocN.mk_ w [.slice p P.length cap, .slice q N.length k, .int .i64 mn, .int .i64 lw, .int .i64 hi] 27 rfl)
  have hb0 : Below w.heap.size w (w.alloc (.cells [.slice p P.length cap, .slice q N.length k, .int .i64 mn, .int .i64 lw, .int .i64 hi].toArray 27)) := (by repeat (first | exact Below.refl _ _ | refine Below.drew ?_ | refine below_drewN ?_ _ | refine Below.trans ?_ (Below.mono (by assumption) (by first | omega | (simp; omega) | (simp; done))) | refine Below.alloc ?_ (by first | omega | (simp; omega) | (simp; done)) _ | refine Below.setCell ?_ (by first | omega | (simp; omega) | (simp; done)) _))
  have HE := Lib.hid hE; have HC := Lib.hid hC; have HB0 := Lib.hid hb0; have HX := Lib.hid hx; have HCL := Lib.hid hcl
  have CA := Lib.hid (cached_yes _ (hE.go hb0))
  obtain ⟨n, hn⟩ : ∃ n, n = xs.length := ⟨_, rfl⟩
  have HN := Lib.hid hn
  rw [← hn] at hkl HX ⊢
  unfold maxLen at hmx hkm hml
  clear hE hC hx hb0 hn hxx hcl
  go_enter Tryz.func8, Tryz.ntmps8
  go_wp2_with fail
  refine CA.out.mono ?_
  rintro e w1 ⟨rfl, hb1⟩
  have K1 : Below w.heap.size w w1 := HB0.out.trans (hb1.mono (by simp))
  have M1 := L0.out.go hb1
  have m0 := M1.c 0 _ rfl; have m1 := M1.c 1 _ rfl; have m2 := M1.c 2 _ rfl; have m3 := M1.c 3 _ rfl; have m4 := M1.c 4 _ rfl; have ml := M1.lt
  have HM1 := Lib.hid M1
  have WI := Lib.hid (wide_any (.slice p P.length cap) (.slice q N.length k) P N mn lw hi w1 (HC.out.below K1))
  clear M1 CA
  go_wp2_with fail
  refine WI.out.mono ?_
  rintro e w2 ⟨rfl, hb2⟩
  have K2 : Below w.heap.size w w2 := K1.trans (hb2.mono K1.size)
  have z2 := K2.size
  cases hw : wideC P N with
  | true =>
    have ew : wideN P N = 1 := by unfold wideN; rw [if_pos hw]
    rw [ew]
    clear hw ew
    go_wp2
    go_ret
    exact ⟨rfl, K2⟩
  | false =>
  have ew : wideN P N = 0 := by unfold wideN; rw [hw]; rfl
  rw [ew]
  have HW := Lib.hid (wideC_no hw)
  clear hw ew WI
  by_cases h80 : 80 < n
  · go_wp2
    go_ret
    exact ⟨rfl, K2⟩
  have M2 := HM1.out.go hb2
  have a0 := M2.c 0 _ rfl; have a1 := M2.c 1 _ rfl; have a2 := M2.c 2 _ rfl; have a3 := M2.c 3 _ rfl; have a4 := M2.c 4 _ rfl; have al := M2.lt
  have HM2 := Lib.hid M2
  have CO := Lib.hid (configOf_ok (X := []) (.slice p P.length cap) (.slice q N.length k) P N mn lw hi w2 (HC.out.below K2) (fun x hx => by cases hx) HW.out.1 HW.out.2.1 HW.out.2.2)
  clear M2 m0 m1 m2 m3 m4
  go_wp2_with fail
  refine CO.out.mono ?_
  rintro e w3 ⟨vP', vN', rfl, hcfg, hb3⟩
  have z3 := hb3.size
  have K3 : Below w.heap.size w w3 := K2.trans (hb3.mono z2)
  have HCF := Lib.hid hcfg
  have E3 := HE.out.go K3
  have HE3 := Lib.hid E3
  clear CO
  by_cases hcE : cfgE P N mn lw hi = 0
  case neg =>
    obtain ⟨c, c1, c3, hcc, NE⟩ := newZone_errs [] vP' vN' P N mn lw hi w3 E3.c hcfg hcE
    have NW := Lib.hid NE
    clear hcE hcfg E3 NE hcc
    go_wp2_with fail
    refine NW.out.mono ?_
    rintro e w4 ⟨rfl, hb4⟩
    go_wp2
    go_ret
    exact ⟨rfl, K3.trans (hb4.mono K3.size)⟩
  have NW := Lib.hid (newZone_ok [] vP' vN' P N mn lw hi w3 E3.c hcfg hcE hfit)
  have HCE := Lib.hid hcE
  clear hcE hcfg E3 a0 a1 a2 a3 a4
  go_wp2_with fail
  refine NW.out.mono ?_
  rintro e w4 ⟨pz, O, L, rfl, hz, hpz, hLn, hLF, hO, hb4⟩
  have z4 := hb4.size
  have HZ := Lib.hid hz
  have HLN := Lib.hid hLn; have HLF := Lib.hid hLF
  have hLP : L.length = P.length := by rw [← hLn, List.length_map]
  have hP4 : 1 ≤ P.length ∧ P.length ≤ 4 := ⟨(cfg_ok HCE.out).1, (cfg_ok HCE.out).2.1⟩
  have E4 := Lib.hid ((HE3.out.go hb4).up (B' := w3.heap.size) (by have := HE3.out.size; omega) z4)
  have M4 := Lib.hid ((HM2.out.go hb3).go hb4)
  have K4 : Below w.heap.size w w4 := K3.trans (hb4.mono K3.size)
  have hwl : w.heap.size < w3.heap.size := by omega
  clear hz hLn hLF hO NW
  by_cases hs : size < 1 ∨ 64 < size
  · have SN := snew_err (B := w3.heap.size) (ev := ev) pz size w4 E4.out.c hs
    have e1 : errV ev 2 = .iface 291 (.pointer (some (ev 2))) := rfl
    rw [e1] at SN
    have HSN := Lib.hid SN
    clear SN e1
    go_wp2_with fail
    refine HSN.out.mono ?_
    rintro r w5 ⟨rfl, hb5⟩
    go_wp2
    go_ret
    exact ⟨rfl, K4.trans (hb5.mono K4.size)⟩
  obtain ⟨e, rfl⟩ : ∃ e : Nat, size = e := ⟨size.toNat, by omega⟩
  have q1 : 1 ≤ e := by omega
  have q2 : e ≤ 64 := by omega
  go_wp2_with fail
  refine (snew_ok pz e w4 q1 q2).mono ?_
  rintro r w5 ⟨rfl, hw5⟩
  have b5 : Below w4.heap.size w4 w5 := by rw [hw5]; exact (by repeat (first | exact Below.refl _ _ | refine Below.drew ?_ | refine below_drewN ?_ _ | refine Below.trans ?_ (Below.mono (by assumption) (by first | omega | (simp; omega) | (simp; done))) | refine Below.alloc ?_ (by first | omega | (simp; omega) | (simp; done)) _ | refine Below.setCell ?_ (by first | omega | (simp; omega) | (simp; done)) _))
  have z5 := b5.size
  have ap0 : ApS w3.heap.size w5 w4.heap.size pz mn lw hi O e L (w4.heap.size :: ys L) (.slice none 0 0) [] ⟨L, []⟩ w5 := by
    have C0 := CS.new HZ.out (by omega) z4 e
    rw [← hw5] at C0
    refine ⟨C0, ⟨q1, q2, fun x hx => (HZ.out.b.bud x hx).2, by show L.length ≤ 4; omega, List.Pairwise.nil, fun s hs => (by cases hs), fun s hs => (by cases hs)⟩, fun i x hx p hp => ?_, SameZ.refl _, Below.refl _ _⟩
    have := (HLF.out x (List.mem_of_getElem? hx)).2
    rw [this] at hp; cases hp
  have AP0 := Lib.hid ap0
  have E5 := Lib.hid (show ErrZ w3.heap.size ev w5 from (E4.out.go b5).z)
  have M5 := Lib.hid (M4.out.go b5)
  have K5 : Below w.heap.size w w5 := K4.trans (b5.mono K4.size)
  clear ap0 hw5 b5
  go_wp2_with fail
  go_loopw [11] (fun iv wr => ∃ (i : Nat) (X : List Nat) (v : Value) (A : SA) (c : Ca), i ≤ n ∧ iv = .int .i64 i ∧ Hid (ApS w3.heap.size w5 w4.heap.size pz mn lw hi O e L X v A c wr)) (fun iv _ => n - (intOf iv).toNat)
  case atStart => exact ⟨0, _, _, _, _, Nat.zero_le _, by go_num, AP0⟩
  case round =>
    obtain ⟨i, X, v, A, c, hin, rfl, HAP⟩ := hrel
    clear AP0
    have hbel := HAP.out.bel
    have zr := hbel.size
    have KR : Below w.heap.size w wr := K5.trans (hbel.mono (by omega))
    by_cases hlt : i < n
    · obtain ⟨x, hx⟩ : ∃ x, xs[i]? = some x := ⟨xs[i]'(by rw [← HN.out]; exact hlt), List.getElem?_eq_getElem _⟩
      obtain ⟨g, off, cap', e', _, hg, hrow⟩ := (show RowSAct w (.slice pl n kl) xs from HX.out).form (by rw [← HN.out]; omega)
      rw [← HN.out] at e'
      injection e' with e1 e2 e3
      subst e1 e3
      obtain ⟨hfx, hcell⟩ := hrow i x hx
      have hgr : g < wr.heap.size := by omega
      have r0 := (KR.cell (p := ⟨g, off + i * 6 + 0, none⟩) hg).trans (hcell 0 _ rfl)
      have r1 := (KR.cell (p := ⟨g, off + i * 6 + 1, none⟩) hg).trans (hcell 1 _ rfl)
      have r2 := (KR.cell (p := ⟨g, off + i * 6 + 2, none⟩) hg).trans (hcell 2 _ rfl)
      have r3 := (KR.cell (p := ⟨g, off + i * 6 + 3, none⟩) hg).trans (hcell 3 _ rfl)
      have r4 := (KR.cell (p := ⟨g, off + i * 6 + 4, none⟩) hg).trans (hcell 4 _ rfl)
      have r5 := (KR.cell (p := ⟨g, off + i * 6 + 5, none⟩) hg).trans (hcell 5 _ rfl)
      simp only [Nat.add_zero] at r0
      clear hx hrow hcell
      obtain ⟨kd, nd, num, ud, on, oa⟩ := x
      simp only at r0 r1 r2 r3 r4 r5
      obtain ⟨_, _, hnum, _, _⟩ := hfx
      have bA : Below wr.heap.size wr (wr.alloc (.cells [.string kd, .int .i64 nd, .int .i64 num, .bool ud, .int .i64 on, .int .i64 oa].toArray 82)) := (by repeat (first | exact Below.refl _ _ | refine Below.drew ?_ | refine below_drewN ?_ _ | refine Below.trans ?_ (Below.mono (by assumption) (by first | omega | (simp; omega) | (simp; done))) | refine Below.alloc ?_ (by first | omega | (simp; omega) | (simp; done)) _ | refine Below.setCell ?_ (by first | omega | (simp; omega) | (simp; done)) _))
      have LA := Lib.hid (LocN.mk_ wr [.string kd, .int .i64 nd, .int .i64 num, .bool ud, .int .i64 on, .int .i64 oa] 82 rfl)
      have HA := Lib.hid (HAP.out.go (by omega) bA)
      have TT := Lib.hid (ap_taken E5.out HA.out)
      go_wp2_with fail
      refine TT.out.mono ?_
      rintro r w6 ⟨tq, tk, rfl, hrow6, hb6⟩
      have A6 := LA.out.go hb6
      have y0 := A6.c 0 _ rfl; have y1 := A6.c 1 _ rfl; have y2 := A6.c 2 _ rfl; have y3 := A6.c 3 _ rfl; have yl := A6.lt
      have HA6 := Lib.hid (HA.out.go (by simp; omega) hb6)
      have HR6 := Lib.hid hrow6
      have TK := Lib.hid (ap_take nd ud E5.out HA6.out)
      obtain ⟨l, hl⟩ : ∃ l, l = obsC e c.C := ⟨_, rfl⟩
      have HL := Lib.hid hl
      have few := obs_few HA6.out.inv
      rw [← hl] at HR6 few ⊢
      clear TT hrow6 A6 bA hl r0 r1 r2 r3 r4 r5
      obtain ⟨u1, u2⟩ := hnum
      by_cases hg1 : 0 < l.length ∧ 0 ≤ num
      · obtain ⟨g1, g2⟩ := hg1
        have d1 : decide (0 < l.length) = true := decide_eq_true g1
        have d1' : decide ((0 : Int) < (l.length : Int)) = true := decide_eq_true (by omega)
        have d2 : decide (0 ≤ num) = true := decide_eq_true g2
        obtain ⟨m, hm⟩ : ∃ m : Nat, (m : Int) = num % (l.length : Int) := ⟨(num % (l.length : Int)).toNat, by have := Int.emod_nonneg num (b := (l.length : Int)) (by omega); omega⟩
        have hml : m < l.length := by have := Int.emod_lt_of_pos num (b := (l.length : Int)) (by omega); omega
        have hq : num.tmod (l.length : Int) = (m : Int) := by rw [Int.tmod_eq_emod_of_nonneg g2, hm]
        have hn0 : ¬ ((l.length : Int) = 0) := by omega
        have hn1 : ¬ (l.length = 0) := by omega
        obtain ⟨o, ho⟩ : ∃ o, l[m]? = some o := ⟨l[m], List.getElem?_eq_getElem hml⟩
        obtain ⟨tp, tcap, t1, _, t2⟩ := HR6.out
        injection t1 with t3 t4 t5
        obtain ⟨tg, rfl, t6, t7, t8, t9⟩ := t2 m o.1 o.2 ho
        subst t3
        have GV := Lib.hid (ap_give o.1 o.2 E5.out HA6.out (by rw [← HL.out]; exact List.mem_of_getElem? ho))
        have hmi : (m : Int) < (l.length : Int) := by omega
        have hm0 : (0 : Int) ≤ (m : Int) := by omega
        clear t2 t4 t5 hm ho
        go_wp2_with fail
        · refine GV.out.mono ?_
          rintro r w7 ⟨rfl, _, hap7⟩
          have HA7 := Lib.hid hap7
          clear hap7 GV TK
          go_wp2
          go_roundw
          case rel => exact ⟨i + 1, X, v, A, _, by omega, by go_num, HA7⟩
          case measure => simp [intOf]; omega
        · refine TK.out.mono ?_
          rintro r w7 ⟨rfl, _, X', v', A', _, _, hap7⟩
          have HA7 := Lib.hid hap7
          clear hap7 GV TK
          go_wp2
          go_roundw
          case rel => exact ⟨i + 1, X', v', A', _, by omega, by go_num, HA7⟩
          case measure => simp [intOf]; omega
      · by_cases g1 : 0 < l.length
        · have d1 : decide (0 < l.length) = true := decide_eq_true g1
          have d1' : decide ((0 : Int) < (l.length : Int)) = true := decide_eq_true (by omega)
          have d2 : decide (0 ≤ num) = false := decide_eq_false (by omega)
          go_wp2_with fail
          all_goals
            refine TK.out.mono ?_
            rintro r w7 ⟨rfl, _, X', v', A', _, _, hap7⟩
            have HA7 := Lib.hid hap7
            clear hap7 TK
            go_wp2
            go_roundw
            case rel => exact ⟨i + 1, X', v', A', _, by omega, by go_num, HA7⟩
            case measure => simp [intOf]; omega
        · have d1 : decide (0 < l.length) = false := decide_eq_false g1
          have d1' : decide ((0 : Int) < (l.length : Int)) = false := decide_eq_false (by omega)
          go_wp2_with fail
          all_goals
            refine TK.out.mono ?_
            rintro r w7 ⟨rfl, _, X', v', A', _, _, hap7⟩
            have HA7 := Lib.hid hap7
            clear hap7 TK
            go_wp2
            go_roundw
            case rel => exact ⟨i + 1, X', v', A', _, by omega, by go_num, HA7⟩
            case measure => simp [intOf]; omega
    · clear hin
      have TT := Lib.hid (ap_taken E5.out HAP.out)
      go_wp2_with fail
      refine TT.out.mono ?_
      rintro r w6 ⟨tq, tk, rfl, hrow6, hb6⟩
      have z6 := hb6.size
      have HA6 := Lib.hid (HAP.out.go (by omega) hb6)
      have hbase : ∀ s ∈ cay w4.heap.size v A, s < wr.heap.size := fun s hs => (HAP.out.cs.ch.lim s hs).2
      obtain ⟨base, hba⟩ : ∃ base, base = wr.heap.size := ⟨_, rfl⟩
      rw [← hba] at hrow6 hbase z6
      obtain ⟨l, hl⟩ : ∃ l, l = obsC e c.C := ⟨_, rfl⟩
      have HL := Lib.hid hl
      have few := obs_few HA6.out.inv
      have HOB : Hid (∀ o ∈ l, 0 ≤ o.2 ∧ o.2 < 16384 ∧ o.2 / 64 = (o.2 + e - 1) / 64) := fun o ho => ob_one HAP.out.inv (by rw [← hl]; exact ho)
      have HSO : Hid (l.Pairwise (behindO e)) := by show l.Pairwise _; rw [hl]; exact obsC_sorted HAP.out.inv
      rw [← hl] at few hrow6 ⊢
      have HR6 := Lib.hid hrow6; have HBA := Lib.hid hbase
      have K6 : Below w.heap.size w w6 := KR.trans (hb6.mono KR.size)
      have zz6 : w3.heap.size ≤ w6.heap.size := by have := HA6.out.bel.size; omega
      clear TT hrow6 hl hbase hba HAP hbel zr
      go_wp2_with fail
      go_loopw [15] (fun iv wr => ∃ (i : Nat), i ≤ l.length ∧ iv = .int .i64 i ∧ Below w6.heap.size w6 wr) (fun iv _ => l.length - (intOf iv).toNat)
      case atStart => exact ⟨0, Nat.zero_le _, by go_num, Below.refl _ _⟩
      case round =>
        obtain ⟨i, hin, rfl, hb⟩ := hrel
        have hR := HR6.out.below hb
        by_cases hlt : i < l.length
        · obtain ⟨o, ho⟩ : ∃ o, l[i]? = some o := ⟨l[i], List.getElem?_eq_getElem hlt⟩
          obtain ⟨tp, tcap, t1, _, t2⟩ := hR
          injection t1 with t3 t4 t5
          obtain ⟨tg, rfl, t6, t7, t8, t9⟩ := t2 i o.1 o.2 ho
          subst t3
          obtain ⟨o1, o2, o3⟩ := HOB.out o (List.mem_of_getElem? ho)
          have hli : (i : Int) < (l.length : Int) := by omega
          obtain ⟨oq, hoq⟩ : ∃ oq, oq = o.2 / 64 := ⟨_, rfl⟩
          have hq1 : o.2.tdiv 64 = oq := by rw [Int.tdiv_eq_ediv_of_nonneg o1, hoq]
          have hq2 : (o.2 + (e : Int) - 1).tdiv 64 = oq := by rw [Int.tdiv_eq_ediv_of_nonneg (by omega), hoq, o3]
          have hq3 : o.2 / 64 = oq := hoq.symm
          have hq4 : (o.2 + (e : Int) - 1) / 64 = oq := by rw [← o3, hoq]
          have oq0 : 0 ≤ oq := by omega
          have oq1 : oq < 256 := by omega
          have hw1 : IntKind.i64.wrap (o.2 + (e : Int)) = o.2 + (e : Int) := IntWalk.i64_in _ (by omega)
          have hw2 : IntKind.i64.wrap (o.2 + (e : Int) - 1) = o.2 + (e : Int) - 1 := IntWalk.i64_in _ (by omega)
          have hw3 : IntKind.i64.wrap oq = oq := IntWalk.i64_in _ (by omega)
          clear o3 hoq
          by_cases hi0 : i = 0
          · subst hi0
            have d1 : decide ((0 : Int) < ((0 : Nat) : Int)) = false := by decide
            clear t2 t4 t5 ho
            go_wp2_with fail
            go_quiet (fail)
            go_wp2_with fail
            go_quiet (fail)
            go_wp2
            go_round
            case rel => exact ⟨1, by omega, by go_num, hb.trans (by repeat (first | exact Below.refl _ _ | refine Below.drew ?_ | refine below_drewN ?_ _ | refine Below.trans ?_ (Below.mono (by assumption) (by first | omega | (simp; omega) | (simp; done))) | refine Below.alloc ?_ (by first | omega | (simp; omega) | (simp; done)) _ | refine Below.setCell ?_ (by first | omega | (simp; omega) | (simp; done)) _))⟩
            case measure => simp [intOf]; omega
          · have d1 : decide ((0 : Int) < (i : Int)) = true := decide_eq_true (by omega)
            have d1' : decide (0 < i) = true := decide_eq_true (by omega)
            obtain ⟨y, hy⟩ : ∃ y, l[i - 1]? = some y := ⟨l[i - 1], List.getElem?_eq_getElem (by omega)⟩
            obtain ⟨tg', te, _, _, s8, s9⟩ := t2 (i - 1) y.1 y.2 hy
            cases te
            have hbo : behindO e y o := List.pairwise_iff_getElem.1 HSO.out (i - 1) i (by omega) hlt (by omega) |> fun h => by
              have e1 : l[i - 1] = y := by
                have := List.getElem?_eq_getElem (l := l) (i := i - 1) (by omega)
                rw [hy] at this; exact (Option.some.inj this).symm
              have e2 : l[i] = o := by
                have := List.getElem?_eq_getElem hlt
                rw [ho] at this; exact (Option.some.inj this).symm
              rw [e1, e2] at h; exact h
            obtain ⟨y1, y2, _⟩ := HOB.out y (List.mem_of_getElem? hy)
            have hwi : IntKind.i64.wrap ((i : Int) - 1) = ((i - 1 : Nat) : Int) := by rw [IntWalk.i64_in _ (by omega)]; omega
            have hw4 : IntKind.i64.wrap (y.2 + (e : Int)) = y.2 + (e : Int) := IntWalk.i64_in _ (by omega)
            have hi1 : (i : Int) - 1 = ((i - 1 : Nat) : Int) := by omega
            have hli1 : ((i - 1 : Nat) : Int) < (l.length : Int) := by omega
            have h0i1 : (0 : Int) ≤ ((i - 1 : Nat) : Int) := by omega
            clear t2 t4 t5 ho hy
            unfold behindO at hbo
            by_cases hn : o.1 = y.1
            · have d2 : decide (o.1 = y.1) = true := decide_eq_true hn
              have d3 : decide (o.2 < y.2 + (e : Int)) = false := decide_eq_false (by omega)
              clear hbo
              go_wp2_with fail
              go_quiet (fail)
              go_wp2_with fail
              go_quiet (fail)
              go_wp2
              go_round
              case rel => exact ⟨i + 1, by omega, by go_num, hb.trans (by repeat (first | exact Below.refl _ _ | refine Below.drew ?_ | refine below_drewN ?_ _ | refine Below.trans ?_ (Below.mono (by assumption) (by first | omega | (simp; omega) | (simp; done))) | refine Below.alloc ?_ (by first | omega | (simp; omega) | (simp; done)) _ | refine Below.setCell ?_ (by first | omega | (simp; omega) | (simp; done)) _))⟩
              case measure => simp [intOf]; omega
            · have d2 : decide (o.1 = y.1) = false := decide_eq_false hn
              have d2' : (o.1 == y.1) = false := by simpa using hn
              clear hbo
              go_wp2_with fail
              go_quiet (fail)
              go_wp2_with fail
              go_quiet (fail)
              go_wp2
              go_round
              case rel => exact ⟨i + 1, by omega, by go_num, hb.trans (by repeat (first | exact Below.refl _ _ | refine Below.drew ?_ | refine below_drewN ?_ _ | refine Below.trans ?_ (Below.mono (by assumption) (by first | omega | (simp; omega) | (simp; done))) | refine Below.alloc ?_ (by first | omega | (simp; omega) | (simp; done)) _ | refine Below.setCell ?_ (by first | omega | (simp; omega) | (simp; done)) _))⟩
              case measure => simp [intOf]; omega
        · clear hin
          have HA7 := Lib.hid (HA6.out.go zz6 hb)
          have HR7 := Lib.hid hR
          clear hR HOB HSO
          have nlt : ¬ ((i : Int) < (l.length : Int)) := by omega
          go_wp2_with fail
          obtain ⟨l0, hl0⟩ : ∃ l0 : List Ob, l0 = l := ⟨_, rfl⟩
          go_loopw [16] (fun iv ws => ∃ (i : Nat) (c' : Ca), i ≤ l.length ∧ iv = .int .i64 i ∧ Hid (ApS w3.heap.size w5 w4.heap.size pz mn lw hi O e L X v A c' ws) ∧ Hid (obsC e c'.C = l.drop i) ∧ Hid (RowS base ws (.slice tq l.length tk) l) ∧ Below w.heap.size w ws) (fun iv _ => l.length - (intOf iv).toNat)
          case atStart => exact ⟨0, c, Nat.zero_le _, by go_num, HA7, by show _ = _; rw [HL.out]; simp, HR7, K6.trans (hb.mono K6.size)⟩
          case round =>
            obtain ⟨i, c', hin, rfl, HAR, HOR, HRR, KR3⟩ := hrel
            have zs := HAR.out.size (by omega)
            clear HA7 HR7 HA6 HR6
            by_cases hlt : i < l.length
            · obtain ⟨o, ho⟩ : ∃ o, l[i]? = some o := ⟨l[i], List.getElem?_eq_getElem hlt⟩
              obtain ⟨tp, tcap, t1, _, t2⟩ := HRR.out
              injection t1 with t3 t4 t5
              obtain ⟨tg, rfl, t6, t7, t8, t9⟩ := t2 i o.1 o.2 ho
              subst t3
              have hd : obsC e c'.C = o :: l.drop (i + 1) := by
                rw [HOR.out]
                have h0 := List.drop_eq_getElem_cons hlt
                rw [List.getElem?_eq_getElem hlt] at ho
                rw [h0, Option.some.inj ho]
              have GV := Lib.hid (ap_give o.1 o.2 E5.out HAR.out (by rw [hd]; simp))
              have HNX : Hid (obsC e (giveC e c' (o.1, o.2)).1.C = l.drop (i + 1)) := (give_next HAR.out.inv hd).2
              have hli : (i : Int) < (l.length : Int) := by omega
              have YL : Hid (∀ y ∈ cay w4.heap.size v A, w3.heap.size ≤ y) := fun y hy => (HAR.out.cs.ch.lim y hy).1
              clear t2 t4 t5 ho hd
              go_wp2_with fail
              refine GV.out.mono ?_
              rintro r w7 ⟨rfl, hk7, hap7⟩
              have HA7 := Lib.hid hap7
              have HR7 := Lib.hid (HRR.out.keep hk7 HBA.out)
              have KK := KR3.trans (hk7.below (B := w.heap.size) (by omega) (fun s hs => by have := YL.out s hs; omega))
              clear hap7 GV hk7
              go_wp2
              go_round
              case rel => exact ⟨i + 1, _, by omega, by go_num, HA7, HNX, HR7, KK⟩
              case measure => simp [intOf]; omega
            · clear hin
              have hnil : obsC e c'.C = [] := by rw [HOR.out, List.drop_eq_nil_of_le (by omega)]
              have HM0 : Hid (∀ s ∈ c'.C, manyS s = 0 ∧ ∀ j : Nat, j < 0 → s.nd ≠ j) := fun s hs => ⟨obs_nil hnil s hs, fun j hj => by omega⟩
              have nlt : ¬ ((i : Int) < (l.length : Int)) := by omega
              clear hnil
              go_wp2_with fail
              go_loopw [17] (fun iv wt => ∃ (i : Nat) (v' : Value) (A' : SA) (c'' : Ca), i ≤ P.length ∧ iv = .int .i64 i ∧ Hid (ApS w3.heap.size w5 w4.heap.size pz mn lw hi O e L X v' A' c'' wt) ∧ Hid (∀ s ∈ c''.C, manyS s = 0 ∧ ∀ j : Nat, j < i → s.nd ≠ j)) (fun iv _ => P.length - (intOf iv).toNat)
              case atStart => exact ⟨0, v, A, c', Nat.zero_le _, by go_num, HAR, HM0⟩
              case round =>
                obtain ⟨i, v', A', c'', hin, rfl, HAR4, HM4⟩ := hrel
                clear HAR HRR HM0 KR3 zs
                have hb5t := HAR4.out.bel
                have zt := hb5t.size
                have KT : Below w.heap.size w wr := K5.trans (hb5t.mono (by omega))
                have HB5T := Lib.hid hb5t
                have MT := M5.out.below hb5t hwl
                have t0 := MT.c 0 _ rfl; have tl := MT.lt
                by_cases hlt : i < P.length
                · have hip : (i : Int) < (P.length : Int) := by omega
                  have SH := Lib.hid (ap_shrink i E5.out HAR4.out (by omega) (fun s hs => (HM4.out s hs).1))
                  clear hb5t MT
                  go_wp2_with fail
                  refine SH.out.mono ?_
                  rintro r w8 ⟨ns, rfl, v8, A8, c8, hap8, hm8⟩
                  have b8 := hap8.bel
                  obtain ⟨x, hx⟩ : ∃ x, c8.L[i]? = some x := ⟨c8.L[i]'(by rw [← hap8.same.1]; omega), List.getElem?_eq_getElem _⟩
                  have hfree := free_all hap8.inv hap8.only hx (fun s hs => (hm8 s hs).2.1)
                  have hxn : P[i]? = some x.n := by
                    have e1 := hap8.same.ns
                    rw [HLN.out] at e1
                    rw [← e1, List.getElem?_map, hx]; rfl
                  have FR := zfree_ok pz mn lw hi O c8.L i x w8 hap8.cs.z.toB hx
                  rw [hfree] at FR
                  have HFR := Lib.hid FR; have HA8 := Lib.hid hap8
                  have HM8 : Hid (∀ s ∈ c8.C, manyS s = 0 ∧ ∀ j : Nat, j < i + 1 → s.nd ≠ j) := fun s hs => by
                    obtain ⟨y1, y2, y3⟩ := hm8 s hs
                    refine ⟨y1, fun j hj => ?_⟩
                    by_cases q : j = i
                    · subst q; exact y2
                    · exact (HM4.out s y3).2 j (by omega)
                  obtain ⟨xn, hxn'⟩ : ∃ xn, xn = x.n := ⟨_, rfl⟩
                  rw [← hxn'] at hxn HFR
                  have zz8 : w3.heap.size ≤ w8.heap.size := by have := b8.size; omega
                  have HB8 := Lib.hid b8
                  clear hap8 hm8 hx hfree FR SH hxn' b8
                  go_wp2_with fail
                  refine HFR.out.mono ?_
                  rintro r w9 ⟨rfl, hb9⟩
                  have b59 : Below w3.heap.size w5 w9 := HB8.out.trans (hb9.mono zz8)
                  have K9 : Below w.heap.size w w9 := K5.trans (b59.mono (by omega))
                  have HA9 := Lib.hid (HA8.out.go zz8 hb9)
                  have MT9 := M5.out.below b59 hwl
                  have t0 := MT9.c 0 _ rfl; have tl := MT9.lt
                  obtain ⟨pg, po, rfl, _, pgl, pc0⟩ := HCL.out i xn hxn
                  have pc1 := (K9.cell (p := ⟨pg, po + i, none⟩) pgl).trans pc0
                  have pgl' : pg < w9.heap.size := by have := K9.size; omega
                  clear MT9 pc0 hxn HFR
                  go_wp2
                  go_round
                  case rel => exact ⟨i + 1, v8, A8, c8, by omega, by go_num, HA9, HM8⟩
                  case measure => simp [intOf]; omega
                · obtain rfl : i = P.length := by omega
                  have hC0 : c''.C = [] := by
                    cases q : c''.C with
                    | nil => rfl
                    | cons s r =>
                      exfalso
                      have hs : s ∈ c''.C := by rw [q]; simp
                      obtain ⟨y0, y1, _⟩ := (HAR4.out.inv.tk s hs).rng HAR4.out.inv.zi
                      rw [← HAR4.out.same.1, hLP] at y1
                      exact (HM4.out s hs).2 s.nd.toNat (by omega) (by omega)
                  have SL := sslabs_ok HAR4.out.cs HAR4.out.inv
                  rw [hC0] at SL
                  have HSL := Lib.hid SL
                  clear SL hC0 hb5t MT
                  go_wp2_with fail
                  refine HSL.out.mono ?_
                  rintro r w8 ⟨sq, sk, rfl, _, hb8⟩
                  go_wp2
                  go_ret
                  exact ⟨by simp, KT.trans (hb8.mono KT.size)⟩
end Go.Proofs.YtcokmiidgdmdlaaGreatDoor
