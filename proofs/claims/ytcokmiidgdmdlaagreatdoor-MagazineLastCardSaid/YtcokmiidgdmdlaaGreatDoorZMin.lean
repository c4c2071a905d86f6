/- The statement ZoneMin: its walk. -/
import Derived.Test.YtcokmiidgdmdlaaGreatDoorZLaw
import Derived.Test.YtcokmiidgdmdlaaGreatDoorRowAZ
namespace Go.Proofs.YtcokmiidgdmdlaaGreatDoor
open Go.RowKit Go.Maps
set_option linter.unusedSimpArgs false
set_option linter.unusedVariables false

theorem takeZ_code (mn : Int) (O : List (List Int)) (L : List Nd) (v k : Int) (u : Bool) : (takeZ mn O L v k u).2.1 = 0 ∨ (takeZ mn O L v k u).2.1 = 2 ∨ (takeZ mn O L v k u).2.1 = 5 ∨ (takeZ mn O L v k u).2.1 = 7 := by
  unfold takeZ
  split
  · simp
  split
  · rcases lowZ_pos k L with h | h <;> simp [h]
  split
  · simp
  split <;> simp

theorem takeZ_fail {mn : Int} {O : List (List Int)} {L : List Nd} {v k : Int} {u : Bool} (h : (takeZ mn O L v k u).2.1 ≠ 0) : (takeZ mn O L v k u).1 = L := by
  revert h
  unfold takeZ
  split
  · simp
  split
  · simp
  split
  · simp
  split <;> simp

/-- zone.New by any config: right, or not -/
theorem newZone_errs {B : Nat} {ev : Nat → Addr} (X : List Nat) (vP vN : Value) (P : List Int) (N : List (List Int)) (mn lw hi : Int) (w : World) (hE : ErrC B ev w) (h : Cfg X w vP vN P N) (hc : cfgE P N mn lw hi ≠ 0) :
    ∃ c, 1 ≤ c ∧ c ≤ 3 ∧ cfgE P N mn lw hi = c ∧ Calls Tryz.prog 14 #[.agg #[vP, vN, .int .i64 mn, .int .i64 lw, .int .i64 hi]] w fun e w' => e = .returned (.tuple #[.pointer none, .iface 291 (.pointer (some (ev c)))]) ∧ Below w.heap.size w w' := by
  obtain ⟨c, hc'⟩ : ∃ c, cfgE P N mn lw hi = c + 1 := ⟨cfgE P N mn lw hi - 1, by omega⟩
  refine ⟨c + 1, by omega, ?_, hc', newZone_err X vP vN P N mn lw hi w hE h c hc'⟩
  unfold cfgE at hc'
  split at hc'
  · omega
  · split at hc' <;> omega

theorem Errs.up {B B' : Nat} {ev : Nat → Addr} {w : World} (h : Errs B ev w) (hb : B ≤ B') (hs : B' ≤ w.heap.size) : Errs B' ev w :=
  ⟨hs, fun i a b => Nat.lt_of_lt_of_le (h.glob i a b) hb, h.cell, h.inj, h.row, fun i a b => Nat.lt_of_lt_of_le (h.lt i a b) hb, Nat.lt_of_lt_of_le h.globT hb, h.typ⟩

set_option maxHeartbeats 8000000 in
set_option maxRecDepth 100000 in
theorem zoneMin_walk {B : Nat} {ev : Nat → Addr} (vP vN vl : Value) (P : List Int) (N : List (List Int)) (mn lw hi : Int) (xs : List ZActD) (w : World) (hE : Errs B ev w) (hC : Cfg [] w vP vN P N) (hfit : hi ≤ 9223372036854775807) (hx : RowZAct w vl xs) :
    Calls Tryz.prog 3 #[.agg #[vP, vN, .int .i64 mn, .int .i64 lw, .int .i64 hi], vl] w fun e w' => e = .returned (.bool true) ∧ Below w.heap.size w w' := by
  have hB := hE.size
  obtain ⟨p, cap, rfl, hcp, hmx, _⟩ := hC.p.int
  obtain ⟨q, k, rfl, hck, hkm, _⟩ := hC.n.form
  obtain ⟨pl, kl, rfl, ⟨hkl, hml⟩, hxx⟩ := id hx
  have L0 := Lib.hid (LocN.mk_ w [.slice p P.length cap, .slice q N.length k, .int .i64 mn, .int .i64 lw, .int .i64 hi] 27 rfl)
  have hb0 : Below w.heap.size w (w.alloc (.cells [.slice p P.length cap, .slice q N.length k, .int .i64 mn, .int .i64 lw, .int .i64 hi].toArray 27)) := (by repeat (first | exact Below.refl _ _ | refine Below.drew ?_ | refine below_drewN ?_ _ | refine Below.trans ?_ (Below.mono (by assumption) (by first | omega | (simp; omega) | (simp; done))) | refine Below.alloc ?_ (by first | omega | (simp; omega) | (simp; done)) _ | refine Below.setCell ?_ (by first | omega | (simp; omega) | (simp; done)) _))
  have HE := Lib.hid hE; have HC := Lib.hid hC; have HB0 := Lib.hid hb0; have HX := Lib.hid hx
  have ZO := Lib.hid (zoned_yes _ ((hE.go hb0).z))
  obtain ⟨n, hn⟩ : ∃ n, n = xs.length := ⟨_, rfl⟩
  have HN := Lib.hid hn
  rw [← hn] at hkl HX ⊢
  unfold maxLen at hmx hkm hml
  clear hE hC hx hb0 hn hxx
  go_enter Tryz.func3, Tryz.ntmps3
  go_wp2_with fail
  refine ZO.out.mono ?_
  rintro e w1 ⟨rfl, hb1⟩
  have K1 : Below w.heap.size w w1 := HB0.out.trans (hb1.mono (by simp))
  have M1 := L0.out.go hb1
  have m0 := M1.c 0 _ rfl; have m1 := M1.c 1 _ rfl; have m2 := M1.c 2 _ rfl; have m3 := M1.c 3 _ rfl; have m4 := M1.c 4 _ rfl; have ml := M1.lt
  have HM1 := Lib.hid M1
  have WI := Lib.hid (wide_any (.slice p P.length cap) (.slice q N.length k) P N mn lw hi w1 (HC.out.below K1))
  clear M1 ZO
  go_wp2_with fail
  refine WI.out.mono ?_
  rintro e w2 ⟨rfl, hb2⟩
  have K2 : Below w.heap.size w w2 := K1.trans (hb2.mono K1.size)
  have z2 := K2.size
  cases hw : wideC P N with
  | true =>
    have ew : wideN P N = 1 := by unfold wideN; rw [if_pos hw]
    rw [ew]
    clear hw ew
    go_wp2
    go_ret
    exact ⟨rfl, K2⟩
  | false =>
    have ew : wideN P N = 0 := by unfold wideN; rw [hw]; rfl
    rw [ew]
    have HW := Lib.hid (wideC_no hw)
    clear hw ew WI
    by_cases h60 : 60 < n
    · go_wp2
      go_ret
      exact ⟨rfl, K2⟩
    have M2 := HM1.out.go hb2
    have a0 := M2.c 0 _ rfl; have a1 := M2.c 1 _ rfl; have a2 := M2.c 2 _ rfl; have a3 := M2.c 3 _ rfl; have a4 := M2.c 4 _ rfl; have al := M2.lt
    have HM2 := Lib.hid M2
    have CO := Lib.hid (configOf_ok (X := []) (.slice p P.length cap) (.slice q N.length k) P N mn lw hi w2 (HC.out.below K2) (fun x hx => by cases hx) HW.out.1 HW.out.2.1 HW.out.2.2)
    clear M2 m0 m1 m2 m3 m4
    go_wp2_with fail
    refine CO.out.mono ?_
    rintro e w3 ⟨vP', vN', rfl, hcfg, hb3⟩
    have z3 := hb3.size
    have K3 : Below w.heap.size w w3 := K2.trans (hb3.mono z2)
    have HCF := Lib.hid hcfg
    have E3 := HE.out.go K3
    have HE3 := Lib.hid E3
    clear CO
    by_cases hcE : cfgE P N mn lw hi = 0
    · have NW := Lib.hid (newZone_ok [] vP' vN' P N mn lw hi w3 E3.c hcfg hcE hfit)
      have HCE := Lib.hid hcE
      clear hcE hcfg E3 a0 a1 a2 a3 a4
      go_wp2_with fail
      refine NW.out.mono ?_
      rintro e w4 ⟨pz, O, L, rfl, hz, hpz, hLn, hLF, hO, hb4⟩
      have z4 := hb4.size
      have HZ := Lib.hid hz
      have hL0 : 0 < L.length := by
        have := (cfg_ok HCE.out).1
        rw [← hLn, List.length_map] at this; omega
      have E4 := Lib.hid ((HE3.out.go hb4).up (B' := w3.heap.size) (by have := HE3.out.size; omega) z4)
      have M4 := Lib.hid ((HM2.out.go hb3).go hb4)
      have K4 : Below w.heap.size w w4 := K3.trans (hb4.mono K3.size)
      have hwl : w.heap.size < w3.heap.size := by omega
      clear hz hLn hLF hO NW
      go_wp2_with fail
      go_loopw [8] (fun iv wr => ∃ (i : Nat) (L' : List Nd), i ≤ n ∧ iv = .int .i64 i ∧ L'.length = L.length ∧ Hid (ZoneB w3.heap.size wr pz mn lw hi O L') ∧ Below w3.heap.size w4 wr) (fun iv _ => n - (intOf iv).toNat)
      case atStart => exact ⟨0, L, Nat.zero_le _, by go_num, rfl, HZ, Below.refl _ _⟩
      case round =>
        obtain ⟨i, L', hin, rfl, hLL, HZr, hbel⟩ := hrel
        have zr := hbel.size
        have KR : Below w.heap.size w wr := K4.trans (hbel.mono (by omega))
        by_cases hlt : i < n
        · obtain ⟨x, hx⟩ : ∃ x, xs[i]? = some x := ⟨xs[i]'(by rw [← HN.out]; exact hlt), List.getElem?_eq_getElem _⟩
          obtain ⟨g, off, cap', e, _, hg, hrow⟩ := (show RowZAct w (.slice pl n kl) xs from HX.out).form (by rw [← HN.out]; omega)
          rw [← HN.out] at e
          injection e with e1 e2 e3
          subst e1 e3
          obtain ⟨hfx, hcell⟩ := hrow i x hx
          have hgr : g < wr.heap.size := by omega
          have r0 := (KR.cell (p := ⟨g, off + i * 7 + 0, none⟩) hg).trans (hcell 0 _ rfl)
          have r1 := (KR.cell (p := ⟨g, off + i * 7 + 1, none⟩) hg).trans (hcell 1 _ rfl)
          have r2 := (KR.cell (p := ⟨g, off + i * 7 + 2, none⟩) hg).trans (hcell 2 _ rfl)
          have r3 := (KR.cell (p := ⟨g, off + i * 7 + 3, none⟩) hg).trans (hcell 3 _ rfl)
          have r4 := (KR.cell (p := ⟨g, off + i * 7 + 4, none⟩) hg).trans (hcell 4 _ rfl)
          have r5 := (KR.cell (p := ⟨g, off + i * 7 + 5, none⟩) hg).trans (hcell 5 _ rfl)
          have r6 := (KR.cell (p := ⟨g, off + i * 7 + 6, none⟩) hg).trans (hcell 6 _ rfl)
          simp only [Nat.add_zero] at r0
          clear hx hrow hcell
          obtain ⟨kd, nd, od, ud, pn, pa, pk⟩ := x
          simp only at r0 r1 r2 r3 r4 r5 r6
          have b5 : Below wr.heap.size wr (wr.alloc (.cells [.string kd, .int .i64 nd, .int .i64 od, .bool ud, .int .i64 pn, .int .i64 pa, .int .i64 pk].toArray 43)) := (by repeat (first | exact Below.refl _ _ | refine Below.drew ?_ | refine below_drewN ?_ _ | refine Below.trans ?_ (Below.mono (by assumption) (by first | omega | (simp; omega) | (simp; done))) | refine Below.alloc ?_ (by first | omega | (simp; omega) | (simp; done)) _ | refine Below.setCell ?_ (by first | omega | (simp; omega) | (simp; done)) _))
          have A5 := Lib.hid (LocN.mk_ wr [.string kd, .int .i64 nd, .int .i64 od, .bool ud, .int .i64 pn, .int .i64 pa, .int .i64 pk] 43 rfl)
          have Er := E4.out.below hbel
          have hzr := HZr.out
          have hI : ∀ y ∈ L', Inv y.n y.F y.T := fun y hy => (hzr.b.bud y hy).2
          have TA := ztake_any pz mn lw hi O L' nd od false _ (Er.go b5).z (hzr.below b5) (by omega)
          have hcode := takeZ_code mn O L' nd od false
          have hmin := take_min (mn := mn) (v := nd) (k := od) hI hzr.ord
          have hlow := low_had (mn := mn) (v := nd) (k := od) (u := false) hzr.ord
          have hsame := (takeZ_same mn O L' nd od false).1
          have hfail := takeZ_fail (mn := mn) (O := O) (L := L') (v := nd) (k := od) (u := false)
          have hout : wr.heap.size ∉ ys L' := fun q => by have := (hzr.b.lim _ q).2; omega
          have hlim : ∀ y ∈ ys L', w3.heap.size ≤ y := fun y hy => (hzr.b.lim y hy).1
          obtain ⟨⟨L2, c, qn, qa, qk⟩, hr⟩ : ∃ r, r = takeZ mn O L' nd od false := ⟨_, rfl⟩
          rw [← hr] at TA hcode hmin hlow hsame hfail
          have HB5 := Lib.hid b5; have HER := Lib.hid Er; have HO := Lib.hid hout; have HLI := Lib.hid hlim; have HLOW := Lib.hid hlow; have HFA := Lib.hid hfail; have HMI := Lib.hid hmin
          unfold TakePost plV at TA
          simp only at TA hcode hsame
          clear b5 Er hzr hI hmin hlow hfail hout hlim hr
          have TK := Lib.hid TA
          clear TA
          rcases hcode with rfl | hc
          · obtain ⟨x, hx, q0, q1, hmn⟩ := HMI.out rfl
            simp only at hx q0 q1
            obtain ⟨jn, rfl⟩ : ∃ jn : Nat, qn = jn := ⟨qn.toNat, by omega⟩
            rw [Int.toNat_natCast] at hx
            simp only [errV] at TK
            have HX2 := Lib.hid hx
            clear hx HLOW HFA HMI
            go_wp2_with fail
            refine TK.out.mono ?_
            rintro e w6 ⟨rfl, hz6, hk6⟩
            have k06 : Keep (ys L') wr w6 := (Keep.of HB5.out).then hk6
            have b6 : Below w3.heap.size wr w6 := k06.below (by omega) HLI.out
            have z6 := b6.size
            have b61 : Below w6.heap.size w6 (w6.alloc (.cells [.int .i64 jn, .int .i64 qa, .int .i64 qk].toArray 41)) := (by repeat (first | exact Below.refl _ _ | refine Below.drew ?_ | refine below_drewN ?_ _ | refine Below.trans ?_ (Below.mono (by assumption) (by first | omega | (simp; omega) | (simp; done))) | refine Below.alloc ?_ (by first | omega | (simp; omega) | (simp; done)) _ | refine Below.setCell ?_ (by first | omega | (simp; omega) | (simp; done)) _))
            have P6 := LocN.mk_ w6 [.int .i64 jn, .int .i64 qa, .int .i64 qk] 41 rfl
            have FR := Lib.hid (zfree_ok pz mn lw hi O L2 jn x _ (hz6.below b61) HX2.out)
            have HZ6 := Lib.hid hz6; have HB6 := Lib.hid b6; have HB61 := Lib.hid b61
            clear hz6 hk6 k06 b61 b6 P6 TK
            go_wp2_with fail
            refine FR.out.mono ?_
            rintro e w7 ⟨rfl, hb7⟩
            have b67 : Below w6.heap.size w6 w7 := HB61.out.trans (hb7.mono (by simp))
            have b7 : Below w3.heap.size w4 w7 := hbel.trans (HB6.out.trans (b67.mono (by omega)))
            have c2 := (M4.out.below b7 hwl).c 2 _ rfl; have cl := (M4.out.below b7 hwl).lt
            have HZ7 := Lib.hid (HZ6.out.below b67)
            have hLL2 : L2.length = L.length := by omega
            clear FR b67
            go_wp2
            go_roundw
            case rel => exact ⟨i + 1, L2, by omega, by go_num, hLL2, HZ7, b7⟩
            case measure => simp [intOf]; omega
          · have hL2 : L2 = L' := HFA.out (by show c ≠ 0; omega)
            subst hL2
            have hc10 : c ≤ 10 := by omega
            have hev : errV ev c = .iface 291 (.pointer (some (ev c))) := by rcases hc with rfl | rfl | rfl <;> rfl
            rw [hev] at TK
            have CD : Hid (∀ W, Errs w3.heap.size ev W → Calls Tryz.prog 18 #[.iface 291 (.pointer (some (ev c))), .int .i64 7] W fun e w' => e = .returned (.bool (decide ((c : Int) = 7))) ∧ Below W.heap.size W w') := fun W h => by rw [← hev]; exact coded_any c 7 W h hc10
            clear hev
            go_wp2_with fail
            refine TK.out.mono ?_
            rintro e w6 ⟨rfl, hz6, hk6⟩
            have k06 : Keep (ys L2) wr w6 := (Keep.of HB5.out).then hk6
            have b6 : Below w3.heap.size wr w6 := k06.below (by omega) HLI.out
            have z6 := b6.size
            have b61 : Below w6.heap.size w6 (w6.alloc (.cells [.int .i64 qn, .int .i64 qa, .int .i64 qk].toArray 41)) := (by repeat (first | exact Below.refl _ _ | refine Below.drew ?_ | refine below_drewN ?_ _ | refine Below.trans ?_ (Below.mono (by assumption) (by first | omega | (simp; omega) | (simp; done))) | refine Below.alloc ?_ (by first | omega | (simp; omega) | (simp; done)) _ | refine Below.setCell ?_ (by first | omega | (simp; omega) | (simp; done)) _))
            have A6 := Lib.hid (A5.out.keep hk6 HO.out)
            have HZ6 := Lib.hid hz6; have HB6 := Lib.hid b6; have HB61 := Lib.hid b61
            have E6 := Lib.hid ((HER.out.below b6).go b61)
            clear hz6 hk6 k06 b61 b6 TK
            go_wp2_with fail
            refine (CD.out _ E6.out).mono ?_
            rintro e w7 ⟨rfl, hb7⟩
            have b67 : Below w6.heap.size w6 w7 := HB61.out.trans (hb7.mono (by simp))
            have b7 : Below w3.heap.size w4 w7 := hbel.trans (HB6.out.trans (b67.mono (by omega)))
            have z7 := b7.size
            have hZ7 := HZ6.out.below b67
            have E7 := E4.out.below b7
            have HB7 := Lib.hid b7
            have A7 := A6.out.go b67
            have v1 := A7.c 1 _ rfl; have v2 := A7.c 2 _ rfl; have vl := A7.lt
            have HZ7 := Lib.hid hZ7
            clear b67 CD A7 A6 b7
            by_cases h7 : c = 7
            · subst h7
              have e7 : decide (((7 : Nat) : Int) = 7) = true := by decide
              rw [e7]
              have TA := ztake_any pz mn lw hi O L2 nd od true w7 E7.z hZ7 (by omega)
              unfold TakePost plV at TA
              have hl0 := HLOW.out rfl
              obtain ⟨⟨L3, c3, rn, ra, rk⟩, hr3⟩ : ∃ r, r = takeZ mn O L2 nd od true := ⟨_, rfl⟩
              rw [← hr3] at TA hl0
              simp only at TA hl0
              subst hl0
              simp only [errV] at TA
              have TK := Lib.hid TA
              have HLI2 := Lib.hid (fun y hy => (hZ7.b.lim y hy).1 : ∀ y ∈ ys L2, w3.heap.size ≤ y)
              clear TA hZ7 E7 hr3 e7
              go_wp2_with fail
              refine TK.out.mono ?_
              rintro e w8 ⟨rfl, hz8, hk8⟩
              have b8 : Below w3.heap.size w7 w8 := hk8.below (by omega) HLI2.out
              go_wp2
              go_ret
              exact ⟨rfl, K4.trans ((HB7.out.trans b8).mono (by omega))⟩
            · have e7 : decide ((c : Int) = 7) = false := by simp; omega
              rw [e7]
              clear hZ7 E7 e7
              go_wp2
              go_roundw
              case rel => exact ⟨i + 1, L2, by omega, by go_num, hLL, HZ7, HB7.out⟩
              case measure => simp [intOf]; omega
        · go_wp2
          go_ret
          exact ⟨rfl, KR⟩
    · obtain ⟨c, c1, c3, hcc, NE⟩ := newZone_errs [] vP' vN' P N mn lw hi w3 E3.c hcfg hcE
      have NW := Lib.hid NE
      clear hcE hcfg E3 NE hcc
      go_wp2_with fail
      refine NW.out.mono ?_
      rintro e w4 ⟨rfl, hb4⟩
      go_wp2
      go_ret
      exact ⟨rfl, K3.trans (hb4.mono K3.size)⟩
end Go.Proofs.YtcokmiidgdmdlaaGreatDoor
