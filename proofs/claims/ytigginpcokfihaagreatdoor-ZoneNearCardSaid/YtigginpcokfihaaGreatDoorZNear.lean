/- The statement ZoneNear: its walk. -/
import Derived.Test.YtigginpcokfihaaGreatDoorZMin
namespace Go.Proofs.YtigginpcokfihaaGreatDoor
open Go.RowKit Go.Maps
set_option linter.unusedSimpArgs false
set_option linter.unusedVariables false

/-- the best of the first i: the least key, of as great ones the first -/
def BestTo (f : Nat → Bool) (key : Nat → Int) (i : Nat) (b : Int) : Prop :=
  (b = -1 ∧ ∀ j, j < i → f j = false) ∨ ∃ m : Nat, b = m ∧ m < i ∧ f m = true ∧ ∀ j, j < i → f j = true → key m < key j ∨ (key m = key j ∧ m ≤ j)
theorem BestTo.start (f : Nat → Bool) (key : Nat → Int) : BestTo f key 0 (-1) := .inl ⟨rfl, fun j hj => by omega⟩
theorem BestTo.skip {f : Nat → Bool} {key : Nat → Int} {i : Nat} {b : Int} (h : BestTo f key i b) (hf : f i = false) : BestTo f key (i + 1) b := by
  rcases h with ⟨h1, h2⟩ | ⟨m, h1, h2, h3, h4⟩
  · refine .inl ⟨h1, fun j hj => ?_⟩
    by_cases e : j = i
    · rw [e]; exact hf
    · exact h2 j (by omega)
  · refine .inr ⟨m, h1, by omega, h3, fun j hj hfj => ?_⟩
    by_cases e : j = i
    · rw [e, hf] at hfj; cases hfj
    · exact h4 j (by omega) hfj
theorem BestTo.first {f : Nat → Bool} {key : Nat → Int} {i : Nat} (h : BestTo f key i (-1)) (hf : f i = true) : BestTo f key (i + 1) i := by
  rcases h with ⟨h1, h2⟩ | ⟨m, h1, _⟩
  · refine .inr ⟨i, rfl, by omega, hf, fun j hj hfj => ?_⟩
    by_cases e : j = i
    · subst e; exact .inr ⟨rfl, Nat.le_refl _⟩
    · rw [h2 j (by omega)] at hfj; cases hfj
  · omega
theorem BestTo.less {f : Nat → Bool} {key : Nat → Int} {i m : Nat} (h : BestTo f key i m) (hf : f i = true) (hk : key i < key m) : BestTo f key (i + 1) i := by
  rcases h with ⟨h1, h2⟩ | ⟨m', h1, h2, h3, h4⟩
  · omega
  · obtain rfl : m = m' := by omega
    refine .inr ⟨i, rfl, by omega, hf, fun j hj hfj => ?_⟩
    by_cases e : j = i
    · subst e; exact .inr ⟨rfl, Nat.le_refl _⟩
    · rcases h4 j (by omega) hfj with q | q
      · exact .inl (by omega)
      · exact .inl (by omega)
theorem BestTo.more {f : Nat → Bool} {key : Nat → Int} {i m : Nat} (h : BestTo f key i m) (hk : ¬ key i < key m) : BestTo f key (i + 1) m := by
  rcases h with ⟨h1, h2⟩ | ⟨m', h1, h2, h3, h4⟩
  · omega
  · obtain rfl : m = m' := by omega
    refine .inr ⟨m, rfl, by omega, h3, fun j hj hfj => ?_⟩
    by_cases e : j = i
    · subst e
      by_cases q : key m < key j
      · exact .inl q
      · exact .inr ⟨by omega, by omega⟩
    · exact h4 j (by omega) hfj

def moreN (mn : Int) (L : List Nd) (j : Nat) : Bool := match L[j]? with | some x => decide (mn < sumL x.F) | none => false
theorem okAt_more {mn : Int} {L : List Nd} (hI : ∀ x ∈ L, Inv x.n x.F x.T) (m0 : 0 ≤ mn) (j : Nat) : okAt mn 0 false L (j : Int) = moreN mn L j := by
  unfold okAt moreN
  rw [Int.toNat_natCast]
  cases hx : L[j]? with
  | none => rfl
  | some x =>
    have hi := hI x (List.mem_of_getElem? hx)
    simp only
    unfold okN mayN
    rw [bestL_isSome, sz0]
    by_cases h : mn < sumL x.F
    · have hne : x.F ≠ [] := fun e => by rw [e] at h; simp [sumL] at h; omega
      obtain ⟨p, hp⟩ := List.exists_mem_of_ne_nil _ hne
      have hr := hi.rngF hp
      have ha : (x.F.any fun p => decide (0 ≤ p.2)) = true := List.any_eq_true.2 ⟨p, hp, by simp; exact hr.2.2.1⟩
      rw [ha]
      simp
      omega
    · have e1 : decide (mn < sumL x.F) = false := decide_eq_false h
      have e2 : decide (mn ≤ sumL x.F - 1) = false := decide_eq_false (by omega)
      rw [e1, e2]
      simp
/-- the node that gives a page is the nearest one that may -/
theorem near_best {mn : Int} {L : List Nd} {l : List Int} {D : List Int} (hI : ∀ x ∈ L, Inv x.n x.F x.T) (m0 : 0 ≤ mn) (hO : OrdTo l L.length D) {b : Int} (h : BestTo (moreN mn L) (fun j => l.getD j 0) L.length b) :
    (b = -1 ∧ pickZ mn 0 false L D = none) ∨ (∃ m : Nat, b = m ∧ pickZ mn 0 false L D = some (m : Int)) := by
  rcases h with ⟨h1, h2⟩ | ⟨m, h1, h2, h3, h4⟩
  · refine .inl ⟨h1, find_no fun z hz => ?_⟩
    have hzm := (hO.mem z).1 hz
    obtain ⟨n, rfl⟩ : ∃ n : Nat, z = n := ⟨z.toNat, by omega⟩
    rw [okAt_more hI m0]
    exact h2 n (by omega)
  · refine .inr ⟨m, h1, ?_⟩
    have hmD : (m : Int) ∈ D := (hO.mem _).2 ⟨by omega, by omega⟩
    have hmok : okAt mn 0 false L (m : Int) = true := by rw [okAt_more hI m0]; exact h3
    cases hp : pickZ mn 0 false L D with
    | none =>
      have := List.find?_eq_none.1 hp _ hmD
      exact absurd hmok this
    | some j =>
      obtain ⟨hjok, l1, l2, hD, has⟩ := List.find?_eq_some_iff_append.1 hp
      have hjD : j ∈ D := by rw [hD]; simp
      have hjm := (hO.mem j).1 hjD
      obtain ⟨jn, rfl⟩ : ∃ n : Nat, j = n := ⟨j.toNat, by omega⟩
      have hjf : moreN mn L jn = true := by rw [← okAt_more hI m0]; exact hjok
      rw [hD] at hmD
      rcases List.mem_append.1 hmD with q | q
      · have := has _ q
        rw [hmok] at this; simp at this
      · rcases List.mem_cons.1 q with q | q
        · rw [q]
        · have pw := hO.pw
          rw [hD] at pw
          have := (List.pairwise_cons.1 (List.pairwise_append.1 pw).2.1).1 _ q
          have r4 := h4 jn (by omega) hjf
          simp only at r4
          simp only [lexL, keyL, Int.toNat_natCast] at this
          omega

set_option maxHeartbeats 8000000 in
set_option maxRecDepth 100000 in
theorem zoneNear_walk {B : Nat} {ev : Nat → Addr} (vP vN vl : Value) (P : List Int) (N : List (List Int)) (mn lw hi node : Int) (xs : List ZActD) (w : World) (hE : Errs B ev w) (hC : Cfg [] w vP vN P N) (hfit : hi ≤ 9223372036854775807) (hx : RowZAct w vl xs) :
    Calls Tryz.prog 4 #[.agg #[vP, vN, .int .i64 mn, .int .i64 lw, .int .i64 hi], .int .i64 node, vl] w fun e w' => e = .returned (.bool true) ∧ Below w.heap.size w w' := by
  have hB := hE.size
  obtain ⟨p, cap, rfl, hcp, hmx, _⟩ := hC.p.int
  obtain ⟨q, k, rfl, hck, hkm, _⟩ := hC.n.form
  obtain ⟨pl, kl, rfl, ⟨hkl, hml⟩, hxx⟩ := id hx
  have L0 := Lib.hid (LocN.mk_ w [.slice p P.length cap, .slice q N.length k, .int .i64 mn, .int .i64 lw, .int .i64 hi] 27 rfl)
  have hb0 : Below w.heap.size w (w.alloc (.cells [.slice p P.length cap, .slice q N.length k, .int .i64 mn, .int .i64 lw, .int .i64 hi].toArray 27)) := (by repeat (first | exact Below.refl _ _ | refine Below.drew ?_ | refine below_drewN ?_ _ | refine Below.trans ?_ (Below.mono (by assumption) (by first | omega | (simp; omega) | (simp; done))) | refine Below.alloc ?_ (by first | omega | (simp; omega) | (simp; done)) _ | refine Below.setCell ?_ (by first | omega | (simp; omega) | (simp; done)) _))
  have HE := Lib.hid hE; have HC := Lib.hid hC; have HB0 := Lib.hid hb0; have HX := Lib.hid hx
  have ZO := Lib.hid (zoned_yes _ ((hE.go hb0).z))
  obtain ⟨n, hn⟩ : ∃ n, n = xs.length := ⟨_, rfl⟩
  have HN := Lib.hid hn
  rw [← hn] at hkl HX ⊢
  unfold maxLen at hmx hkm hml
  clear hE hC hx hb0 hn hxx
  go_enter Tryz.func4, Tryz.ntmps4
  go_wp2_with fail
  refine ZO.out.mono ?_
  rintro e w1 ⟨rfl, hb1⟩
  have K1 : Below w.heap.size w w1 := HB0.out.trans (hb1.mono (by simp))
  have M1 := L0.out.go hb1
  have m0 := M1.c 0 _ rfl; have m1 := M1.c 1 _ rfl; have m2 := M1.c 2 _ rfl; have m3 := M1.c 3 _ rfl; have m4 := M1.c 4 _ rfl; have ml := M1.lt
  have HM1 := Lib.hid M1
  have WI := Lib.hid (wide_any (.slice p P.length cap) (.slice q N.length k) P N mn lw hi w1 (HC.out.below K1))
  clear M1 ZO
  go_wp2_with fail
  refine WI.out.mono ?_
  rintro e w2 ⟨rfl, hb2⟩
  have K2 : Below w.heap.size w w2 := K1.trans (hb2.mono K1.size)
  have z2 := K2.size
  cases hw : wideC P N with
  | true =>
    have ew : wideN P N = 1 := by unfold wideN; rw [if_pos hw]
    rw [ew]
    clear hw ew
    go_wp2
    go_ret
    exact ⟨rfl, K2⟩
  | false =>
    have ew : wideN P N = 0 := by unfold wideN; rw [hw]; rfl
    rw [ew]
    have HW := Lib.hid (wideC_no hw)
    clear hw ew WI
    by_cases h60 : 60 < n
    · go_wp2
      go_ret
      exact ⟨rfl, K2⟩
    have M2 := HM1.out.go hb2
    have a0 := M2.c 0 _ rfl; have a1 := M2.c 1 _ rfl; have a2 := M2.c 2 _ rfl; have a3 := M2.c 3 _ rfl; have a4 := M2.c 4 _ rfl; have al := M2.lt
    have HM2 := Lib.hid M2
    have CO := Lib.hid (configOf_ok (X := []) (.slice p P.length cap) (.slice q N.length k) P N mn lw hi w2 (HC.out.below K2) (fun x hx => by cases hx) HW.out.1 HW.out.2.1 HW.out.2.2)
    clear M2 m0 m1 m2 m3 m4
    go_wp2_with fail
    refine CO.out.mono ?_
    rintro e w3 ⟨vP', vN', rfl, hcfg, hb3⟩
    have z3 := hb3.size
    have K3 : Below w.heap.size w w3 := K2.trans (hb3.mono z2)
    have HCF := Lib.hid hcfg
    have E3 := HE.out.go K3
    have HE3 := Lib.hid E3
    clear CO
    by_cases hcE : cfgE P N mn lw hi = 0
    · have NW := Lib.hid (newZone_ok [] vP' vN' P N mn lw hi w3 E3.c hcfg hcE hfit)
      obtain ⟨c1, c2, _, cN, cR, cm, _, _⟩ := cfg_ok hcE
      have HCN := Lib.hid cN; have HCR := Lib.hid cR
      clear hcE hcfg E3 a0 a1 a2 a3 a4 cN cR
      go_wp2_with fail
      refine NW.out.mono ?_
      rintro e w4 ⟨pz, O, L, rfl, hz, hpz, hLn, hLF, hO, hb4⟩
      have z4 := hb4.size
      have HZ := Lib.hid hz
      have hLP : L.length = P.length := by rw [← hLn, List.length_map]
      have E4 := Lib.hid ((HE3.out.go hb4).up (B' := w3.heap.size) (by have := HE3.out.size; omega) z4)
      have M4 := Lib.hid ((HM2.out.go hb3).go hb4)
      have K4 : Below w.heap.size w w4 := K3.trans (hb4.mono K3.size)
      have hwl : w.heap.size < w3.heap.size := by omega
      have HOO := Lib.hid hO; have HLP := Lib.hid hLP
      have d0 := M4.out.c 0 _ rfl; have dl := M4.out.lt
      clear hz hLn hLF hO NW hLP
      by_cases hn0 : node < 0
      · have hd : decide (node < 0) = true := decide_eq_true hn0
        clear hn0
        go_wp2
        go_ret
        exact ⟨rfl, K4⟩
      by_cases hn1 : (P.length : Int) ≤ node
      · have hd : decide (node < 0) = false := decide_eq_false hn0
        have hd' : decide ((P.length : Int) ≤ node) = true := decide_eq_true hn1
        clear hn0 hn1
        go_wp2
        go_ret
        exact ⟨rfl, K4⟩
      obtain ⟨vd, rfl⟩ : ∃ vd : Nat, node = vd := ⟨node.toNat, by omega⟩
      have hvP : vd < P.length := by omega
      have e0 : decide ((vd : Int) < 0) = false := decide_eq_false (by omega)
      have e1 : decide (P.length ≤ vd) = false := decide_eq_false (by omega)
      clear hn0 hn1
      go_wp2_with fail
      go_loopw [10] (fun iv wr => ∃ (i : Nat) (L' : List Nd), i ≤ n ∧ iv = .int .i64 i ∧ L'.length = P.length ∧ Hid (ZoneB w3.heap.size wr pz mn lw hi O L') ∧ Below w3.heap.size w4 wr) (fun iv _ => n - (intOf iv).toNat)
      case atStart => exact ⟨0, L, Nat.zero_le _, by go_num, HLP.out, HZ, Below.refl _ _⟩
      case round =>
        obtain ⟨i, L', hin, rfl, hLL, HZr, hbel⟩ := hrel
        have zr := hbel.size
        have KR : Below w.heap.size w wr := K4.trans (hbel.mono (by omega))
        by_cases hlt : i < n
        · obtain ⟨x, hx⟩ : ∃ x, xs[i]? = some x := ⟨xs[i]'(by rw [← HN.out]; exact hlt), List.getElem?_eq_getElem _⟩
          obtain ⟨g, off, cap', e, _, hg, hrow⟩ := (show RowZAct w (.slice pl n kl) xs from HX.out).form (by rw [← HN.out]; omega)
          rw [← HN.out] at e
          injection e with e1 e2 e3
          subst e1 e3
          obtain ⟨hfx, hcell⟩ := hrow i x hx
          have hgr : g < wr.heap.size := by omega
          have r1 := (KR.cell (p := ⟨g, off + i * 7 + 1, none⟩) hg).trans (hcell 1 _ rfl)
          have r2 := (KR.cell (p := ⟨g, off + i * 7 + 2, none⟩) hg).trans (hcell 2 _ rfl)
          have r3 := (KR.cell (p := ⟨g, off + i * 7 + 3, none⟩) hg).trans (hcell 3 _ rfl)
          have hc1 := Lib.hid (hcell 1 _ rfl); have hc2 := Lib.hid (hcell 2 _ rfl); have hc3 := Lib.hid (hcell 3 _ rfl)
          clear hx hrow hcell
          obtain ⟨kd, nd, od, ud, pn, pa, pk⟩ := x
          simp only at r1 r2 r3 hc1 hc2 hc3
          have i0 : (0 : Int) ≤ (i : Int) := by omega
          have i1 : (i : Int) < (n : Int) := by omega
          have Er := E4.out.below hbel
          have hzr := HZr.out
          have bd : Below wr.heap.size wr wr.drew := (Below.refl _ _).drew
          have TA := ztake_any pz mn lw hi O L' nd od ud wr.drew (Er.go bd).z (hzr.below bd) (by omega)
          have hsame := (takeZ_same mn O L' nd od ud).1
          obtain ⟨⟨L2, c, qn, qa, qk⟩, hr⟩ : ∃ r, r = takeZ mn O L' nd od ud := ⟨_, rfl⟩
          rw [← hr] at TA hsame
          unfold TakePost plV at TA
          simp only at TA hsame
          obtain ⟨E, hE'⟩ : ∃ E, E = errV ev c := ⟨_, rfl⟩
          rw [← hE'] at TA
          have TK := Lib.hid TA
          have HLI := Lib.hid (fun y hy => (hzr.b.lim y hy).1 : ∀ y ∈ ys L', w3.heap.size ≤ y)
          have hrL : L2.length = P.length := by omega
          have KD : Hid (Keep (ys L') wr wr.drew) := (Keep.refl _ _).drew
          have R6 : Hid (∀ w6, Keep (ys L') wr.drew w6 → Below w.heap.size w w6) := fun w6 hk => KR.trans (((KD.out.then hk).below (B := w3.heap.size) (by omega) HLI.out).mono (by omega))
          clear TA Er hzr bd hr hE' hsame
          go_wp2_with fail
          go_region_held3 (fun w' => w'.cell? ⟨g, off + i * 7 + 1, none⟩ = some (.int .i64 nd) ∧ w'.cell? ⟨g, off + i * 7 + 2, none⟩ = some (.int .i64 od) ∧ w'.cell? ⟨g, off + i * 7 + 3, none⟩ = some (.bool ud)) (go_keep) (first
            | (go_at_call 10; refine TK.out.mono ?_; rintro e w6 ⟨rfl, hz6, hk6⟩; have b6 := R6.out w6 hk6; have y1 := (b6.cell (p := ⟨g, off + i * 7 + 1, none⟩) hg).trans (hc1.out); have y2 := (b6.cell (p := ⟨g, off + i * 7 + 2, none⟩) hg).trans (hc2.out); have y3 := (b6.cell (p := ⟨g, off + i * 7 + 3, none⟩) hg).trans (hc3.out)))
          have b64 : Below w3.heap.size w4 w6 := hbel.trans ((KD.out.then hk6).below (by omega) HLI.out)
          have HZ6 := Lib.hid hz6
          clear hz6 hk6 TK
          go_wp2
          go_roundw
          case rel => exact ⟨i + 1, L2, by omega, by go_num, hrL, HZ6, b64⟩
          case measure => simp [intOf]; omega
        · clear e0 e1 d0 dl
          obtain ⟨wo, rfl⟩ : ∃ wo : World, wo = wr := ⟨_, rfl⟩
          have hzo := HZr.out
          obtain ⟨l, hl⟩ : ∃ l, N[vd]? = some l := ⟨N[vd]'(by rw [HCN.out]; exact hvP), List.getElem?_eq_getElem _⟩
          have hll := HCR.out l (List.mem_of_getElem? hl)
          obtain ⟨D, hD, hDl, hDm⟩ := hzo.ord.get (i := vd) (by omega)
          have hOD := HOO.out vd l D hl hD
          have hI : ∀ y ∈ L', Inv y.n y.F y.T := fun y hy => (hzo.b.bud y hy).2
          have HI := Lib.hid hI; have HOD := Lib.hid hOD; have HD := Lib.hid hD
          obtain ⟨q2, k2, eq2, _, _, hcn⟩ := HC.out.n.form
          injection eq2 with ea eb ec
          subst ea ec
          have HCN2 := Lib.hid hcn
          clear hcn
          obtain ⟨gN, oN, u, rfl, _, hgN, hcu, hu⟩ := HCN2.out vd l hl
          obtain ⟨pR, kR, rfl, hkR, hmR, hcR⟩ := hu.int
          obtain ⟨gR, oR, rfl, _, hgR, hz0⟩ := hcR 0 _ (List.getElem?_eq_getElem (by omega))
          clear hz0
          have HRC : Hid (∀ j, j < P.length → w.cell? ⟨gR, oR + j, none⟩ = some (.int .i64 (l.getD j 0))) := fun j hj => by
            obtain ⟨g', o', e, _, _, qc⟩ := hcR j _ (List.getElem?_eq_getElem (by omega))
            injection e with e; injection e with ex ey
            subst ex ey
            rw [List.getD_eq_getElem?_getD, List.getElem?_eq_getElem (show j < l.length by omega)]
            exact qc
          have HCU := Lib.hid hcu
          unfold maxLen at hmR
          have hlen : l.length = P.length := hll
          rw [hlen] at hkR HCU
          have HZO := Lib.hid hzo
          have HLL := Lib.hid hLL; have HHL := Lib.hid hll
          have vN : vd < N.length := by rw [HCN.out]; exact hvP
          clear hu hcu hcR hzo hI hOD hD hl hll hlen HCF HX HN hLL
          go_wp2_with fail
          go_loopw [11, 12] (fun bv iv wr => ∃ (i : Nat) (b : Int), i ≤ P.length ∧ iv = .int .i64 i ∧ bv = .int .i64 b ∧ -1 ≤ b ∧ b < P.length ∧ Hid (BestTo (moreN mn L') (fun j => l.getD j 0) i b) ∧ Below wo.heap.size wo wr) (fun _ iv _ => P.length - (intOf iv).toNat)
          case atStart => exact ⟨0, -1, Nat.zero_le _, by go_num, rfl, by omega, by omega, BestTo.start _ _, Below.refl _ _⟩
          case round =>
            obtain ⟨i2, b, hi2, rfl, rfl, hb1', hb2', HBT, hbl2⟩ := hrel
            have zr2 := hbl2.size
            have KR2 : Below w.heap.size w wr := KR.trans (hbl2.mono KR.size)
            have b42 : Below w3.heap.size w4 wr := hbel.trans (hbl2.mono (by omega))
            have MM := M4.out.below b42 hwl
            have d0 := MM.c 0 _ rfl; have d1 := MM.c 1 _ rfl; have d2 := MM.c 2 _ rfl; have dl := MM.lt
            clear MM
            by_cases hlt2 : i2 < P.length
            · obtain ⟨y, hy⟩ : ∃ y, L'[i2]? = some y := ⟨L'[i2]'(by rw [HLL.out]; exact hlt2), List.getElem?_eq_getElem _⟩
              have FR := Lib.hid (zfree_ok pz mn lw hi O L' i2 y wr (HZO.out.below hbl2) hy)
              have hfv : moreN mn L' i2 = decide (mn < sumL y.F) := by unfold moreN; rw [hy]
              have HFV := Lib.hid hfv
              clear hy hfv
              go_wp2_with fail
              refine FR.out.mono ?_
              rintro e w5 ⟨rfl, hb5⟩
              have K5 : Below w.heap.size w w5 := KR2.trans (hb5.mono KR2.size)
              have b52 : Below wo.heap.size wo w5 := hbl2.trans (hb5.mono zr2)
              have MM := (M4.out.below b42 hwl).go hb5
              have d1' := MM.c 1 _ rfl; have d2' := MM.c 2 _ rfl; have dl' := MM.lt
              have u0 := (K5.cell (p := ⟨gN, oN + vd, none⟩) hgN).trans HCU.out
              have x1 := (K5.cell (p := ⟨gR, oR + i2, none⟩) hgR).trans (HRC.out i2 hlt2)
              obtain ⟨a1, ha1⟩ : ∃ a1, a1 = l.getD i2 0 := ⟨_, rfl⟩
              rw [← ha1] at x1
              have HA1 := Lib.hid ha1
              clear ha1
              have i0 : (0 : Int) ≤ (i2 : Int) := by omega
              have i1 : (i2 : Int) < (P.length : Int) := by omega
              have v0 : (0 : Int) ≤ (vd : Int) := by omega
              have v1 : (vd : Int) < (N.length : Int) := by omega
              have hg1 : gN < w5.heap.size := by have := K5.size; omega
              have hg2 : gR < w5.heap.size := by have := K5.size; omega
              clear MM d0 d1 d2 FR
              by_cases hmn : mn < sumL y.F
              · have hmn' : decide (mn < sumL y.F) = true := decide_eq_true hmn
                have hf : moreN mn L' i2 = true := by rw [HFV.out]; exact hmn'
                by_cases hbn : b < 0
                · have hb' : decide (b < 0) = true := decide_eq_true hbn
                  obtain rfl : b = -1 := by omega
                  have NX := Lib.hid (HBT.out.first hf)
                  clear hbn hf
                  go_wp2_with fail
                  go_quiet (fail)
                  go_wp2
                  go_roundw
                  case rel => exact ⟨i2 + 1, (i2 : Int), by omega, by go_num, rfl, by omega, by omega, NX, below_drewN b52 _⟩
                  case measure => simp [intOf]; omega
                · have hb' : decide (b < 0) = false := decide_eq_false hbn
                  obtain ⟨m, rfl⟩ : ∃ m : Nat, b = m := ⟨b.toNat, by omega⟩
                  have x2 := (K5.cell (p := ⟨gR, oR + m, none⟩) hgR).trans (HRC.out m (by omega))
                  obtain ⟨a2, ha2⟩ : ∃ a2, a2 = l.getD m 0 := ⟨_, rfl⟩
                  rw [← ha2] at x2
                  have HA2 := Lib.hid ha2
                  clear ha2
                  have j0 : (0 : Int) ≤ (m : Int) := by omega
                  have j1 : (m : Int) < (P.length : Int) := by omega
                  by_cases hle : a1 < a2
                  · have hle' : decide (a1 < a2) = true := decide_eq_true hle
                    have NX := Lib.hid (HBT.out.less hf (show l.getD i2 0 < l.getD m 0 by rw [← HA1.out, ← HA2.out]; exact hle))
                    clear hbn hf
                    go_wp2_with fail
                    go_quiet (fail)
                    go_wp2
                    go_roundw
                    case rel => exact ⟨i2 + 1, (i2 : Int), by omega, by go_num, rfl, by omega, by omega, NX, below_drewN b52 _⟩
                    case measure => simp [intOf]; omega
                  · have hle' : decide (a1 < a2) = false := decide_eq_false hle
                    have NX := Lib.hid (HBT.out.more (show ¬ l.getD i2 0 < l.getD m 0 by rw [← HA1.out, ← HA2.out]; exact hle))
                    clear hbn hf
                    go_wp2_with fail
                    go_quiet (fail)
                    go_wp2
                    go_roundw
                    case rel => exact ⟨i2 + 1, (m : Int), by omega, by go_num, rfl, by omega, by omega, NX, below_drewN b52 _⟩
                    case measure => simp [intOf]; omega
              · have hmn' : decide (mn < sumL y.F) = false := decide_eq_false hmn
                have hf : moreN mn L' i2 = false := by rw [HFV.out]; exact hmn'
                have NX := Lib.hid (HBT.out.skip hf)
                clear hf
                go_wp2_with fail
                go_quiet (fail)
                go_wp2
                go_roundw
                case rel => exact ⟨i2 + 1, b, by omega, by go_num, rfl, by omega, by omega, NX, below_drewN b52 _⟩
                case measure => simp [intOf]; omega
            · have ei : i2 = L'.length := by have := HLL.out; omega
              have hlp : P.length = L'.length := HLL.out.symm
              have hbt : BestTo (moreN mn L') (fun j => l.getD j 0) L'.length b := by rw [← ei]; exact HBT.out
              have hod : OrdTo l L'.length D := by rw [HLL.out]; exact HOD.out
              have hzr := HZO.out.below hbl2
              have NB := near_best HI.out cm hod hbt
              have Er := E4.out.below b42
              have hLL' := HLL.out
              have TA := ztake_any pz mn lw hi O L' vd 0 false wr Er.z hzr (by omega)
              have hnb : ¬ ((vd : Int) < 0 ∨ (L'.length : Int) ≤ (vd : Int) ∨ (0 : Int) < 0 ∨ (6 : Int) < 0) := by omega
              have hDD : O[((vd : Int)).toNat]? = some D := by rw [Int.toNat_natCast]; exact HD.out
              have HLI := Lib.hid (fun y hy => (hzr.b.lim y hy).1 : ∀ y ∈ ys L', w3.heap.size ≤ y)
              have HB42 := Lib.hid b42
              have HER := Lib.hid Er
              obtain rfl : i2 = P.length := by omega
              clear hbt hod hzr Er b42 hlp hLL' ei
              rcases NB with ⟨hb, hp⟩ | ⟨m, hb, hp⟩
              · rw [takeZ_no hnb hDD hp] at TA
                unfold TakePost plV at TA
                simp only at TA
                subst hb
                rcases lowZ_pos 0 L' with hlow | hlow
                · rw [hlow] at TA
                  simp only [errV] at TA
                  have TK := Lib.hid TA
                  clear TA hlow hp hnb hDD
                  go_wp2_with fail
                  refine TK.out.mono ?_
                  rintro e w5 ⟨rfl, hz5, hk5⟩
                  have b5 : Below w3.heap.size wr w5 := hk5.below (by omega) HLI.out
                  have z5 := b5.size
                  have b51 : Below w5.heap.size w5 (w5.alloc (.cells [.int .i64 0, .int .i64 0, .int .i64 0].toArray 41)) := (by repeat (first | exact Below.refl _ _ | refine Below.drew ?_ | refine below_drewN ?_ _ | refine Below.trans ?_ (Below.mono (by assumption) (by first | omega | (simp; omega) | (simp; done))) | refine Below.alloc ?_ (by first | omega | (simp; omega) | (simp; done)) _ | refine Below.setCell ?_ (by first | omega | (simp; omega) | (simp; done)) _))
                  have E5 := Lib.hid ((HER.out.below b5).go b51)
                  have b45 : Below w3.heap.size w4 w5 := HB42.out.trans b5
                  have H45 := Lib.hid b45
                  clear hz5 hk5 TK b5 b45
                  go_wp2_with fail
                  refine (coded_any 7 7 _ E5.out (by decide)).mono ?_
                  rintro e w6 ⟨rfl, hb6⟩
                  have e7 : decide (((7 : Nat) : Int) = 7) = true := by decide
                  rw [e7]
                  go_wp2
                  go_ret
                  exact ⟨rfl, K4.trans ((H45.out.mono (by omega)).trans ((b51.trans (hb6.mono (by simp))).mono (by omega)))⟩
                · rw [hlow] at TA
                  simp only [errV] at TA
                  have TK := Lib.hid TA
                  clear TA hlow hp hnb hDD
                  go_wp2_with fail
                  refine TK.out.mono ?_
                  rintro e w5 ⟨rfl, hz5, hk5⟩
                  have b5 : Below w3.heap.size wr w5 := hk5.below (by omega) HLI.out
                  have z5 := b5.size
                  have b51 : Below w5.heap.size w5 (w5.alloc (.cells [.int .i64 0, .int .i64 0, .int .i64 0].toArray 41)) := (by repeat (first | exact Below.refl _ _ | refine Below.drew ?_ | refine below_drewN ?_ _ | refine Below.trans ?_ (Below.mono (by assumption) (by first | omega | (simp; omega) | (simp; done))) | refine Below.alloc ?_ (by first | omega | (simp; omega) | (simp; done)) _ | refine Below.setCell ?_ (by first | omega | (simp; omega) | (simp; done)) _))
                  have E5 := Lib.hid ((HER.out.below b5).go b51)
                  have b45 : Below w3.heap.size w4 w5 := HB42.out.trans b5
                  have H45 := Lib.hid b45
                  clear hz5 hk5 TK b5 b45
                  go_wp2_with fail
                  refine (coded_any 5 7 _ E5.out (by decide)).mono ?_
                  rintro e w6 ⟨rfl, hb6⟩
                  have e7 : decide (((5 : Nat) : Int) = 7) = false := by decide
                  rw [e7]
                  have z6 := hb6.size
                  have E6 := Lib.hid (E5.out.go hb6)
                  go_wp2_with fail
                  refine (coded_any 5 5 _ E6.out (by decide)).mono ?_
                  rintro e w7 ⟨rfl, hb7⟩
                  have e8 : decide (((5 : Nat) : Int) = 5) = true := by decide
                  rw [e8]
                  go_wp2
                  go_ret
                  exact ⟨rfl, K4.trans ((H45.out.mono (by omega)).trans (((b51.trans (hb6.mono (by simp))).trans (hb7.mono (by simp at z6; omega))).mono (by omega)))⟩
              · obtain ⟨_, hok⟩ := pickZ_some hp
                obtain ⟨x, bb, hx, _, hbb⟩ := okAt_some hok
                rw [takeZ_yes hnb hDD hp hx hbb] at TA
                unfold TakePost plV at TA
                simp only [errV] at TA
                have TK := Lib.hid TA
                subst hb
                clear TA hp hnb hDD hok hx hbb
                have hm0 : decide ((m : Int) < 0) = false := decide_eq_false (by omega)
                go_wp2_with fail
                refine TK.out.mono ?_
                rintro e w5 ⟨rfl, hz5, hk5⟩
                have b5 : Below w3.heap.size wr w5 := hk5.below (by omega) HLI.out
                have z5 := b5.size
                have b45 : Below w3.heap.size w4 w5 := HB42.out.trans b5
                clear hz5 hk5 TK b5
                go_wp2
                go_ret
                exact ⟨rfl, K4.trans ((b45.mono (by omega)).trans (by repeat (first | exact Below.refl _ _ | refine Below.drew ?_ | refine below_drewN ?_ _ | refine Below.trans ?_ (Below.mono (by assumption) (by first | omega | (simp; omega) | (simp; done))) | refine Below.alloc ?_ (by first | omega | (simp; omega) | (simp; done)) _ | refine Below.setCell ?_ (by first | omega | (simp; omega) | (simp; done)) _)))⟩
    · obtain ⟨c, c1, c3, hcc, NE⟩ := newZone_errs [] vP' vN' P N mn lw hi w3 E3.c hcfg hcE
      have NW := Lib.hid NE
      clear hcE hcfg E3 NE hcc
      go_wp2_with fail
      refine NW.out.mono ?_
      rintro e w4 ⟨rfl, hb4⟩
      go_wp2
      go_ret
      exact ⟨rfl, K3.trans (hb4.mono K3.size)⟩
end Go.Proofs.YtigginpcokfihaaGreatDoor
