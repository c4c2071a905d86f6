/- What the laws on zones ask first: is a config wide; a zone of one node; the closed fact. The laws' SameInts at two slices of the same numbers; package zone's Order at a node that is none. -/
import Derived.Test.YtcokmiidgdmdlaaGreatDoorZOps
import Derived.Test.YtcokmiidgdmdlaaGreatDoorZTake
import Derived.Test.YtcokmiidgdmdlaaGreatDoorZNew
import Derived.Test.YtcokmiidgdmdlaaGreatDoorZCfg
import Derived.Test.YtcokmiidgdmdlaaGreatDoorBase
import Derived.Test.YtcokmiidgdmdlaaGreatDoorCode
namespace Go.Proofs.YtcokmiidgdmdlaaGreatDoor
open Go.RowKit Go.Maps
set_option linter.unusedSimpArgs false
set_option linter.unusedVariables false

theorem retInt {k : IntKind} {a b : Int} (h : a = b) : Ending.returned (.int k a) = .returned (.int k b) := by rw [h]

def wideC (P : List Int) (N : List (List Int)) : Bool := decide (20 < P.length) || decide (20 < N.length) || N.any fun l => decide (20 < l.length)
theorem wideC_no {P : List Int} {N : List (List Int)} (h : wideC P N = false) : P.length ≤ 20 ∧ N.length ≤ 20 ∧ ∀ (j : Nat) (xs : List Int), N[j]? = some xs → xs.length ≤ 20 := by
  unfold wideC at h
  simp at h
  exact ⟨by omega, by omega, fun j xs hj => h.2 xs (List.mem_of_getElem? hj)⟩
def wideN (P : List Int) (N : List (List Int)) : Int := if wideC P N = true then 1 else 0

set_option maxHeartbeats 1000000 in
theorem wide_any (vP vN : Value) (P : List Int) (N : List (List Int)) (mn lw hi : Int) (w : World) (h : Cfg [] w vP vN P N) :
    Calls Tryz.prog 13 #[.agg #[vP, vN, .int .i64 mn, .int .i64 lw, .int .i64 hi]] w fun e w' => e = .returned (.int .i64 (wideN P N)) ∧ Below w.heap.size w w' := by
  obtain ⟨p, cap, rfl, hcp, hmx, _⟩ := h.p.int
  obtain ⟨q, k, rfl, hck, hkm, hcn⟩ := h.n.form
  have HCN := Lib.hid hcn
  unfold maxLen at hmx hkm
  clear hcn h
  by_cases h1 : 20 < P.length
  · have e : wideN P N = 1 := by unfold wideN wideC; simp [h1]
    rw [e]
    clear e
    go_enter Tryz.func13, Tryz.ntmps13
    go_wp2
    go_ret
    exact ⟨rfl, (by repeat (first | exact Below.refl _ _ | refine Below.drew ?_ | refine below_drewN ?_ _ | refine Below.trans ?_ (Below.mono (by assumption) (by first | omega | (simp; omega) | (simp; done))) | refine Below.alloc ?_ (by first | omega | (simp; omega) | (simp; done)) _ | refine Below.setCell ?_ (by first | omega | (simp; omega) | (simp; done)) _))⟩
  by_cases h2 : 20 < N.length
  · have e : wideN P N = 1 := by unfold wideN wideC; simp [h2]
    rw [e]
    clear e
    go_enter Tryz.func13, Tryz.ntmps13
    go_wp2
    go_ret
    exact ⟨rfl, (by repeat (first | exact Below.refl _ _ | refine Below.drew ?_ | refine below_drewN ?_ _ | refine Below.trans ?_ (Below.mono (by assumption) (by first | omega | (simp; omega) | (simp; done))) | refine Below.alloc ?_ (by first | omega | (simp; omega) | (simp; done)) _ | refine Below.setCell ?_ (by first | omega | (simp; omega) | (simp; done)) _))⟩
  obtain ⟨n, hn⟩ : ∃ n, n = N.length := ⟨_, rfl⟩
  have HN := Lib.hid hn
  have L0 := Lib.hid (LocN.mk_ w [.slice p P.length cap, .slice q N.length k, .int .i64 mn, .int .i64 lw, .int .i64 hi] 27 rfl)
  rw [← hn] at h2 hck L0 ⊢
  obtain ⟨m, hm⟩ : ∃ m, m = P.length := ⟨_, rfl⟩
  have HM := Lib.hid hm
  rw [← hm] at h1 hcp L0 ⊢
  clear hn hm
  go_enter Tryz.func13, Tryz.ntmps13
  go_wp2_with fail
  go_loopw [3] (fun iv wr => ∃ i : Nat, i ≤ n ∧ iv = .int .i64 i ∧ Hid (∀ l ∈ N.take i, l.length ≤ 20) ∧ Below (w.alloc (.cells [.slice p m cap, .slice q n k, .int .i64 mn, .int .i64 lw, .int .i64 hi].toArray 27)).heap.size (w.alloc (.cells [.slice p m cap, .slice q n k, .int .i64 mn, .int .i64 lw, .int .i64 hi].toArray 27)) wr) (fun iv _ => n - (intOf iv).toNat)
  case atStart => exact ⟨0, Nat.zero_le _, by go_num, (show ∀ l ∈ N.take 0, l.length ≤ 20 from by simp), Below.refl _ _⟩
  case round =>
    obtain ⟨i, hi', rfl, SM, hbel⟩ := hrel
    have M := L0.out.go hbel
    have m1 := M.c 1 _ rfl; have ml := M.lt
    have KR : Below w.heap.size w wr := Below.trans (by repeat (first | exact Below.refl _ _ | refine Below.drew ?_ | refine below_drewN ?_ _ | refine Below.trans ?_ (Below.mono (by assumption) (by first | omega | (simp; omega) | (simp; done))) | refine Below.alloc ?_ (by first | omega | (simp; omega) | (simp; done)) _ | refine Below.setCell ?_ (by first | omega | (simp; omega) | (simp; done)) _)) (hbel.mono (by simp))
    have zr := hbel.size
    simp at zr
    by_cases hlt : i < n
    · obtain ⟨l, hl⟩ : ∃ l, N[i]? = some l := ⟨N[i]'(by rw [← HN.out]; exact hlt), List.getElem?_eq_getElem _⟩
      obtain ⟨g, off, u, rfl, _, hg, hc, hu⟩ := HCN.out i l hl
      obtain ⟨pl, kl, rfl, hkl, hml, _⟩ := hu.int
      have r0 := (KR.cell (p := ⟨g, off + i, none⟩) hg).trans hc
      have gr : g < wr.heap.size := by omega
      unfold maxLen at hml
      have HL := Lib.hid hl
      clear hl hu hc M
      by_cases hw : 20 < l.length
      · have e : wideN P N = 1 := by
          unfold wideN wideC
          rw [if_pos]
          simp
          exact .inr ⟨l, List.mem_of_getElem? HL.out, hw⟩
        have E := Lib.hid e
        clear e
        go_wp2
        go_ret
        exact ⟨retInt E.out.symm, KR⟩
      · have SM2 := Lib.hid (take_snoc SM.out HL.out (show l.length ≤ 20 by omega))
        go_wp2
        go_roundw
        case rel => exact ⟨i + 1, by omega, by go_num, SM2, hbel⟩
        case measure => simp [intOf]; omega
    · have e : wideN P N = 0 := by
        have hin : i = N.length := by have := HN.out; omega
        unfold wideN wideC
        rw [if_neg]
        simp
        refine ⟨⟨by have := HM.out; omega, by have := HN.out; omega⟩, fun l hl => ?_⟩
        exact SM.out l (by rw [hin, List.take_length]; exact hl)
      have E := Lib.hid e
      clear e M
      go_wp2
      go_ret
      exact ⟨retInt E.out.symm, KR⟩

set_option maxHeartbeats 1000000 in
theorem one_ok {X : List Nat} (n : Int) (w : World) (hX : ∀ x ∈ X, x < w.heap.size) :
    Calls Tryz.prog 30 #[.int .i64 n] w fun e w' => ∃ vP vN, e = .returned (.agg #[vP, vN, .int .i64 0, .int .i64 0, .int .i64 0]) ∧ Cfg X w' vP vN [n] [[0]] ∧ Below w.heap.size w w' := by
  obtain ⟨b1, e1⟩ : ∃ b, b = w.heap.size + 1 := ⟨_, rfl⟩
  have F0 := (((LocN.mk_ w [.slice (some ⟨w.heap.size + 1, 0, none⟩) 1 1, .slice (some ⟨w.heap.size + 1 + 1 + 1, 0, none⟩) 1 1, .int .i64 0, .int .i64 0, .int .i64 0] 36 rfl).past (.cells #[.int .i64 n] 3)).past (.cells #[.int .i64 0] 3)).past (.cells #[.slice (some ⟨w.heap.size + 1 + 1, 0, none⟩) 1 1] 22)
  have F1 := ((LocN.mk_ (w.alloc (.cells [.slice (some ⟨w.heap.size + 1, 0, none⟩) 1 1, .slice (some ⟨w.heap.size + 1 + 1 + 1, 0, none⟩) 1 1, .int .i64 0, .int .i64 0, .int .i64 0].toArray 36)) [.int .i64 n] 3 (b := w.heap.size + 1) (by simp)).past (.cells #[.int .i64 0] 3)).past (.cells #[.slice (some ⟨w.heap.size + 1 + 1, 0, none⟩) 1 1] 22)
  have F2 := (LocN.mk_ ((w.alloc (.cells [.slice (some ⟨w.heap.size + 1, 0, none⟩) 1 1, .slice (some ⟨w.heap.size + 1 + 1 + 1, 0, none⟩) 1 1, .int .i64 0, .int .i64 0, .int .i64 0].toArray 36)).alloc (.cells [.int .i64 n].toArray 3)) [.int .i64 0] 3 (b := w.heap.size + 1 + 1) (by simp)).past (.cells #[.slice (some ⟨w.heap.size + 1 + 1, 0, none⟩) 1 1] 22)
  have F3 := LocN.mk_ (((w.alloc (.cells [.slice (some ⟨w.heap.size + 1, 0, none⟩) 1 1, .slice (some ⟨w.heap.size + 1 + 1 + 1, 0, none⟩) 1 1, .int .i64 0, .int .i64 0, .int .i64 0].toArray 36)).alloc (.cells [.int .i64 n].toArray 3)).alloc (.cells [.int .i64 0].toArray 3)) [.slice (some ⟨w.heap.size + 1 + 1, 0, none⟩) 1 1] 22 (b := w.heap.size + 1 + 1 + 1) (by simp)
  have H0 := Lib.hid F0; have H1 := Lib.hid F1; have H2 := Lib.hid F2; have H3 := Lib.hid F3
  clear F0 F1 F2 F3
  go_enter Tryz.func30, Tryz.ntmps30
  go_wp2
  have c0 := H0.out.c 0 _ rfl; have c1 := H0.out.c 1 _ rfl; have c2 := H0.out.c 2 _ rfl; have c3 := H0.out.c 3 _ rfl; have c4 := H0.out.c 4 _ rfl
  refine bodyPost_ret (v := .agg #[.slice (some ⟨w.heap.size + 1, 0, none⟩) 1 1, .slice (some ⟨w.heap.size + 1 + 1 + 1, 0, none⟩) 1 1, .int .i64 0, .int .i64 0, .int .i64 0]) (by simp [results, Tryz.results30, go_sem]) rfl ⟨_, _, rfl, ⟨?_, ?_⟩, (by repeat (first | exact Below.refl _ _ | refine Below.drew ?_ | refine below_drewN ?_ _ | refine Below.trans ?_ (Below.mono (by assumption) (by first | omega | (simp; omega) | (simp; done))) | refine Below.alloc ?_ (by first | omega | (simp; omega) | (simp; done)) _ | refine Below.setCell ?_ (by first | omega | (simp; omega) | (simp; done)) _))⟩
  · exact loc_row (us := ints [n]) (cap := 1) H1.out (fun q => by have := hX _ q; omega) (by simp [ints]) (by unfold maxLen; omega)
  · refine ⟨[.slice (some ⟨w.heap.size + 1 + 1, 0, none⟩) 1 1], rfl, loc_row (cap := 1) H3.out (fun q => by have := hX _ q; omega) (by simp) (by unfold maxLen; omega), fun j u xs hu hxs => ?_⟩
    cases j with
    | zero =>
      simp at hu hxs
      subst hu hxs
      exact loc_row (us := ints [0]) (cap := 1) H2.out (fun q => by have := hX _ q; omega) (by simp [ints]) (by unfold maxLen; omega)
    | succ j => simp at hu

theorem cfgE_one {n : Int} (h1 : 1 ≤ n) (h2 : n ≤ 256) : cfgE [n] [[0]] 0 0 0 = 0 := by
  have e1 : noPg n = false := by unfold noPg; simp; omega
  unfold cfgE bndC marksC sqC badC badAt badRow badB farNo
  simp [e1, noFar, lenNe]

/-- a zone of one node -/
theorem ordOne {D : List Int} (h : D.length = 1 ∧ ∀ x : Int, x ∈ D ↔ 0 ≤ x ∧ x < 1) : D = [0] := by
  match D, h with
  | [x], h =>
    have := (h.2 x).1 (by simp)
    have e : x = 0 := by omega
    rw [e]
theorem ordZ_one {O : List (List Int)} (h : OrdZ O 1) : O = [[0]] := by
  match O, h with
  | [D], h =>
    have := h.2 D (by simp)
    have e : D = [0] := ordOne (by simpa using this)
    rw [e]

/-- a new zone of one node: what New comes to -/
def OneZ (n : Int) (w : World) (e : Ending) (w' : World) : Prop :=
  ∃ (pz : Nat) (x : Nd), e = .returned (.tuple #[.pointer (some ⟨pz, 0, none⟩), .nilIface]) ∧ ZoneB w.heap.size w' pz 0 0 0 [[0]] [x] ∧ w.heap.size ≤ pz ∧ x.n = n ∧ x.F = covL 0 n ∧ x.T = [] ∧ Below w.heap.size w w'
theorem oneZone {B : Nat} {ev : Nat → Addr} (vP vN : Value) (n : Int) (w : World) (hE : ErrC B ev w) (h : Cfg [] w vP vN [n] [[0]]) (n1 : 1 ≤ n) (n2 : n ≤ 256) :
    Calls Tryz.prog 14 #[.agg #[vP, vN, .int .i64 0, .int .i64 0, .int .i64 0]] w (OneZ n w) :=
  (newZone_ok [] vP vN [n] [[0]] 0 0 0 w hE h (cfgE_one n1 n2) (by omega)).mono fun e w' hp => by
    obtain ⟨pz, O, L, h1, h2, h3, h4, h5, h6, h7⟩ := hp
    match L, h4 with
    | [x], h4 =>
      have hx : x.n = n := by simpa using h4
      obtain ⟨q1, q2⟩ := h5 x (by simp)
      have hO := ordZ_one h2.ord
      subst hO
      exact ⟨pz, x, h1, h2, h3, hx, by rw [← hx]; exact q1, q2, h7⟩

theorem zoned_take {x : Nd} (h : x.F = covL 0 3) (ht : x.T = []) : takeZ 0 [[0]] [x] 0 0 false = ([tookN 0 (2, 0) x], 0, (0, 2, 0)) := by
  have hc : covL 0 3 = [(0, 1), (2, 0)] := by decide
  have hb : bestL 0 x.F = some (2, 0) := by rw [h, hc]; decide
  have hs : sumL x.F = 3 := by rw [h, hc]; decide
  have hp : pickZ 0 0 false [x] [0] = some 0 := by
    unfold pickZ
    refine find_at (i := 0) (by simp) rfl ?_
    unfold okAt okN mayN
    simp [hb, hs, sz0]
  exact takeZ_yes (D := [0]) (x := x) (b := (2, 0)) (by simp) rfl hp rfl hb
theorem zoned_sum {x : Nd} (hI : Inv x.n x.F x.T) (h : x.F = covL 0 3) : sumL (tookN 0 (2, 0) x).F = 2 := by
  have hc : covL 0 3 = [(0, 1), (2, 0)] := by decide
  have hb : bestL 0 x.F = some (2, 0) := by rw [h, hc]; decide
  have hs : sumL x.F = 3 := by rw [h, hc]; decide
  have := hI.sum_take (by omega) hb
  rw [hs, sz0] at this
  exact this
theorem ErrC.up {B B' : Nat} {ev : Nat → Addr} {w : World} (h : ErrC B ev w) (hb : B ≤ B') (hs : B' ≤ w.heap.size) : ErrC B' ev w := ⟨hs, Nat.lt_of_lt_of_le h.l2 hb, Nat.lt_of_lt_of_le h.l3 hb, Nat.lt_of_lt_of_le h.l4 hb, h.c2, h.c3, h.c4⟩
theorem ErrD.up {B B' : Nat} {ev : Nat → Addr} {w : World} (h : ErrD B ev w) (hb : B ≤ B') (hs : B' ≤ w.heap.size) : ErrD B' ev w := ⟨h.c.up hb hs, Nat.lt_of_lt_of_le h.l5 hb, h.c5⟩
theorem ErrZ.up {B B' : Nat} {ev : Nat → Addr} {w : World} (h : ErrZ B ev w) (hb : B ≤ B') (hs : B' ≤ w.heap.size) : ErrZ B' ev w := ⟨h.d.up hb hs, Nat.lt_of_lt_of_le h.l7 hb, h.c7⟩
/-- all ten errors: what package zone asks -/
theorem Errs.z {B : Nat} {ev : Nat → Addr} {w : World} (h : Errs B ev w) : ErrZ B ev w := ⟨h.d, h.glob 7 (by decide) (by decide), h.cell 7 (by decide) (by decide)⟩
/-- what acts on a zone leave -/
theorem ZoneB.belowK {B : Nat} {w w' : World} {pz : Nat} {mn lw hi : Int} {O : List (List Int)} {L : List Nd} (h : ZoneB B w pz mn lw hi O L) (hB : B ≤ w.heap.size) (k : Keep (ys L) w w') : Below B w w' := k.below hB fun s hs => (h.b.lim s hs).1

set_option maxHeartbeats 1000000 in
theorem zoned_yes {B : Nat} {ev : Nat → Addr} (w : World) (hE : ErrZ B ev w) :
    Calls Tryz.prog 12 #[] w fun e w' => e = .returned (.bool true) ∧ Below w.heap.size w w' := by
  have hB := hE.size
  have eb := eqP; have nb := neqP; have gb := guardP
  have HE := Lib.hid hE
  clear hE
  go_enter Tryz.func12, Tryz.ntmps12
  go_wp2_with fail
  refine (one_ok (X := []) 3 w (fun x hx => by cases hx)).mono ?_
  rintro e w1 ⟨vP, vN, rfl, hcfg, hb1⟩
  have z1 := hb1.size
  have HC := Lib.hid hcfg
  clear hcfg
  go_wp2_with fail
  refine (oneZone vP vN 3 w1 (HE.out.go hb1).c HC.out (by omega) (by omega)).mono ?_
  rintro e w2 ⟨pz, x, rfl, hz, hpz, hn, hF, hT, hb2⟩
  have z2 := hb2.size
  have hI := (hz.b.bud x (by simp)).2
  have E2 := ((HE.out.go hb1).go hb2).up (B' := w1.heap.size) (by omega) z2
  have TA := ztake_any pz 0 0 0 [[0]] [x] 0 0 false w2 E2 hz (by simp)
  rw [zoned_take hF hT] at TA
  have HT := Lib.hid TA; have SU := Lib.hid (zoned_sum hI hF); have HZ := Lib.hid hz
  clear TA hz hI E2 hn hF hT
  unfold TakePost plV at HT
  simp only [errV] at HT
  go_wp2_with fail
  refine HT.out.mono ?_
  rintro e w3 ⟨rfl, hz3, hk3⟩
  have hb3 : Below w.heap.size w w3 := (hb1.trans (hb2.mono z1)).trans ((HZ.out.belowK z2 hk3).mono z1)
  have z3 := hk3.size
  have b0 : Below w3.heap.size w3 (w3.alloc (.cells #[.int .i64 0, .int .i64 2, .int .i64 0] 41)) := (by repeat (first | exact Below.refl _ _ | refine Below.drew ?_ | refine below_drewN ?_ _ | refine Below.trans ?_ (Below.mono (by assumption) (by first | omega | (simp; omega) | (simp; done))) | refine Below.alloc ?_ (by first | omega | (simp; omega) | (simp; done)) _ | refine Below.setCell ?_ (by first | omega | (simp; omega) | (simp; done)) _))
  have FR := zfree_ok pz 0 0 0 [[0]] [tookN 0 (2, 0) x] 0 (tookN 0 (2, 0) x) _ (hz3.below b0) rfl
  rw [SU.out] at FR
  have HF := Lib.hid FR
  have M := Lib.hid (LocN.mk_ w3 [.int .i64 0, .int .i64 2, .int .i64 0] 41 rfl)
  clear FR hz3 HT
  go_wp2_with fail
  refine HF.out.mono ?_
  rintro e w4 ⟨rfl, hb4⟩
  have M4 := M.out.go hb4
  have m0 := M4.c 0 _ rfl; have m1 := M4.c 1 _ rfl; have m2 := M4.c 2 _ rfl; have ml := M4.lt
  clear M4 HF M
  go_wp2
  go_ret
  exact ⟨rfl, hb3.trans ((b0.trans (hb4.mono (by simp))).mono (by omega))⟩
end Go.Proofs.YtcokmiidgdmdlaaGreatDoor

namespace Go.Proofs.YtcokmiidgdmdlaaGreatDoor
open Go.RowKit
set_option linter.unusedSimpArgs false
set_option linter.unusedVariables false

set_option maxHeartbeats 1000000 in
theorem sameInts_yes {X Y : List Nat} (v v' : Value) (xs : List Int) (w : World) (h : RowV X w v (ints xs)) (h' : RowV Y w v' (ints xs)) :
    Calls Tryz.prog 22 #[v, v'] w fun e w' => e = .returned (.bool true) ∧ Below w.heap.size w w' := by
  obtain ⟨p, cap, rfl, h1, h2, h3⟩ := h.int
  obtain ⟨p', cap', rfl, h1', h2', h3'⟩ := h'.int
  have HA := Lib.hid h3; have HB := Lib.hid h3'
  obtain ⟨n, hn⟩ : ∃ n, n = xs.length := ⟨_, rfl⟩
  have EN := Lib.hid hn
  rw [← hn] at h1 h1' ⊢
  unfold maxLen at h2 h2'
  clear h h' h3 h3' hn
  go_enter Tryz.func22, Tryz.ntmps22
  go_wp2_with fail
  go_loopw [5] (fun iv wr => ∃ i : Nat, i ≤ n ∧ iv = .int .i64 i ∧ Below w.heap.size w wr) (fun iv _ => n - (intOf iv).toNat)
  case atStart => exact ⟨0, Nat.zero_le _, by go_num, Below.refl _ _⟩
  case round =>
    obtain ⟨i, hi, rfl, hbel⟩ := hrel
    by_cases hlt : i < n
    · obtain ⟨x, hx⟩ : ∃ x, xs[i]? = some x := ⟨xs[i]'(by rw [← EN.out]; exact hlt), List.getElem?_eq_getElem _⟩
      obtain ⟨g, off, rfl, _, hg, hc⟩ := HA.out i x hx
      obtain ⟨g', off', rfl, _, hg', hc'⟩ := HB.out i x hx
      have r1 := (hbel.cell (p := ⟨g, off + i, none⟩) hg).trans hc
      have r2 := (hbel.cell (p := ⟨g', off' + i, none⟩) hg').trans hc'
      have zr := hbel.size
      have l1 : g < wr.heap.size := by omega
      have l2 : g' < wr.heap.size := by omega
      have i0 : (0 : Int) ≤ (i : Int) := by omega
      have i1 : (i : Int) < (n : Int) := by omega
      clear hx hc hc'
      go_wp2_with fail
      go_quiet (fail)
      go_wp2
      go_roundw
      case rel => exact ⟨i + 1, by omega, by go_num, below_drewN hbel _⟩
      case measure => simp [intOf]; omega
    · go_wp2
      go_ret
      exact ⟨rfl, hbel⟩

set_option maxHeartbeats 1000000 in
theorem order_node {B : Nat} {ev : Nat → Addr} (X : List Nat) (vP vN : Value) (P : List Int) (N : List (List Int)) (mn lw hi node : Int) (w : World) (hE : ErrC B ev w) (h : Cfg X w vP vN P N) (hc : cfgE P N mn lw hi = 0) (hn : node < 0 ∨ (P.length : Int) ≤ node) :
    Calls Tryz.prog 20 #[.agg #[vP, vN, .int .i64 mn, .int .i64 lw, .int .i64 hi], .int .i64 node] w fun e w' => e = .returned (.tuple #[.slice none 0 0, errV ev 2]) ∧ Below w.heap.size w w' := by
  have hB := hE.size
  obtain ⟨p, cap, rfl, hcp, hmx, _⟩ := h.p.int
  obtain ⟨q, k, rfl, hck, hkm, _⟩ := h.n.form
  have hb0 : Below w.heap.size w ((w.alloc (.cells [.slice p P.length cap, .slice q N.length k, .int .i64 mn, .int .i64 lw, .int .i64 hi].toArray 36)).alloc (.cells #[.int .i64 node] 3)) := (by repeat (first | exact Below.refl _ _ | refine Below.drew ?_ | refine below_drewN ?_ _ | refine Below.trans ?_ (Below.mono (by assumption) (by first | omega | (simp; omega) | (simp; done))) | refine Below.alloc ?_ (by first | omega | (simp; omega) | (simp; done)) _ | refine Below.setCell ?_ (by first | omega | (simp; omega) | (simp; done)) _))
  have L0 := Lib.hid ((LocN.mk_ w [.slice p P.length cap, .slice q N.length k, .int .i64 mn, .int .i64 lw, .int .i64 hi] 36 rfl).past (.cells #[.int .i64 node] 3))
  have L1 := Lib.hid (LocN.mk_ (w.alloc (.cells [.slice p P.length cap, .slice q N.length k, .int .i64 mn, .int .i64 lw, .int .i64 hi].toArray 36)) [.int .i64 node] 3 (b := w.heap.size + 1) (by simp))
  have CH := check_any X _ _ P N mn lw hi _ (hE.below (hb0.mono hB)) (h.below hb0)
  rw [hc, show errV ev 0 = Value.nilIface from rfl] at CH
  have CH' := Lib.hid CH
  have HE := Lib.hid hE; have HB0 := Lib.hid hb0
  have e1 : errV ev 2 = .iface 291 (.pointer (some (ev 2))) := rfl
  rw [e1]
  unfold maxLen at hmx hkm
  clear CH h hc hE hb0 e1
  by_cases h0 : node < 0
  · have d0 : decide (node < 0) = true := decide_eq_true h0
    clear h0 hn
    go_enter Tryz.func20, Tryz.ntmps20
    go_wp2_with fail
    refine CH'.out.mono ?_
    rintro e w1 ⟨rfl, hb1⟩
    have K1 : Below w.heap.size w w1 := HB0.out.trans (hb1.mono (by simp; omega))
    have E1 := HE.out.go K1
    have g2 := E1.c2; have z2 := E1.z2
    have m1 := (L1.out.go hb1).c 0 _ rfl; have ml := (L1.out.go hb1).lt
    clear E1
    go_wp2_with fail
    go_quiet (fail)
    go_wp2
    go_ret2
    exact ⟨rfl, below_drewN K1 _⟩
  · have h1 : (P.length : Int) ≤ node := by omega
    have d0 : decide (node < 0) = false := decide_eq_false h0
    have d1 : decide ((P.length : Int) ≤ node) = true := decide_eq_true h1
    clear h0 hn h1
    go_enter Tryz.func20, Tryz.ntmps20
    go_wp2_with fail
    refine CH'.out.mono ?_
    rintro e w1 ⟨rfl, hb1⟩
    have K1 : Below w.heap.size w w1 := HB0.out.trans (hb1.mono (by simp; omega))
    have E1 := HE.out.go K1
    have g2 := E1.c2; have z2 := E1.z2
    have m1 := (L1.out.go hb1).c 0 _ rfl; have ml := (L1.out.go hb1).lt
    have a0 := (L0.out.go hb1).c 0 _ rfl; have al := (L0.out.go hb1).lt
    clear E1
    go_wp2_with fail
    go_quiet (fail)
    go_wp2
    go_ret2
    exact ⟨rfl, below_drewN K1 _⟩
end Go.Proofs.YtcokmiidgdmdlaaGreatDoor
