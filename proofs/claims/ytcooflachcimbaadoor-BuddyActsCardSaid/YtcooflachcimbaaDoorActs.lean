/- The statement BuddyActs: its walk. -/
import Derived.Test.YtcooflachcimbaaDoorBoth
import Derived.Test.YtcooflachcimbaaDoorBudH
import Derived.Test.YtcooflachcimbaaDoorRowA
import Derived.Test.YtcooflachcimbaaDoorCode
import Derived.IntWalk
namespace Go.Proofs.YtcooflachcimbaaDoor
open Go.RowKit Go.Maps
set_option linter.unusedSimpArgs false
set_option linter.unusedVariables false

/-- an act in a local variable -/
structure LocA (w : World) (b : Nat) (s : ByteArray) (n a k : Int) : Prop where
  lt : b < w.heap.size
  c0 : w.cell? ⟨b, 0, none⟩ = some (.string s)
  c1 : w.cell? ⟨b, 1, none⟩ = some (.int .i64 n)
  c2 : w.cell? ⟨b, 2, none⟩ = some (.int .i64 a)
  c3 : w.cell? ⟨b, 3, none⟩ = some (.int .i64 k)
theorem LocA.keep {S : List Nat} {w w' : World} {b : Nat} {s : ByteArray} {n a m : Int} (h : LocA w b s n a m) (k : Keep S w w') (hb : b ∉ S) : LocA w' b s n a m :=
  ⟨Nat.lt_of_lt_of_le h.lt k.size, (k.cell h.lt hb).trans h.c0, (k.cell h.lt hb).trans h.c1, (k.cell h.lt hb).trans h.c2, (k.cell h.lt hb).trans h.c3⟩
theorem LocA.new (w : World) (s : ByteArray) (n a m : Int) (t : TypeId) : LocA (w.alloc (.cells #[.string s, .int .i64 n, .int .i64 a, .int .i64 m] t)) w.heap.size s n a m :=
  ⟨by simp, by rw [World.cell?_alloc_at _ _ _ _ (by simp)]; rfl, by rw [World.cell?_alloc_at _ _ _ _ (by simp)]; rfl, by rw [World.cell?_alloc_at _ _ _ _ (by simp)]; rfl, by rw [World.cell?_alloc_at _ _ _ _ (by simp)]; rfl⟩

/-- the law's memory in a round: the act's own variable bx; both buddies; what was there before the call is as it was -/
structure ActSt (w0 : World) (bx : Nat) (s : ByteArray) (an aa ak : Int) (Y : List Nat) (pm pb : Nat) (n : Int) (F T F' T' : List (Int × Int)) (w : World) : Prop where
  bel : Below w0.heap.size w0 w
  loc : LocA w bx s an aa ak
  both : Both w0.heap.size Y w pm pb n F T F' T'
  ne : bx ∉ Y
section
variable {w0 w w' : World} {bx : Nat} {s : ByteArray} {an aa ak : Int} {Y : List Nat} {pm pb : Nat} {n : Int} {F T F' T' F1 T1 F1' T1' : List (Int × Int)} {ev : Nat → Addr}
theorem ActSt.step (h : ActSt w0 bx s an aa ak Y pm pb n F T F' T' w) (k : Keep Y w w') (b : Both w0.heap.size Y w' pm pb n F1 T1 F1' T1') : ActSt w0 bx s an aa ak Y pm pb n F1 T1 F1' T1' w' :=
  ⟨h.bel.trans (k.below h.bel.size fun y hy => (h.both.lim y hy).1), h.loc.keep k h.ne, b, h.ne⟩
theorem ActSt.go (h : ActSt w0 bx s an aa ak Y pm pb n F T F' T' w) (k : Below w.heap.size w w') : ActSt w0 bx s an aa ak Y pm pb n F T F' T' w' :=
  h.step (Keep.of k) (h.both.below k)
theorem ActSt.drew (h : ActSt w0 bx s an aa ak Y pm pb n F T F' T' w) : ActSt w0 bx s an aa ak Y pm pb n F T F' T' w.drew := h.go (Below.refl _ _).drew
theorem ActSt.errs (h : ActSt w0 bx s an aa ak Y pm pb n F T F' T' w) (hE : Errs w0.heap.size ev w0) : Errs w0.heap.size ev w := hE.below h.bel
theorem ActSt.fresh (h : ActSt w0 bx s an aa ak Y pm pb n F T F' T' w) {m : Nat} (hm : w.heap.size ≤ m) : m ∉ Y := fun q => by have := (h.both.lim _ q).2; omega
theorem s_coded (i : Nat) (m : Int) (hE : Errs w0.heap.size ev w0) (i2 : i ≤ 10) (hm : (i : Int) = m) (F T F' T' : List (Int × Int)) (w : World) (h : ActSt w0 bx s an aa ak Y pm pb n F T F' T' w) :
    Calls Tryd.prog 17 #[errV ev i, .int .i64 m] w fun e w' => e = .returned (.bool true) ∧ ActSt w0 bx s an aa ak Y pm pb n F T F' T' w' :=
  (coded_at i m w (h.errs hE) i2 hm).mono fun e w' ⟨r1, r2⟩ => ⟨r1, h.go r2⟩
theorem sp_give_no (hE : Errs w0.heap.size ev w0) (hm : (aa, ak) ∉ T) (ha : (Lit.int .i64 aa).wf = true) (F' T' : List (Int × Int)) (w : World) (h : ActSt w0 bx s an aa ak Y pm pb n F T F' T' w) :
    Calls Tryd.prog 36 #[.pointer (some ⟨pb, 0, none⟩), .agg #[.int .i64 aa, .int .i64 ak]] w fun e w' => e = .returned (errV ev 4) ∧ ActSt w0 bx s an aa ak Y pm pb n F T F' T' w' :=
  (b_give_no aa ak w (h.errs hE).c h.both ha hm).mono fun e w' ⟨r1, r2, r3⟩ => ⟨r1, h.step r3 r2⟩
theorem sr_give_no (hm : (aa, ak) ∉ T') (F T : List (Int × Int)) (w : World) (h : ActSt w0 bx s an aa ak Y pm pb n F T F' T' w) :
    Calls Tryd.prog 41 #[.pointer (some ⟨pm, 0, none⟩), .agg #[.int .i64 aa, .int .i64 ak]] w fun e w' => e = .returned (.int .i64 4) ∧ ActSt w0 bx s an aa ak Y pm pb n F T F' T' w' :=
  (r_give_no aa ak w h.both hm).mono fun e w' ⟨r1, r2, r3⟩ => ⟨r1, h.step r3 r2⟩
theorem sp_give_ok (hE : Errs w0.heap.size ev w0) (hm : (aa, ak) ∈ T) (F' T' : List (Int × Int)) (w : World) (h : ActSt w0 bx s an aa ak Y pm pb n F T F' T' w) :
    Calls Tryd.prog 36 #[.pointer (some ⟨pb, 0, none⟩), .agg #[.int .i64 aa, .int .i64 ak]] w fun e w' => e = .returned (.nilIface) ∧ ActSt w0 bx s an aa ak Y pm pb n (giveF aa ak F) (delL aa T) F' T' w' :=
  (b_give_ok aa ak w (h.errs hE).c h.both hm).mono fun e w' ⟨r1, r2, r3⟩ => ⟨r1, h.step r3 r2⟩
theorem sr_give_ok (hm : (aa, ak) ∈ T') (F T : List (Int × Int)) (w : World) (h : ActSt w0 bx s an aa ak Y pm pb n F T F' T' w) :
    Calls Tryd.prog 41 #[.pointer (some ⟨pm, 0, none⟩), .agg #[.int .i64 aa, .int .i64 ak]] w fun e w' => e = .returned (.int .i64 0) ∧ ActSt w0 bx s an aa ak Y pm pb n F T (giveF aa ak F') (delL aa T') w' :=
  (r_give_ok aa ak w h.both hm).mono fun e w' ⟨r1, r2, r3⟩ => ⟨r1, h.step r3 r2⟩
theorem sp_split_no (hE : Errs w0.heap.size ev w0) (hm : (aa, ak) ∉ T) (ha : (Lit.int .i64 aa).wf = true) (F' T' : List (Int × Int)) (w : World) (h : ActSt w0 bx s an aa ak Y pm pb n F T F' T' w) :
    Calls Tryd.prog 37 #[.pointer (some ⟨pb, 0, none⟩), .agg #[.int .i64 aa, .int .i64 ak]] w fun e w' => e = .returned (errV ev 4) ∧ ActSt w0 bx s an aa ak Y pm pb n F T F' T' w' :=
  (b_split_no aa ak w (h.errs hE).c h.both ha hm).mono fun e w' ⟨r1, r2, r3⟩ => ⟨r1, h.step r3 r2⟩
theorem sr_split_no (hm : (aa, ak) ∉ T') (F T : List (Int × Int)) (w : World) (h : ActSt w0 bx s an aa ak Y pm pb n F T F' T' w) :
    Calls Tryd.prog 42 #[.pointer (some ⟨pm, 0, none⟩), .agg #[.int .i64 aa, .int .i64 ak]] w fun e w' => e = .returned (.int .i64 4) ∧ ActSt w0 bx s an aa ak Y pm pb n F T F' T' w' :=
  (r_split_no aa ak w h.both hm).mono fun e w' ⟨r1, r2, r3⟩ => ⟨r1, h.step r3 r2⟩
theorem sp_split_shape (hE : Errs w0.heap.size ev w0) (hm : (aa, 0) ∈ T) (F' T' : List (Int × Int)) (w : World) (h : ActSt w0 bx s an aa 0 Y pm pb n F T F' T' w) :
    Calls Tryd.prog 37 #[.pointer (some ⟨pb, 0, none⟩), .agg #[.int .i64 aa, .int .i64 0]] w fun e w' => e = .returned (errV ev 3) ∧ ActSt w0 bx s an aa 0 Y pm pb n F T F' T' w' :=
  (b_split_shape aa w (h.errs hE).c h.both hm).mono fun e w' ⟨r1, r2, r3⟩ => ⟨r1, h.step r3 r2⟩
theorem sr_split_shape (hm : (aa, 0) ∈ T') (F T : List (Int × Int)) (w : World) (h : ActSt w0 bx s an aa 0 Y pm pb n F T F' T' w) :
    Calls Tryd.prog 42 #[.pointer (some ⟨pm, 0, none⟩), .agg #[.int .i64 aa, .int .i64 0]] w fun e w' => e = .returned (.int .i64 3) ∧ ActSt w0 bx s an aa 0 Y pm pb n F T F' T' w' :=
  (r_split_shape aa w h.both hm).mono fun e w' ⟨r1, r2, r3⟩ => ⟨r1, h.step r3 r2⟩
theorem sp_split_ok (hE : Errs w0.heap.size ev w0) (hm : (aa, ak) ∈ T) (k1 : 1 ≤ ak) (F' T' : List (Int × Int)) (w : World) (h : ActSt w0 bx s an aa ak Y pm pb n F T F' T' w) :
    Calls Tryd.prog 37 #[.pointer (some ⟨pb, 0, none⟩), .agg #[.int .i64 aa, .int .i64 ak]] w fun e w' => e = .returned (.nilIface) ∧ ActSt w0 bx s an aa ak Y pm pb n F (putL (aa + sz (ak - 1)) (ak - 1) (putL aa (ak - 1) T)) F' T' w' :=
  (b_split_ok aa ak w (h.errs hE).c h.both hm k1).mono fun e w' ⟨r1, r2, r3⟩ => ⟨r1, h.step r3 r2⟩
theorem sr_split_ok (hm : (aa, ak) ∈ T') (k1 : 1 ≤ ak) (F T : List (Int × Int)) (w : World) (h : ActSt w0 bx s an aa ak Y pm pb n F T F' T' w) :
    Calls Tryd.prog 42 #[.pointer (some ⟨pm, 0, none⟩), .agg #[.int .i64 aa, .int .i64 ak]] w fun e w' => e = .returned (.int .i64 0) ∧ ActSt w0 bx s an aa ak Y pm pb n F T F' (putL (aa + sz (ak - 1)) (ak - 1) (putL aa (ak - 1) T')) w' :=
  (r_split_ok aa ak w h.both hm k1).mono fun e w' ⟨r1, r2, r3⟩ => ⟨r1, h.step r3 r2⟩
end

set_option maxHeartbeats 1000000 in
set_option maxRecDepth 100000 in
theorem buddyActs_far {B : Nat} {ev : Nat → Addr} (n : Int) (v : Value) (xs : List ActD) (w : World) (hE : Errs B ev w) (hv : RowA w v xs) (h : 100 < xs.length) :
    Calls Tryd.prog 10 #[.int .i64 n, v] w fun e w' => e = .returned (.bool true) ∧ Below w.heap.size w w' := by
  obtain ⟨p, cap, rfl, _⟩ := hv
  go_enter Tryd.func10, Tryd.ntmps10
  go_wp2_with fail
  refine (paired_yes w hE.c).mono ?_
  rintro e w1 ⟨rfl, hb1⟩
  go_wp2
  go_ret
  exact ⟨rfl, hb1⟩

set_option maxHeartbeats 1000000 in
set_option maxRecDepth 100000 in
theorem buddyActs_bound {B : Nat} {ev : Nat → Addr} (n : Int) (v : Value) (xs : List ActD) (w : World) (hE : Errs B ev w) (hv : RowA w v xs) (h1 : xs.length ≤ 100) (h : n < 1 ∨ 256 < n) :
    Calls Tryd.prog 10 #[.int .i64 n, v] w fun e w' => e = .returned (.bool true) ∧ Below w.heap.size w w' := by
  obtain ⟨p, cap, rfl, _⟩ := hv
  have NE := Lib.hid (fun w hE => new_err (B := B) (ev := ev) n w hE h)
  rcases (show n < 1 ∨ (¬ n < 1 ∧ 256 < n) by omega) with d | ⟨d, d2⟩
  all_goals
    clear h
    go_enter Tryd.func10, Tryd.ntmps10
    go_wp2_with fail
    refine (paired_yes w hE.c).mono ?_
    rintro e w1 ⟨rfl, hb1⟩
    have z1 := hb1.size
    have hE1 := hE.go hb1
    go_wp2_with fail
    refine (NE.out w1 hE1.c).mono ?_
    rintro e w2 ⟨rfl, hb2⟩
    have z2 := hb2.size
    have hE2 := hE1.go hb2
    clear NE
    go_wp2_with fail
    refine (coded_at 2 2 w2 hE2 (by decide) rfl).mono ?_
    rintro e w3 ⟨rfl, hb3⟩
    go_wp2
    go_ret
    exact ⟨by simp, hb1.trans ((hb2.mono z1).trans (hb3.mono (by omega)))⟩

set_option maxHeartbeats 16000000 in
set_option maxRecDepth 100000 in
theorem buddyActs_yes {ev : Nat → Addr} (n : Int) (v : Value) (xs : List ActD) (w : World) (hE : Errs w.heap.size ev w) (hv : RowA w v xs) (h1 : xs.length ≤ 100) (n1 : 1 ≤ n) (n2 : n ≤ 256) :
    Calls Tryd.prog 10 #[.int .i64 n, v] w fun e w' => e = .returned (.bool true) ∧ Below w.heap.size w w' := by
  obtain ⟨p, cap, rfl, hc⟩ := hv
  have C := Lib.hid hc
  have NEW := Lib.hid (fun w => new_ok n w n1 n2)
  have RNEW := Lib.hid (fun (X : List Nat) w hX => newBuddy_ok (X := X) n w n1 n2 hX)
  have I0 := Lib.hid (Inv.start n1 n2)
  obtain ⟨NX, hNX⟩ : ∃ m, m = xs.length := ⟨_, rfl⟩
  rw [← hNX] at h1 ⊢
  have HNX := Lib.hid hNX
  clear hc hNX
  go_enter Tryd.func10, Tryd.ntmps10
  go_wp2_with fail
  refine (paired_yes w hE.c).mono ?_
  rintro e w1 ⟨rfl, hb1⟩
  have z1 := hb1.size
  go_wp2_with fail
  refine (NEW.out w1).mono ?_
  rintro e w2 ⟨pb, bf, bt, rfl, hbud, ⟨g1, g2, g3⟩, hb2⟩
  have z2 := hb2.size
  have K2 : Below w.heap.size w w2 := hb1.trans (hb2.mono z1)
  have BU2 := Lib.hid hbud
  have ltf := hbud.ltf; have ltt := hbud.ltt; have ltp := hbud.ltp
  clear hbud NEW
  go_wp2_with fail
  refine (RNEW.out [bf, bt] w2 (by simp; exact ⟨ltf, ltt⟩)).mono ?_
  rintro e w3 ⟨pm, vF, rfl, hrb, g4, hb3⟩
  have z3 := hb3.size
  have K3 : Below w.heap.size w w3 := K2.trans (hb3.mono (by omega))
  have BO3 : Hid (Both w.heap.size [pm, bf, bt] w3 pm pb n (covL 0 n) [] (covL 0 n) []) :=
    ⟨⟨bf, bt, _, _, BU2.out.below hb3, hrb, by simp, by omega, by omega⟩, by have e := BU2.out.ne; simp; exact ⟨by omega, e.2.1, e.2.2⟩, fun y hy => by have := hrb.lt; simp at hy; rcases hy with rfl | rfl | rfl <;> omega, I0.out, I0.out⟩
  clear hrb RNEW
  go_wp2_with fail
  go_loopw [6, 9] (fun bv iv wr => ∃ (j pb : Nat) (Y : List Nat) (F T : List (Int × Int)), j ≤ NX ∧ iv = .int .i64 j ∧ bv = .pointer (some ⟨pb, 0, none⟩) ∧ Hid (Both w.heap.size Y wr pm pb n F T F T) ∧ Below w.heap.size w wr) (fun _ iv _ => NX - (intOf iv).toNat)
  case atStart => exact ⟨0, pb, _, _, _, Nat.zero_le _, rfl, rfl, BO3, K3⟩
  case round =>
    obtain ⟨j, pb, Y, F, T, hj, rfl, rfl, BO, hbel⟩ := hrel
    clear BO3 BU2 I0 ltf ltt ltp
    have zr := hbel.size
    by_cases hlt : j < NX
    · obtain ⟨x, hx⟩ : ∃ x, xs[j]? = some x := ⟨xs[j]'(by rw [← HNX.out]; exact hlt), List.getElem?_eq_getElem _⟩
      obtain ⟨g, off, rfl, hg, q0, q1, q2, q3, s0, s1, s2, s3⟩ := C.out j x hx
      have r0 := (hbel.cell (p := ⟨g, off + j * 4, none⟩) hg).trans q0
      have r1 := (hbel.cell (p := ⟨g, off + j * 4 + 1, none⟩) hg).trans q1
      have r2 := (hbel.cell (p := ⟨g, off + j * 4 + 2, none⟩) hg).trans q2
      have r3 := (hbel.cell (p := ⟨g, off + j * 4 + 3, none⟩) hg).trans q3
      have gr : g < wr.heap.size := by omega
      obtain ⟨kd, an, aa, ak⟩ := x
      simp only at r0 r1 r2 r3 s0 s1 s2 s3
      clear q0 q1 q2 q3 hx
      have hYr : wr.heap.size ∉ Y := fun q => by have := (BO.out.lim _ q).2; omega
      have eb := eqB; have nb := neqB; have gb := guardB
      have STa := Lib.hid (show ActSt w wr.heap.size kd an aa ak Y pm pb n F T F T (wr.alloc (.cells #[.string kd, .int .i64 an, .int .i64 aa, .int .i64 ak] 71)) from
        ⟨(by repeat (first | exact Below.refl _ _ | refine Below.drew ?_ | refine below_drewN ?_ _ | refine Below.trans ?_ (Below.mono (by assumption) (by first | omega | (simp; omega) | (simp; done))) | refine Below.alloc ?_ (by first | omega | (simp; omega) | (simp; done)) _ | refine Below.setCell ?_ (by first | omega | (simp; omega) | (simp; done)) _)), LocA.new _ _ _ _ _ _, BO.out.below (by repeat (first | exact Below.refl _ _ | refine Below.drew ?_ | refine below_drewN ?_ _ | refine Below.trans ?_ (Below.mono (by assumption) (by first | omega | (simp; omega) | (simp; done))) | refine Below.alloc ?_ (by first | omega | (simp; omega) | (simp; done)) _ | refine Below.setCell ?_ (by first | omega | (simp; omega) | (simp; done)) _)), hYr⟩)
      have haw : Hid ((Lit.int .i64 aa).wf = true) := by obtain ⟨u1, u2⟩ := s2; simp [Hid, Lit.wf, IntKind.min, IntKind.max, IntKind.signed, IntKind.bits]; omega
      clear hYr
      go_wp2_with fail
      all_goals
        clear r0 r1 r2 r3 BO hbel
        obtain ⟨bx, hbx⟩ : ∃ bx, bx = wr.heap.size := ⟨_, rfl⟩
        obtain ⟨wa, hwa⟩ : ∃ wa, wa = wr.alloc (.cells #[.string kd, .int .i64 an, .int .i64 aa, .int .i64 ak] 71) := ⟨_, rfl⟩
        rw [← hwa, ← hbx] at STa
        rw [← hwa]
        try rw [← hbx]
        have a1 := STa.out.loc.c1; have a2 := STa.out.loc.c2; have a3 := STa.out.loc.c3; have al := STa.out.loc.lt
        have za := STa.out.bel.size
        clear hwa hbx gr
      · by_cases ho : 0 ≤ an ∧ an ≤ 6
        · cases hb : bestL an F with
          | none =>
            have BT := Lib.hid (b_take_no an wa (STa.out.errs hE).d STa.out.both ho.1 ho.2 hb)
            have RT := Lib.hid (fun w0 Y w h => r_take_no (B := w0) (Y := Y) (pm := pm) (pb := pb) (n := n) (F := F) (T := T) (F' := F) (T' := T) an w h ho.1 hb)
            clear hb
            refine BT.out.mono ?_
            rintro e w5 ⟨rfl, bo5, hb5⟩
            have ST5 := STa.out.step (Keep.of hb5) bo5
            have z5 := hb5.size
            have X6 := Loc2.new w5 0 0 23
            have ST6 := Lib.hid (ST5.go (w' := w5.alloc (.cells #[.int .i64 0, .int .i64 0] 23)) (by repeat (first | exact Below.refl _ _ | refine Below.drew ?_ | refine below_drewN ?_ _ | refine Below.trans ?_ (Below.mono (by assumption) (by first | omega | (simp; omega) | (simp; done))) | refine Below.alloc ?_ (by first | omega | (simp; omega) | (simp; done)) _ | refine Below.setCell ?_ (by first | omega | (simp; omega) | (simp; done)) _)))
            have b1 := ST5.loc.c1; have bl := ST5.loc.lt
            clear ST5 bo5 BT a1
            go_wp2_with (go_at_call 20; refine (isOrder_yes an _ ho).mono ?_; rintro e w' ⟨rfl, rfl⟩)
            refine (RT.out _ _ _ ST6.out.both).mono ?_
            rintro e w7 ⟨rfl, bo7, hb7⟩
            have ST7 := ST6.out.step (Keep.of hb7) bo7
            have X7 := X6.below hb7 (by simp)
            have z7 := hb7.size
            simp at z7
            have ST8 := Lib.hid (ST7.go (w' := w7.alloc (.cells #[.int .i64 0, .int .i64 0] 23)) (by repeat (first | exact Below.refl _ _ | refine Below.drew ?_ | refine below_drewN ?_ _ | refine Below.trans ?_ (Below.mono (by assumption) (by first | omega | (simp; omega) | (simp; done))) | refine Below.alloc ?_ (by first | omega | (simp; omega) | (simp; done)) _ | refine Below.setCell ?_ (by first | omega | (simp; omega) | (simp; done)) _)))
            clear ST6 ST7 bo7 RT X6
            go_wp2_with fail
            refine (coded_at 5 5 _ (ST8.out.errs hE) (by decide) rfl).mono ?_
            rintro e w9 ⟨rfl, hb9⟩
            have z9 := hb9.size
            simp at z9
            have X9 := X7.below (w' := w9) (n := w7.heap.size) (Below.trans (by repeat (first | exact Below.refl _ _ | refine Below.drew ?_ | refine below_drewN ?_ _ | refine Below.trans ?_ (Below.mono (by assumption) (by first | omega | (simp; omega) | (simp; done))) | refine Below.alloc ?_ (by first | omega | (simp; omega) | (simp; done)) _ | refine Below.setCell ?_ (by first | omega | (simp; omega) | (simp; done)) _)) (hb9.mono (by simp))) X7.lt
            have ST9 := Lib.hid (ST8.out.go hb9)
            have x0 := X9.c0; have x1 := X9.c1; have xl := X9.lt
            clear ST8 X7 X9 hb9
            go_wp2_with fail
            refine (as_both w9 ST9.out.both).mono ?_
            rintro e w20 ⟨rfl, hb20⟩
            have ST20 := Lib.hid (ST9.out.go hb20)
            clear hb20
            go_wp2
            go_roundw
            case rel => exact ⟨j + 1, pb, Y, _, _, by omega, by go_num, rfl, Lib.hid ST20.out.both, ST20.out.bel⟩
            case measure => simp [intOf]; omega
          | some x =>
            obtain ⟨x0, x1⟩ := x
            have BT := Lib.hid (b_take_ok an (x0, x1) wa (STa.out.errs hE).c STa.out.both ho.1 ho.2 hb)
            have RT := Lib.hid (fun w0 Y F1 T1 w h => r_take_ok (B := w0) (Y := Y) (pm := pm) (pb := pb) (n := n) (F := F1) (T := T1) (F' := F) (T' := T) an (x0, x1) w h ho.1 hb)
            clear hb
            refine BT.out.mono ?_
            rintro e w5 ⟨rfl, bo5, k5⟩
            have ST5 := STa.out.step k5 bo5
            have z5 := k5.size
            have X6 := Loc2.new w5 x0 an 23
            have ST6 := Lib.hid (ST5.go (w' := w5.alloc (.cells #[.int .i64 x0, .int .i64 an] 23)) (by repeat (first | exact Below.refl _ _ | refine Below.drew ?_ | refine below_drewN ?_ _ | refine Below.trans ?_ (Below.mono (by assumption) (by first | omega | (simp; omega) | (simp; done))) | refine Below.alloc ?_ (by first | omega | (simp; omega) | (simp; done)) _ | refine Below.setCell ?_ (by first | omega | (simp; omega) | (simp; done)) _)))
            have b1 := ST5.loc.c1; have bl := ST5.loc.lt
            clear ST5 bo5 BT a1
            go_wp2_with (go_at_call 20; refine (isOrder_yes an _ ho).mono ?_; rintro e w' ⟨rfl, rfl⟩)
            refine (RT.out _ _ _ _ _ ST6.out.both).mono ?_
            rintro e w7 ⟨rfl, bo7, k7⟩
            have ST7 := Lib.hid (ST6.out.step k7 bo7)
            have X7 := X6.keep k7 (STa.out.fresh z5)
            have z7 := k7.size
            simp at z7
            have xc0 := X7.c0; have xc1 := X7.c1; have xl := X7.lt
            have ST8 := Lib.hid (ST7.out.go (w' := w7.alloc (.cells #[.int .i64 x0, .int .i64 an] 23)) (by repeat (first | exact Below.refl _ _ | refine Below.drew ?_ | refine below_drewN ?_ _ | refine Below.trans ?_ (Below.mono (by assumption) (by first | omega | (simp; omega) | (simp; done))) | refine Below.alloc ?_ (by first | omega | (simp; omega) | (simp; done)) _ | refine Below.setCell ?_ (by first | omega | (simp; omega) | (simp; done)) _)))
            clear ST6 ST7 bo7 RT X6 X7
            go_wp2_with fail
            refine (as_both _ ST8.out.both).mono ?_
            rintro e w20 ⟨rfl, hb20⟩
            have ST20 := Lib.hid (ST8.out.go hb20)
            clear hb20
            go_wp2
            go_roundw
            case rel => exact ⟨j + 1, pb, Y, _, _, by omega, by go_num, rfl, Lib.hid ST20.out.both, ST20.out.bel⟩
            case measure => simp [intOf]; omega
        · have BT := Lib.hid (take_bound ⟨pb, 0, none⟩ an wa (STa.out.errs hE).c (by omega))
          refine BT.out.mono ?_
          rintro e w5 ⟨rfl, hb5⟩
          have bo5 := STa.out.both.below hb5
          have ST5 := STa.out.step (Keep.of hb5) bo5
          have z5 := hb5.size
          have X6 := Loc2.new w5 0 0 23
          have ST6 := Lib.hid (ST5.go (w' := w5.alloc (.cells #[.int .i64 0, .int .i64 0] 23)) (by repeat (first | exact Below.refl _ _ | refine Below.drew ?_ | refine below_drewN ?_ _ | refine Below.trans ?_ (Below.mono (by assumption) (by first | omega | (simp; omega) | (simp; done))) | refine Below.alloc ?_ (by first | omega | (simp; omega) | (simp; done)) _ | refine Below.setCell ?_ (by first | omega | (simp; omega) | (simp; done)) _)))
          have b1 := ST5.loc.c1; have bl := ST5.loc.lt
          clear ST5 bo5 BT a1
          go_wp2_with (go_at_call 20; refine (isOrder_no an _ (by omega)).mono ?_; rintro e w' ⟨rfl, rfl⟩)
          refine (coded_at 2 2 _ (ST6.out.errs hE) (by decide) rfl).mono ?_
          rintro e w9 ⟨rfl, hb9⟩
          have z9 := hb9.size
          simp at z9
          have X9 := X6.below hb9 (by simp)
          have ST9 := Lib.hid (ST6.out.go hb9)
          have x0 := X9.c0; have x1 := X9.c1; have xl := X9.lt
          clear ST6 X9 X6 hb9
          go_wp2
          go_roundw
          case rel => exact ⟨j + 1, pb, Y, _, _, by omega, by go_num, rfl, Lib.hid ST9.out.both, ST9.out.bel⟩
          case measure => simp [intOf]; omega
      · by_cases hm : (aa, ak) ∈ T
        · have GP := Lib.hid (sp_give_ok (w0 := w) (bx := bx) (s := kd) (an := an) (Y := Y) (pm := pm) (pb := pb) (n := n) (F := F) (T := T) hE hm)
          have GR := Lib.hid (sr_give_ok (w0 := w) (bx := bx) (s := kd) (an := an) (Y := Y) (pm := pm) (pb := pb) (n := n) (F' := F) (T' := T) hm)
          have CD := Lib.hid (s_coded (w0 := w) (bx := bx) (s := kd) (an := an) (aa := aa) (ak := ak) (Y := Y) (pm := pm) (pb := pb) (n := n) 0 0 hE (by decide) rfl)
          clear hm
          go_region_with (first
            | (go_at_call 36; (first | refine (GP.out _ _ _ STa.out.drew).mono ?_ | refine (GP.out _ _ _ stc).mono ?_); rintro e wb ⟨rfl, stb⟩; have b2 := stb.loc.c2; have b3 := stb.loc.c3; have bl := stb.loc.lt)
            | (go_at_call 41; (first | refine (GR.out _ _ _ STa.out.drew).mono ?_ | refine (GR.out _ _ _ stb).mono ?_); rintro e wc ⟨rfl, stc⟩; have c2 := stc.loc.c2; have c3 := stc.loc.c3; have cl := stc.loc.lt)
            | (go_at_call 17; (first | refine (CD.out _ _ _ _ _ stc).mono ?_ | refine (CD.out _ _ _ _ _ stb).mono ?_); rintro e wd ⟨rfl, std⟩))
          all_goals
            have STD := Lib.hid std
            clear std stb stc GP GR CD
            go_wp2_with fail
            refine (as_both wd STD.out.both).mono ?_
            rintro e w20 ⟨rfl, hb20⟩
            have ST20 := Lib.hid (STD.out.go hb20)
            clear hb20
            go_wp2
            go_roundw
            case rel => exact ⟨j + 1, pb, Y, _, _, by omega, by go_num, rfl, Lib.hid ST20.out.both, ST20.out.bel⟩
            case measure => simp [intOf]; omega
        · have GP := Lib.hid (sp_give_no (w0 := w) (bx := bx) (s := kd) (an := an) (Y := Y) (pm := pm) (pb := pb) (n := n) (F := F) (T := T) hE hm haw.out)
          have GR := Lib.hid (sr_give_no (w0 := w) (bx := bx) (s := kd) (an := an) (Y := Y) (pm := pm) (pb := pb) (n := n) (F' := F) (T' := T) hm)
          have CD := Lib.hid (s_coded (w0 := w) (bx := bx) (s := kd) (an := an) (aa := aa) (ak := ak) (Y := Y) (pm := pm) (pb := pb) (n := n) 4 4 hE (by decide) rfl)
          clear hm
          go_region_with (first
            | (go_at_call 36; (first | refine (GP.out _ _ _ STa.out.drew).mono ?_ | refine (GP.out _ _ _ stc).mono ?_); rintro e wb ⟨rfl, stb⟩; have b2 := stb.loc.c2; have b3 := stb.loc.c3; have bl := stb.loc.lt)
            | (go_at_call 41; (first | refine (GR.out _ _ _ STa.out.drew).mono ?_ | refine (GR.out _ _ _ stb).mono ?_); rintro e wc ⟨rfl, stc⟩; have c2 := stc.loc.c2; have c3 := stc.loc.c3; have cl := stc.loc.lt)
            | (go_at_call 17; (first | refine (CD.out _ _ _ _ _ stc).mono ?_ | refine (CD.out _ _ _ _ _ stb).mono ?_); rintro e wd ⟨rfl, std⟩))
          all_goals
            have STD := Lib.hid std
            clear std stb stc GP GR CD
            go_wp2_with fail
            refine (as_both wd STD.out.both).mono ?_
            rintro e w20 ⟨rfl, hb20⟩
            have ST20 := Lib.hid (STD.out.go hb20)
            clear hb20
            go_wp2
            go_roundw
            case rel => exact ⟨j + 1, pb, Y, _, _, by omega, by go_num, rfl, Lib.hid ST20.out.both, ST20.out.bel⟩
            case measure => simp [intOf]; omega
      · by_cases hm : (aa, ak) ∈ T
        · by_cases k0 : ak = 0
          · subst k0
            have GP := Lib.hid (sp_split_shape (w0 := w) (bx := bx) (s := kd) (an := an) (Y := Y) (pm := pm) (pb := pb) (n := n) (F := F) (T := T) hE hm)
            have GR := Lib.hid (sr_split_shape (w0 := w) (bx := bx) (s := kd) (an := an) (Y := Y) (pm := pm) (pb := pb) (n := n) (F' := F) (T' := T) hm)
            have CD := Lib.hid (s_coded (w0 := w) (bx := bx) (s := kd) (an := an) (aa := aa) (ak := 0) (Y := Y) (pm := pm) (pb := pb) (n := n) 3 3 hE (by decide) rfl)
            clear hm
            go_region_with (first
              | (go_at_call 37; (first | refine (GP.out _ _ _ STa.out.drew).mono ?_ | refine (GP.out _ _ _ stc).mono ?_); rintro e wb ⟨rfl, stb⟩; have b2 := stb.loc.c2; have b3 := stb.loc.c3; have bl := stb.loc.lt)
              | (go_at_call 42; (first | refine (GR.out _ _ _ STa.out.drew).mono ?_ | refine (GR.out _ _ _ stb).mono ?_); rintro e wc ⟨rfl, stc⟩; have c2 := stc.loc.c2; have c3 := stc.loc.c3; have cl := stc.loc.lt)
              | (go_at_call 17; (first | refine (CD.out _ _ _ _ _ stc).mono ?_ | refine (CD.out _ _ _ _ _ stb).mono ?_); rintro e wd ⟨rfl, std⟩))
            all_goals
              have STD := Lib.hid std
              clear std stb stc GP GR CD
              go_wp2_with fail
              refine (as_both wd STD.out.both).mono ?_
              rintro e w20 ⟨rfl, hb20⟩
              have ST20 := Lib.hid (STD.out.go hb20)
              clear hb20
              go_wp2
              go_roundw
              case rel => exact ⟨j + 1, pb, Y, _, _, by omega, by go_num, rfl, Lib.hid ST20.out.both, ST20.out.bel⟩
              case measure => simp [intOf]; omega
          · have k1 : 1 ≤ ak := by have := (STa.out.both.inv.rngT hm).2.2.1; simp only at this; omega
            clear k0
            have GP := Lib.hid (sp_split_ok (w0 := w) (bx := bx) (s := kd) (an := an) (Y := Y) (pm := pm) (pb := pb) (n := n) (F := F) (T := T) hE hm k1)
            have GR := Lib.hid (sr_split_ok (w0 := w) (bx := bx) (s := kd) (an := an) (Y := Y) (pm := pm) (pb := pb) (n := n) (F' := F) (T' := T) hm k1)
            have CD := Lib.hid (s_coded (w0 := w) (bx := bx) (s := kd) (an := an) (aa := aa) (ak := ak) (Y := Y) (pm := pm) (pb := pb) (n := n) 0 0 hE (by decide) rfl)
            clear hm
            go_region_with (first
              | (go_at_call 37; (first | refine (GP.out _ _ _ STa.out.drew).mono ?_ | refine (GP.out _ _ _ stc).mono ?_); rintro e wb ⟨rfl, stb⟩; have b2 := stb.loc.c2; have b3 := stb.loc.c3; have bl := stb.loc.lt)
              | (go_at_call 42; (first | refine (GR.out _ _ _ STa.out.drew).mono ?_ | refine (GR.out _ _ _ stb).mono ?_); rintro e wc ⟨rfl, stc⟩; have c2 := stc.loc.c2; have c3 := stc.loc.c3; have cl := stc.loc.lt)
              | (go_at_call 17; (first | refine (CD.out _ _ _ _ _ stc).mono ?_ | refine (CD.out _ _ _ _ _ stb).mono ?_); rintro e wd ⟨rfl, std⟩))
            all_goals
              have STD := Lib.hid std
              clear std stb stc GP GR CD
              go_wp2_with fail
              refine (as_both wd STD.out.both).mono ?_
              rintro e w20 ⟨rfl, hb20⟩
              have ST20 := Lib.hid (STD.out.go hb20)
              clear hb20
              go_wp2
              go_roundw
              case rel => exact ⟨j + 1, pb, Y, _, _, by omega, by go_num, rfl, Lib.hid ST20.out.both, ST20.out.bel⟩
              case measure => simp [intOf]; omega
        · have GP := Lib.hid (sp_split_no (w0 := w) (bx := bx) (s := kd) (an := an) (Y := Y) (pm := pm) (pb := pb) (n := n) (F := F) (T := T) hE hm haw.out)
          have GR := Lib.hid (sr_split_no (w0 := w) (bx := bx) (s := kd) (an := an) (Y := Y) (pm := pm) (pb := pb) (n := n) (F' := F) (T' := T) hm)
          have CD := Lib.hid (s_coded (w0 := w) (bx := bx) (s := kd) (an := an) (aa := aa) (ak := ak) (Y := Y) (pm := pm) (pb := pb) (n := n) 4 4 hE (by decide) rfl)
          clear hm
          go_region_with (first
            | (go_at_call 37; (first | refine (GP.out _ _ _ STa.out.drew).mono ?_ | refine (GP.out _ _ _ stc).mono ?_); rintro e wb ⟨rfl, stb⟩; have b2 := stb.loc.c2; have b3 := stb.loc.c3; have bl := stb.loc.lt)
            | (go_at_call 42; (first | refine (GR.out _ _ _ STa.out.drew).mono ?_ | refine (GR.out _ _ _ stb).mono ?_); rintro e wc ⟨rfl, stc⟩; have c2 := stc.loc.c2; have c3 := stc.loc.c3; have cl := stc.loc.lt)
            | (go_at_call 17; (first | refine (CD.out _ _ _ _ _ stc).mono ?_ | refine (CD.out _ _ _ _ _ stb).mono ?_); rintro e wd ⟨rfl, std⟩))
          all_goals
            have STD := Lib.hid std
            clear std stb stc GP GR CD
            go_wp2_with fail
            refine (as_both wd STD.out.both).mono ?_
            rintro e w20 ⟨rfl, hb20⟩
            have ST20 := Lib.hid (STD.out.go hb20)
            clear hb20
            go_wp2
            go_roundw
            case rel => exact ⟨j + 1, pb, Y, _, _, by omega, by go_num, rfl, Lib.hid ST20.out.both, ST20.out.bel⟩
            case measure => simp [intOf]; omega
      · have BC := Lib.hid (b_copy wa za STa.out.both)
        refine BC.out.mono ?_
        rintro e w5 ⟨pc, Y', rfl, tr5, hY, hb5⟩
        have K5 := STa.out.bel.trans (hb5.mono za)
        have TR5 := Lib.hid tr5
        have z5 := hb5.size
        clear tr5 BC
        go_wp2_with fail
        refine (t_take 0 w5 (hE.below K5).d TR5.out).mono ?_
        rintro e w6 ⟨r, x, rfl, tr6, k6⟩
        have K6 := K5.trans (k6.below K5.size fun y hy => (TR5.out.lim y hy).1)
        have TR6 := Lib.hid tr6
        clear tr6
        go_wp2_with fail
        refine (t_take 3 w6 (hE.below K6).d TR6.out).mono ?_
        rintro e w7 ⟨r', x', rfl, tr7, k7⟩
        have K7 := K6.trans (k7.below K6.size fun y hy => (TR6.out.lim y hy).1)
        have TR7 := Lib.hid tr7
        clear tr7 TR5 TR6 hY k6 k7
        go_wp2_with fail
        refine (as_both w7 TR7.out.toBoth).mono ?_
        rintro e w20 ⟨rfl, hb20⟩
        have BO20 := Lib.hid (TR7.out.toBoth.below hb20)
        have K20 := K7.trans (hb20.mono K7.size)
        clear hb20
        go_wp2
        go_roundw
        case rel => exact ⟨j + 1, pc, Y', _, _, by omega, by go_num, rfl, BO20, K20⟩
        case measure => simp [intOf]; omega
    · go_wp2
      go_ret
      exact ⟨rfl, hbel⟩

theorem buddyActs_walk {ev : Nat → Addr} (n : Int) (v : Value) (xs : List ActD) (w : World) (hE : Errs w.heap.size ev w) (hv : RowA w v xs) :
    Calls Tryd.prog 10 #[.int .i64 n, v] w fun e w' => e = .returned (.bool true) ∧ Below w.heap.size w w' := by
  by_cases h1 : xs.length ≤ 100
  · by_cases h : n < 1 ∨ 256 < n
    · exact buddyActs_bound n v xs w hE hv h1 h
    · exact buddyActs_yes n v xs w hE hv h1 (by omega) (by omega)
  · exact buddyActs_far n v xs w hE hv (by omega)
end Go.Proofs.YtcooflachcimbaaDoor
