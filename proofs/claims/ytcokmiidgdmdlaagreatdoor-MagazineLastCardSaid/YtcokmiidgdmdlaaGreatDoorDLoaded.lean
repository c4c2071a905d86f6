/- The closed fact of magazines. -/
import Derived.Test.YtcokmiidgdmdlaaGreatDoorDNew
import Derived.Test.YtcokmiidgdmdlaaGreatDoorDLast
import Derived.Test.YtcokmiidgdmdlaaGreatDoorZMin
namespace Go.Proofs.YtcokmiidgdmdlaaGreatDoor
open Go.RowKit Go.Maps
set_option linter.unusedSimpArgs false
set_option linter.unusedVariables false
attribute [local go_sem ↓] Go.wp_at_zero Go.wp_at_succ

theorem ob_fit {e : Nat} {c : Ca} (h : InvC e c) {o : Ob} (ho : o ∈ obsC e c.C) : -9223372036854775808 ≤ o.2 ∧ o.2 ≤ 9223372036854775807 := by
  have := ob_one h ho
  omega
theorem heldH_nil (n : Nat) : heldH (List.replicate n ([], [])) = [] := by
  unfold heldH
  simp
set_option maxHeartbeats 8000000 in
set_option maxRecDepth 100000 in
theorem loaded_yes {B : Nat} {ev : Nat → Addr} (w : World) (hE : ErrS B ev w) :
    Calls Tryz.prog 29 #[] w fun e w' => e = .returned (.bool true) ∧ Below w.heap.size w w' := by
  have hB := hE.size
  have eb := eqO; have gb := guardO
  have HE := Lib.hid hE
  clear hE
  go_enter Tryz.func29, Tryz.ntmps29
  go_wp2_with fail
  refine (one_ok (X := []) 1 w (fun x hx => by cases hx)).mono ?_
  rintro e w1 ⟨vP, vN, rfl, hcfg, hb1⟩
  have z1 := hb1.size
  have HC := Lib.hid hcfg
  clear hcfg
  go_wp2_with fail
  refine (oneZone vP vN 1 w1 (HE.out.z.go hb1).c HC.out (by omega) (by omega)).mono ?_
  rintro e w2 ⟨pz, x, rfl, hz, hpz, hn, hF, hT, hb2⟩
  have z2 := hb2.size
  have hI := (hz.b.bud x (by simp)).2
  have F0 := FullI.start (pages := 1) (e := 8) hI (by omega) (by omega) hF
  have HF0 := Lib.hid F0; have HZ := Lib.hid hz
  have B12 := Lib.hid (hb1.trans (hb2.mono z1))
  clear hz hI hF hT hn F0 hb1 hb2
  go_wp2_with fail
  refine (show Calls Tryz.prog 31 #[.pointer (some ⟨pz, 0, none⟩), .int .i64 8] w2 _ from snew_ok pz 8 w2 (by omega) (by omega)).mono ?_
  rintro e w3 ⟨rfl, hw3⟩
  have C0 := CS.new HZ.out (by simp) z2 8
  have b3 : Below w2.heap.size w2 w3 := by rw [hw3]; exact (by repeat (first | exact Below.refl _ _ | refine Below.drew ?_ | refine below_drewN ?_ _ | refine Below.trans ?_ (Below.mono (by assumption) (by first | omega | (simp; omega) | (simp; done))) | refine Below.alloc ?_ (by first | omega | (simp; omega) | (simp; done)) _ | refine Below.setCell ?_ (by first | omega | (simp; omega) | (simp; done)) _))
  rw [← hw3] at C0
  have z3 := b3.size
  have HC0 := Lib.hid C0
  have B13 := Lib.hid (B12.out.trans (b3.mono (by omega)))
  clear C0 hw3 b3
  go_wp2_with fail
  refine (show Calls Tryz.prog 32 #[.pointer (some ⟨w2.heap.size, 0, none⟩), .int .i64 1] w3 _ from dnew_ok w2.heap.size 1 w3 (by omega) (by omega)).mono ?_
  rintro e w4 ⟨rfl, hw4⟩
  have D0 := CD.start HC0.out (by omega) 1 hw4
  have b4 : Below w3.heap.size w3 w4 := by rw [hw4]; exact (by repeat (first | exact Below.refl _ _ | refine Below.drew ?_ | refine below_drewN ?_ _ | refine Below.trans ?_ (Below.mono (by assumption) (by first | omega | (simp; omega) | (simp; done))) | refine Below.alloc ?_ (by first | omega | (simp; omega) | (simp; done)) _ | refine Below.setCell ?_ (by first | omega | (simp; omega) | (simp; done)) _))
  have z4 := b4.size
  have E4 := Lib.hid ((HE.out.go (B13.out.trans (b4.mono (by omega)))).up (B' := w1.heap.size) (by omega) (by omega))
  have P0 := Lib.hid (show DpS w1.heap.size w4 (w3.heap.size + 1) w2.heap.size pz w3.heap.size 0 0 0 [[0]] 8 _ [] ⟨⟨[x], []⟩, List.replicate 1 ([], []), []⟩ w4 from ⟨D0, InvD.start HF0.out.inv 1 (by omega) (by omega), Below.refl _ _⟩)
  have B14 := Lib.hid (B13.out.trans (b4.mono (by omega)))
  clear D0 hw4 b4
  have hO : OrdZ [[0]] 1 := by simpa using HZ.out.ord
  have rm : roomE 8 = 8 := by decide
  have HO := Lib.hid hO
  -- the first take
  obtain ⟨t1, t2, t3, t4, t5, t6, t7⟩ := ls_take (k := 0) hO P0.out.inv HF0.out (by rw [rm]; omega) (by rfl) rfl
  have TK := dp_take 0 0 true E4.out P0.out
  obtain ⟨⟨d1, q1, a⟩, hr1⟩ : ∃ r, r = takeD 0 [[0]] 8 ⟨⟨[x], []⟩, List.replicate 1 ([], []), []⟩ 0 0 true := ⟨_, rfl⟩
  rw [← hr1] at t1 t2 t3 t4 t5 t6 t7 TK
  simp only at t1 t2 t3 t4 t5 t6 t7 TK
  subst t1
  simp only [obV, errV] at TK
  have HTK := Lib.hid TK; have T3 := Lib.hid t3; have T4 := Lib.hid t4; have T5 := Lib.hid t5; have T6 := Lib.hid t6; have T7 := Lib.hid t7
  clear TK t2 t3 t4 t5 t6 t7 hr1
  go_wp2_with fail
  refine HTK.out.mono ?_
  rintro e w5 ⟨rfl, K5, X1, X1n, X1m, P1⟩
  have b5' : Below w5.heap.size w5 (w5.alloc (.cells #[.int .i64 a.1, .int .i64 a.2] 72)) := (by repeat (first | exact Below.refl _ _ | refine Below.drew ?_ | refine below_drewN ?_ _ | refine Below.trans ?_ (Below.mono (by assumption) (by first | omega | (simp; omega) | (simp; done))) | refine Below.alloc ?_ (by first | omega | (simp; omega) | (simp; done)) _ | refine Below.setCell ?_ (by first | omega | (simp; omega) | (simp; done)) _))
  have z5 := P1.bel.size
  have HP1 := Lib.hid (P1.go (by omega) b5')
  have LA := Lib.hid (show LocN (w5.alloc (.cells #[.int .i64 a.1, .int .i64 a.2] 72)) w5.heap.size [.int .i64 a.1, .int .i64 a.2] from LocN.mk_ w5 [.int .i64 a.1, .int .i64 a.2] 72 rfl)
  have N1 : Hid (w5.heap.size ∉ X1) := fun q => by have := (P1.cd.lim _ q).2; omega
  clear K5 X1n P1 b5' HTK P0
  -- the second take
  obtain ⟨t1, t2, t3, t4, t5, t6, t7⟩ := ls_take (k := 0) HO.out T7.out T6.out (by rw [rm]; omega) (by unfold handD; rw [if_neg (by omega), T4.out]; rfl) T5.out
  have TK := dp_take 0 0 true E4.out HP1.out
  obtain ⟨⟨d2, q2, b⟩, hr2⟩ : ∃ r, r = takeD 0 [[0]] 8 d1 0 0 true := ⟨_, rfl⟩
  rw [← hr2] at t1 t2 t3 t4 t5 t6 t7 TK
  simp only at t1 t2 t3 t4 t5 t6 t7 TK
  subst t1
  simp only [obV, errV] at TK
  have hab : a ≠ b := fun q => t2 ((T3.out b).2 (.inl q.symm))
  have HTK := Lib.hid TK; have U3 := Lib.hid t3; have U4 := Lib.hid t4; have U5 := Lib.hid t5; have U7 := Lib.hid t7; have HAB := Lib.hid hab
  clear TK t2 t3 t4 t5 t6 t7 hr2
  go_wp2_with fail
  refine HTK.out.mono ?_
  rintro e w6 ⟨rfl, K6, X2, X2n, X2m, P2⟩
  have b6' : Below w6.heap.size w6 (w6.alloc (.cells #[.int .i64 b.1, .int .i64 b.2] 72)) := (by repeat (first | exact Below.refl _ _ | refine Below.drew ?_ | refine below_drewN ?_ _ | refine Below.trans ?_ (Below.mono (by assumption) (by first | omega | (simp; omega) | (simp; done))) | refine Below.alloc ?_ (by first | omega | (simp; omega) | (simp; done)) _ | refine Below.setCell ?_ (by first | omega | (simp; omega) | (simp; done)) _))
  have z6 := P2.bel.size
  have z56 := K6.size
  simp at z56
  have HP2 := Lib.hid (P2.go (by omega) b6')
  have LA2 := Lib.hid ((LA.out.keep K6 (fun q => N1.out (off_mem.1 q).1)).go b6')
  have LB := Lib.hid (show LocN (w6.alloc (.cells #[.int .i64 b.1, .int .i64 b.2] 72)) w6.heap.size [.int .i64 b.1, .int .i64 b.2] from LocN.mk_ w6 [.int .i64 b.1, .int .i64 b.2] 72 rfl)
  have N2 : Hid (w6.heap.size ∉ X2) := fun q => by have := (P2.cd.lim _ q).2; omega
  have N2' : Hid (w5.heap.size ∉ X2) := fun q => by
    rcases X2n _ q with r | r
    · exact N1.out r
    · simp at r; omega
  clear K6 X2n P2 b6' HTK HP1 LA
  have g0 := LA2.out.c 0 _ rfl; have g1 := LA2.out.c 1 _ rfl; have gl := LA2.out.lt
  have k0 := LB.out.c 0 _ rfl; have k1 := LB.out.c 1 _ rfl; have kl := LB.out.lt
  have hne : (a.1 == b.1 && a.2 == b.2) = false := by
    cases q : (a.1 == b.1 && a.2 == b.2) with
    | false => rfl
    | true =>
      simp at q
      exact absurd (Prod.ext q.1 q.2) HAB.out
  -- the first give
  have hd2 : d2.H = h0 [a, b] 0 :: [] := by rw [U4.out, T4.out]; rfl
  have nd2 : [a, b].Nodup := by simp [HAB.out]
  have sub2 : ∀ y ∈ [a, b], y ∈ obsC 8 d2.c.C := fun y hy => by
    simp at hy
    rcases hy with rfl | rfl
    · exact (U3.out _).2 (.inr ((T3.out _).2 (.inl rfl)))
    · exact (U3.out _).2 (.inl rfl)
  have o1 := ls_out (e := 8) (i := 0) (o := a) (by rfl) nd2 (by rfl) hd2 U5.out sub2
  obtain ⟨v1, v2, v3, v4⟩ := ls_give (e := 8) (i := 0) (o := a) (by simp) (by rfl) hd2 U5.out o1
  have f1 := ob_fit U7.out.c (sub2 a (by simp))
  have f2 := ob_fit U7.out.c (sub2 b (by simp))
  have GV := dp_give 0 a E4.out HP2.out f1.1 f1.2
  have I3 := giveD_inv (k := 0) (o := a) U7.out
  obtain ⟨⟨d3, c3⟩, hr3⟩ : ∃ r, r = giveD 8 d2 0 a := ⟨_, rfl⟩
  rw [← hr3] at v1 v2 v3 v4 GV I3
  simp only at v1 v2 v3 v4 GV I3
  subst v1
  simp only [errV] at GV
  have sub3 : ∀ y ∈ [a, b], y ∈ obsC 8 d3.c.C := fun y hy => by rw [v4]; exact sub2 y hy
  have HGV := Lib.hid GV
  have HS3 := Lib.hid sub3; have V2 := Lib.hid v2; have V3 := Lib.hid v3; have HI3 := Lib.hid I3; have ND := Lib.hid nd2; have HF2 := Lib.hid f2
  clear GV sub2 sub3 v2 v3 v4 I3 hr3 hd2 o1 f1 f2 nd2
  go_wp2_with fail
  refine HGV.out.mono ?_
  rintro e w7 ⟨rfl, K7, X3, X3n, X3m, P3⟩
  have z7 := P3.bel.size
  have z67 := K7.size
  simp at z67
  have HP3 := Lib.hid P3
  have LA3 := Lib.hid (LA2.out.keep K7 (fun q => N2'.out (off_mem.1 q).1))
  have LB3 := Lib.hid (LB.out.keep K7 (fun q => N2.out (off_mem.1 q).1))
  have N3 : Hid (w6.heap.size ∉ X3) := fun q => by
    rcases X3n _ q with r | r
    · exact N2.out r
    · simp at r; omega
  have N3' : Hid (w5.heap.size ∉ X3) := fun q => by
    rcases X3n _ q with r | r
    · exact N2'.out r
    · simp at r; omega
  clear K7 X3n P3 HGV HP2 LA2 LB g0 g1 gl k0 k1 kl
  have k0 := LB3.out.c 0 _ rfl; have k1 := LB3.out.c 1 _ rfl; have kl := LB3.out.lt
  have o2 := ls_out (e := 8) (i := 1) (o := b) (by rfl) ND.out (by rfl) V2.out V3.out HS3.out
  obtain ⟨v1, v2, v3, v4⟩ := ls_give (e := 8) (i := 1) (o := b) (by simp) (by rfl) V2.out V3.out o2
  have GV := dp_give 0 b E4.out HP3.out HF2.out.1 HF2.out.2
  have I4 := giveD_inv (k := 0) (o := b) HI3.out
  obtain ⟨⟨d4, c4⟩, hr4⟩ : ∃ r, r = giveD 8 d3 0 b := ⟨_, rfl⟩
  rw [← hr4] at v1 v2 v3 v4 GV I4
  simp only at v1 v2 v3 v4 GV I4
  subst v1
  simp only [errV] at GV
  have HGV := Lib.hid GV
  have W2 := Lib.hid v2; have W3 := Lib.hid v3; have HI4 := Lib.hid I4
  clear GV v2 v3 v4 I4 hr4 o2
  go_wp2_with fail
  refine HGV.out.mono ?_
  rintro e w8 ⟨rfl, K8, X4, X4n, X4m, P4⟩
  have z8 := P4.bel.size
  have z78 := K8.size
  have HP4 := Lib.hid P4
  have LB4 := Lib.hid (LB3.out.keep K8 (fun q => N3.out (off_mem.1 q).1))
  have N4 : Hid (w6.heap.size ∉ X4) := fun q => by
    rcases X4n _ q with r | r
    · exact N3.out r
    · omega
  clear K8 X4n P4 HGV HP3 LA3 LB3 k0 k1 kl
  -- the last take
  obtain ⟨p1, ⟨hh, p2, p2'⟩, p3, p4⟩ := ls_pop (e := 8) (i := 1) (o := b) (h := h0 [a, b] 2) (R := []) (by simp) (by rfl) (.inl rfl) W2.out W3.out
  have TK := dp_take 0 0 true E4.out HP4.out
  have I5 := takeD_inv (mn := 0) (O := [[0]]) (k := 0) (v := 0) (u := true) HP4.out.ord HI4.out
  obtain ⟨⟨d5, q5, b'⟩, hr5⟩ : ∃ r, r = takeD 0 [[0]] 8 d4 0 0 true := ⟨_, rfl⟩
  rw [← hr5] at p1 p2 p3 p4 TK I5
  simp only at p1 p2 p3 p4 TK I5
  obtain ⟨rfl, rfl⟩ := Prod.mk.inj p1
  simp only [obV, errV] at TK
  have hhe : hh = ([a], []) := by
    rcases p2' with q | ⟨q, _⟩
    · rw [q]; rfl
    · omega
  subst hhe
  have HTK := Lib.hid TK; have Y2 := Lib.hid p2; have Y3 := Lib.hid p3; have HI5 := Lib.hid I5
  clear TK p1 p2 p2' p3 p4 hr5 I5
  go_wp2_with fail
  refine HTK.out.mono ?_
  rintro e w9 ⟨rfl, K9, X5, X5n, X5m, P5⟩
  have z9 := P5.bel.size
  have z89 := K9.size
  have b9' : Below w9.heap.size w9 (w9.alloc (.cells #[.int .i64 b'.1, .int .i64 b'.2] 72)) := (by repeat (first | exact Below.refl _ _ | refine Below.drew ?_ | refine below_drewN ?_ _ | refine Below.trans ?_ (Below.mono (by assumption) (by first | omega | (simp; omega) | (simp; done))) | refine Below.alloc ?_ (by first | omega | (simp; omega) | (simp; done)) _ | refine Below.setCell ?_ (by first | omega | (simp; omega) | (simp; done)) _))
  have HP5 := P5.go (by omega) b9'
  have LB5 := Lib.hid ((LB4.out.keep K9 (fun q => N4.out (off_mem.1 q).1)).go b9')
  have LX := Lib.hid (show LocN (w9.alloc (.cells #[.int .i64 b'.1, .int .i64 b'.2] 72)) w9.heap.size [.int .i64 b'.1, .int .i64 b'.2] from LocN.mk_ w9 [.int .i64 b'.1, .int .i64 b'.2] 72 rfl)
  have HD := dp_held HP5 (by simp; omega)
  rw [Y2.out, Y3.out] at HD
  have hn1 : handN (([a], []) :: []) = 1 := rfl
  rw [hn1] at HD
  have HHD := Lib.hid HD
  clear K9 X5n P5 b9' HTK HP4 LB4 HD HP5 hn1
  go_wp2_with fail
  refine HHD.out.mono ?_
  rintro e w10 ⟨rfl, hb10, P6⟩
  have M1 := LB5.out.go hb10; have M2 := LX.out.go hb10
  have k0 := M1.c 0 _ rfl; have k1 := M1.c 1 _ rfl; have kl := M1.lt; have l0 := M2.c 0 _ rfl; have l1 := M2.c 1 _ rfl; have ll := M2.lt
  have FB := Lib.hid (B14.out.trans (P6.bel.mono (by omega)))
  clear M1 M2 HHD P6 hb10
  go_wp2
  go_ret
  exact ⟨by simp, FB.out⟩
end Go.Proofs.YtcokmiidgdmdlaaGreatDoor
