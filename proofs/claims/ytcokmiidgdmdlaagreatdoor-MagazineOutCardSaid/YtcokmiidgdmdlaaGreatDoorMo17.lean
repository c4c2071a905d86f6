/- Lemmas and contracts for the claim's last text: DLoaded, DApp, MagLast, DBack, DDrain. -/
import Derived.Lib.AppendZeros
import Derived.Deep.Onto
import Derived.Test.YtcokmiidgdmdlaaGreatDoorMo16
namespace Go.Proofs.YtcokmiidgdmdlaaGreatDoor
open Go.RowKit Go.Maps
set_option linter.unusedSimpArgs false
set_option linter.unusedVariables false
attribute [local go_sem ↓] Go.wp_at_zero Go.wp_at_succ

theorem ob_fit {e : Nat} {c : Ca} (h : InvC e c) {o : Ob} (ho : o ∈ obsC e c.C) : -9223372036854775808 ≤ o.2 ∧ o.2 ≤ 9223372036854775807 := by
  have := ob_one h ho
  omega
theorem heldH_nil (n : Nat) : heldH (List.replicate n ([], [])) = [] := by
  unfold heldH
  simp
set_option maxHeartbeats 8000000 in
set_option maxRecDepth 100000 in
theorem loaded_yes {B : Nat} {ev : Nat → Addr} (w : World) (hE : ErrS B ev w) :
    Calls Tryz.prog 29 #[] w fun e w' => e = .returned (.bool true) ∧ Below w.heap.size w w' := by
  have hB := hE.size
  have eb := eqO; have gb := guardO
  have HE := Lib.hid hE
  clear hE
  go_enter Tryz.func29, Tryz.ntmps29
  go_wp2_with fail
  refine (one_ok (X := []) 1 w (fun x hx => by cases hx)).mono ?_
  rintro e w1 ⟨vP, vN, rfl, hcfg, hb1⟩
  have z1 := hb1.size
  have HC := Lib.hid hcfg
  clear hcfg
  go_wp2_with fail
  refine (oneZone vP vN 1 w1 (HE.out.z.go hb1).c HC.out (by omega) (by omega)).mono ?_
  rintro e w2 ⟨pz, x, rfl, hz, hpz, hn, hF, hT, hb2⟩
  have z2 := hb2.size
  have hI := (hz.b.bud x (by simp)).2
  have F0 := FullI.start (pages := 1) (e := 8) hI (by omega) (by omega) hF
  have HF0 := Lib.hid F0; have HZ := Lib.hid hz
  have B12 := Lib.hid (hb1.trans (hb2.mono z1))
  clear hz hI hF hT hn F0 hb1 hb2
  go_wp2_with fail
  refine (show Calls Tryz.prog 31 #[.pointer (some ⟨pz, 0, none⟩), .int .i64 8] w2 _ from snew_ok pz 8 w2 (by omega) (by omega)).mono ?_
  rintro e w3 ⟨rfl, hw3⟩
  have C0 := CS.new HZ.out (by simp) z2 8
  have b3 : Below w2.heap.size w2 w3 := by rw [hw3]; exact (by repeat (first | exact Below.refl _ _ | refine Below.drew ?_ | refine below_drewN ?_ _ | refine Below.trans ?_ (Below.mono (by assumption) (by first | omega | (simp; omega) | (simp; done))) | refine Below.alloc ?_ (by first | omega | (simp; omega) | (simp; done)) _ | refine Below.setCell ?_ (by first | omega | (simp; omega) | (simp; done)) _))
  rw [← hw3] at C0
  have z3 := b3.size
  have HC0 := Lib.hid C0
  have B13 := Lib.hid (B12.out.trans (b3.mono (by omega)))
  clear C0 hw3 b3
  go_wp2_with fail
  refine (show Calls Tryz.prog 32 #[.pointer (some ⟨w2.heap.size, 0, none⟩), .int .i64 1] w3 _ from dnew_ok w2.heap.size 1 w3 (by omega) (by omega)).mono ?_
  rintro e w4 ⟨rfl, hw4⟩
  have D0 := CD.start HC0.out (by omega) 1 hw4
  have b4 : Below w3.heap.size w3 w4 := by rw [hw4]; exact (by repeat (first | exact Below.refl _ _ | refine Below.drew ?_ | refine below_drewN ?_ _ | refine Below.trans ?_ (Below.mono (by assumption) (by first | omega | (simp; omega) | (simp; done))) | refine Below.alloc ?_ (by first | omega | (simp; omega) | (simp; done)) _ | refine Below.setCell ?_ (by first | omega | (simp; omega) | (simp; done)) _))
  have z4 := b4.size
  have E4 := Lib.hid ((HE.out.go (B13.out.trans (b4.mono (by omega)))).up (B' := w1.heap.size) (by omega) (by omega))
  have P0 := Lib.hid (show DpS w1.heap.size w4 (w3.heap.size + 1) w2.heap.size pz w3.heap.size 0 0 0 [[0]] 8 _ [] ⟨⟨[x], []⟩, List.replicate 1 ([], []), []⟩ w4 from ⟨D0, InvD.start HF0.out.inv 1 (by omega) (by omega), Below.refl _ _⟩)
  have B14 := Lib.hid (B13.out.trans (b4.mono (by omega)))
  clear D0 hw4 b4
  have hO : OrdZ [[0]] 1 := by simpa using HZ.out.ord
  have rm : roomE 8 = 8 := by decide
  have HO := Lib.hid hO
  -- the first take
  obtain ⟨t1, t2, t3, t4, t5, t6, t7⟩ := ls_take (k := 0) hO P0.out.inv HF0.out (by rw [rm]; omega) (by rfl) rfl
  have TK := dp_take 0 0 true E4.out P0.out
  obtain ⟨⟨d1, q1, a⟩, hr1⟩ : ∃ r, r = takeD 0 [[0]] 8 ⟨⟨[x], []⟩, List.replicate 1 ([], []), []⟩ 0 0 true := ⟨_, rfl⟩
  rw [← hr1] at t1 t2 t3 t4 t5 t6 t7 TK
  simp only at t1 t2 t3 t4 t5 t6 t7 TK
  subst t1
  simp only [obV, errV] at TK
  have HTK := Lib.hid TK; have T3 := Lib.hid t3; have T4 := Lib.hid t4; have T5 := Lib.hid t5; have T6 := Lib.hid t6; have T7 := Lib.hid t7
  clear TK t2 t3 t4 t5 t6 t7 hr1
  go_wp2_with fail
  refine HTK.out.mono ?_
  rintro e w5 ⟨rfl, K5, X1, X1n, X1m, P1⟩
  have b5' : Below w5.heap.size w5 (w5.alloc (.cells #[.int .i64 a.1, .int .i64 a.2] 72)) := (by repeat (first | exact Below.refl _ _ | refine Below.drew ?_ | refine below_drewN ?_ _ | refine Below.trans ?_ (Below.mono (by assumption) (by first | omega | (simp; omega) | (simp; done))) | refine Below.alloc ?_ (by first | omega | (simp; omega) | (simp; done)) _ | refine Below.setCell ?_ (by first | omega | (simp; omega) | (simp; done)) _))
  have z5 := P1.bel.size
  have HP1 := Lib.hid (P1.go (by omega) b5')
  have LA := Lib.hid (show LocN (w5.alloc (.cells #[.int .i64 a.1, .int .i64 a.2] 72)) w5.heap.size [.int .i64 a.1, .int .i64 a.2] from LocN.mk_ w5 [.int .i64 a.1, .int .i64 a.2] 72 rfl)
  have N1 : Hid (w5.heap.size ∉ X1) := fun q => by have := (P1.cd.lim _ q).2; omega
  clear K5 X1n P1 b5' HTK P0
  -- the second take
  obtain ⟨t1, t2, t3, t4, t5, t6, t7⟩ := ls_take (k := 0) HO.out T7.out T6.out (by rw [rm]; omega) (by unfold handD; rw [if_neg (by omega), T4.out]; rfl) T5.out
  have TK := dp_take 0 0 true E4.out HP1.out
  obtain ⟨⟨d2, q2, b⟩, hr2⟩ : ∃ r, r = takeD 0 [[0]] 8 d1 0 0 true := ⟨_, rfl⟩
  rw [← hr2] at t1 t2 t3 t4 t5 t6 t7 TK
  simp only at t1 t2 t3 t4 t5 t6 t7 TK
  subst t1
  simp only [obV, errV] at TK
  have hab : a ≠ b := fun q => t2 ((T3.out b).2 (.inl q.symm))
  have HTK := Lib.hid TK; have U3 := Lib.hid t3; have U4 := Lib.hid t4; have U5 := Lib.hid t5; have U7 := Lib.hid t7; have HAB := Lib.hid hab
  clear TK t2 t3 t4 t5 t6 t7 hr2
  go_wp2_with fail
  refine HTK.out.mono ?_
  rintro e w6 ⟨rfl, K6, X2, X2n, X2m, P2⟩
  have b6' : Below w6.heap.size w6 (w6.alloc (.cells #[.int .i64 b.1, .int .i64 b.2] 72)) := (by repeat (first | exact Below.refl _ _ | refine Below.drew ?_ | refine below_drewN ?_ _ | refine Below.trans ?_ (Below.mono (by assumption) (by first | omega | (simp; omega) | (simp; done))) | refine Below.alloc ?_ (by first | omega | (simp; omega) | (simp; done)) _ | refine Below.setCell ?_ (by first | omega | (simp; omega) | (simp; done)) _))
  have z6 := P2.bel.size
  have z56 := K6.size
  simp at z56
  have HP2 := Lib.hid (P2.go (by omega) b6')
  have LA2 := Lib.hid ((LA.out.keep K6 (fun q => N1.out (off_mem.1 q).1)).go b6')
  have LB := Lib.hid (show LocN (w6.alloc (.cells #[.int .i64 b.1, .int .i64 b.2] 72)) w6.heap.size [.int .i64 b.1, .int .i64 b.2] from LocN.mk_ w6 [.int .i64 b.1, .int .i64 b.2] 72 rfl)
  have N2 : Hid (w6.heap.size ∉ X2) := fun q => by have := (P2.cd.lim _ q).2; omega
  have N2' : Hid (w5.heap.size ∉ X2) := fun q => by
    rcases X2n _ q with r | r
    · exact N1.out r
    · simp at r; omega
  clear K6 X2n P2 b6' HTK HP1 LA
  have g0 := LA2.out.c 0 _ rfl; have g1 := LA2.out.c 1 _ rfl; have gl := LA2.out.lt
  have k0 := LB.out.c 0 _ rfl; have k1 := LB.out.c 1 _ rfl; have kl := LB.out.lt
  have hne : (a.1 == b.1 && a.2 == b.2) = false := by
    cases q : (a.1 == b.1 && a.2 == b.2) with
    | false => rfl
    | true =>
      simp at q
      exact absurd (Prod.ext q.1 q.2) HAB.out
  -- the first give
  have hd2 : d2.H = h0 [a, b] 0 :: [] := by rw [U4.out, T4.out]; rfl
  have nd2 : [a, b].Nodup := by simp [HAB.out]
  have sub2 : ∀ y ∈ [a, b], y ∈ obsC 8 d2.c.C := fun y hy => by
    simp at hy
    rcases hy with rfl | rfl
    · exact (U3.out _).2 (.inr ((T3.out _).2 (.inl rfl)))
    · exact (U3.out _).2 (.inl rfl)
  have o1 := ls_out (e := 8) (i := 0) (o := a) (by rfl) nd2 (by rfl) hd2 U5.out sub2
  obtain ⟨v1, v2, v3, v4⟩ := ls_give (e := 8) (i := 0) (o := a) (by simp) (by rfl) hd2 U5.out o1
  have f1 := ob_fit U7.out.c (sub2 a (by simp))
  have f2 := ob_fit U7.out.c (sub2 b (by simp))
  have GV := dp_give 0 a E4.out HP2.out f1.1 f1.2
  have I3 := giveD_inv (k := 0) (o := a) U7.out
  obtain ⟨⟨d3, c3⟩, hr3⟩ : ∃ r, r = giveD 8 d2 0 a := ⟨_, rfl⟩
  rw [← hr3] at v1 v2 v3 v4 GV I3
  simp only at v1 v2 v3 v4 GV I3
  subst v1
  simp only [errV] at GV
  have sub3 : ∀ y ∈ [a, b], y ∈ obsC 8 d3.c.C := fun y hy => by rw [v4]; exact sub2 y hy
  have HGV := Lib.hid GV
  have HS3 := Lib.hid sub3; have V2 := Lib.hid v2; have V3 := Lib.hid v3; have HI3 := Lib.hid I3; have ND := Lib.hid nd2; have HF2 := Lib.hid f2
  clear GV sub2 sub3 v2 v3 v4 I3 hr3 hd2 o1 f1 f2 nd2
  go_wp2_with fail
  refine HGV.out.mono ?_
  rintro e w7 ⟨rfl, K7, X3, X3n, X3m, P3⟩
  have z7 := P3.bel.size
  have z67 := K7.size
  simp at z67
  have HP3 := Lib.hid P3
  have LA3 := Lib.hid (LA2.out.keep K7 (fun q => N2'.out (off_mem.1 q).1))
  have LB3 := Lib.hid (LB.out.keep K7 (fun q => N2.out (off_mem.1 q).1))
  have N3 : Hid (w6.heap.size ∉ X3) := fun q => by
    rcases X3n _ q with r | r
    · exact N2.out r
    · simp at r; omega
  have N3' : Hid (w5.heap.size ∉ X3) := fun q => by
    rcases X3n _ q with r | r
    · exact N2'.out r
    · simp at r; omega
  clear K7 X3n P3 HGV HP2 LA2 LB g0 g1 gl k0 k1 kl
  have k0 := LB3.out.c 0 _ rfl; have k1 := LB3.out.c 1 _ rfl; have kl := LB3.out.lt
  have o2 := ls_out (e := 8) (i := 1) (o := b) (by rfl) ND.out (by rfl) V2.out V3.out HS3.out
  obtain ⟨v1, v2, v3, v4⟩ := ls_give (e := 8) (i := 1) (o := b) (by simp) (by rfl) V2.out V3.out o2
  have GV := dp_give 0 b E4.out HP3.out HF2.out.1 HF2.out.2
  have I4 := giveD_inv (k := 0) (o := b) HI3.out
  obtain ⟨⟨d4, c4⟩, hr4⟩ : ∃ r, r = giveD 8 d3 0 b := ⟨_, rfl⟩
  rw [← hr4] at v1 v2 v3 v4 GV I4
  simp only at v1 v2 v3 v4 GV I4
  subst v1
  simp only [errV] at GV
  have HGV := Lib.hid GV
  have W2 := Lib.hid v2; have W3 := Lib.hid v3; have HI4 := Lib.hid I4
  clear GV v2 v3 v4 I4 hr4 o2
  go_wp2_with fail
  refine HGV.out.mono ?_
  rintro e w8 ⟨rfl, K8, X4, X4n, X4m, P4⟩
  have z8 := P4.bel.size
  have z78 := K8.size
  have HP4 := Lib.hid P4
  have LB4 := Lib.hid (LB3.out.keep K8 (fun q => N3.out (off_mem.1 q).1))
  have N4 : Hid (w6.heap.size ∉ X4) := fun q => by
    rcases X4n _ q with r | r
    · exact N3.out r
    · omega
  clear K8 X4n P4 HGV HP3 LA3 LB3 k0 k1 kl
  -- the last take
  obtain ⟨p1, ⟨hh, p2, p2'⟩, p3, p4⟩ := ls_pop (e := 8) (i := 1) (o := b) (h := h0 [a, b] 2) (R := []) (by simp) (by rfl) (.inl rfl) W2.out W3.out
  have TK := dp_take 0 0 true E4.out HP4.out
  have I5 := takeD_inv (mn := 0) (O := [[0]]) (k := 0) (v := 0) (u := true) HP4.out.ord HI4.out
  obtain ⟨⟨d5, q5, b'⟩, hr5⟩ : ∃ r, r = takeD 0 [[0]] 8 d4 0 0 true := ⟨_, rfl⟩
  rw [← hr5] at p1 p2 p3 p4 TK I5
  simp only at p1 p2 p3 p4 TK I5
  obtain ⟨rfl, rfl⟩ := Prod.mk.inj p1
  simp only [obV, errV] at TK
  have hhe : hh = ([a], []) := by
    rcases p2' with q | ⟨q, _⟩
    · rw [q]; rfl
    · omega
  subst hhe
  have HTK := Lib.hid TK; have Y2 := Lib.hid p2; have Y3 := Lib.hid p3; have HI5 := Lib.hid I5
  clear TK p1 p2 p2' p3 p4 hr5 I5
  go_wp2_with fail
  refine HTK.out.mono ?_
  rintro e w9 ⟨rfl, K9, X5, X5n, X5m, P5⟩
  have z9 := P5.bel.size
  have z89 := K9.size
  have b9' : Below w9.heap.size w9 (w9.alloc (.cells #[.int .i64 b'.1, .int .i64 b'.2] 72)) := (by repeat (first | exact Below.refl _ _ | refine Below.drew ?_ | refine below_drewN ?_ _ | refine Below.trans ?_ (Below.mono (by assumption) (by first | omega | (simp; omega) | (simp; done))) | refine Below.alloc ?_ (by first | omega | (simp; omega) | (simp; done)) _ | refine Below.setCell ?_ (by first | omega | (simp; omega) | (simp; done)) _))
  have HP5 := P5.go (by omega) b9'
  have LB5 := Lib.hid ((LB4.out.keep K9 (fun q => N4.out (off_mem.1 q).1)).go b9')
  have LX := Lib.hid (show LocN (w9.alloc (.cells #[.int .i64 b'.1, .int .i64 b'.2] 72)) w9.heap.size [.int .i64 b'.1, .int .i64 b'.2] from LocN.mk_ w9 [.int .i64 b'.1, .int .i64 b'.2] 72 rfl)
  have HD := dp_held HP5 (by simp; omega)
  rw [Y2.out, Y3.out] at HD
  have hn1 : handN (([a], []) :: []) = 1 := rfl
  rw [hn1] at HD
  have HHD := Lib.hid HD
  clear K9 X5n P5 b9' HTK HP4 LB4 HD HP5 hn1
  go_wp2_with fail
  refine HHD.out.mono ?_
  rintro e w10 ⟨rfl, hb10, P6⟩
  have M1 := LB5.out.go hb10; have M2 := LX.out.go hb10
  have k0 := M1.c 0 _ rfl; have k1 := M1.c 1 _ rfl; have kl := M1.lt; have l0 := M2.c 0 _ rfl; have l1 := M2.c 1 _ rfl; have ll := M2.lt
  have FB := Lib.hid (B14.out.trans (P6.bel.mono (by omega)))
  clear M1 M2 HHD P6 hb10
  go_wp2
  go_ret
  exact ⟨by simp, FB.out⟩
end Go.Proofs.YtcokmiidgdmdlaaGreatDoor

namespace Go.Proofs.YtcokmiidgdmdlaaGreatDoor
open Go.RowKit Go.Maps
set_option linter.unusedSimpArgs false
set_option linter.unusedVariables false

section
variable {X Y S F G : List Nat} {B : Nat} {ev : Nat → Addr} {w w' w0 w1 : World} {pd pc pz gh e : Nat} {mn lw hi : Int} {O : List (List Int)} {v vp : Value} {A : SA} {V : HV} {U : List Value} {d d' : De} {c : Ca}
theorem run_appS2 {T E : TypeId} {z : Value} {s b : Nat} (hE : ElS T E z s b) {w : World} (ty : TypeId) {base : Nat} {v : Value} {n : Nat} {xs ms : List Value} (hown : w.ownsRow base E s v n xs) {a : Addr} {c : Nat} (hm : ms.length = s) (hc : ∀ (j : Nat) (u : Value), ms[j]? = some u → w.cell? (a.add j) = some u) (h1 : ∀ u ∈ ms, u.oneCell' = true)
    (hl : n ≤ 70000) (hb : base ≤ w.heap.size) :
    ∃ q k w', (Builtin.append_ #[T, T] ty #[v, .slice (some a) 1 c]).run Tryz.prog w = .ok (.slice q (n + 1) k) w' ∧ w'.ownsRow base E s (.slice q (n + 1) k) (n + 1) (xs ++ ms) ∧ w.grownBy w' v.ownBlock ∧ ((Value.slice q (n + 1) k).ownBlock = v.ownBlock ∨ (Value.slice q (n + 1) k).ownBlock = some w.heap.size) := by
  obtain ⟨i0, hi, hz0, hz1, hz2⟩ := info_parts hE.info
  have hfew := hE.few
  obtain ⟨v', w', hrun, h2, h3, _, h5⟩ := run_append_own_at (P := Tryz.prog) w base T ty E i0 z s b hE.und hi hz0 hz1 hz2 hE.one hE.pos v n xs hown a 1 c ms
    (by omega) hc h1 (by unfold maxLen; omega) (by
      have : (n + 1) * b ≤ 70001 * 64 := Nat.mul_le_mul (by omega) hfew
      omega) hb
  have hf : ∃ q k, v' = .slice q (n + 1) k := by
    rcases h2.2 with ⟨e, e2⟩ | ⟨g', cap', cur, e, _⟩
    · exact ⟨none, 0, by rw [e, e2]⟩
    · exact ⟨_, _, e⟩
  obtain ⟨q, k, rfl⟩ := hf
  exact ⟨q, k, w', hrun, h2, h3, h5⟩
theorem wpList_appS2 {T E : TypeId} {z : Value} {s b : Nat} (hE : ElS T E z s b) {base : Nat} {v : Value} {n : Nat} {xs ms : List Value} {w : World} {ad : Addr} {c : Nat} {ops : Array Oper} {rest : List Oper} {o : Oper} {a : Act} {Q : Exit → Act → World → Prop} (hgd : o.guard = none) (sl x : Operand)
    (ho : o.op = .call { callee := .builtin .append, args := #[sl, x], argTypes := #[T, T] }) (hv : a.eval sl = v) (hx : a.eval x = .slice (some ad) 1 c)
    (hown : w.ownsRow base E s v n xs) (hm : ms.length = s) (hc : ∀ (j : Nat) (u : Value), ms[j]? = some u → w.cell? (ad.add j) = some u) (h1 : ∀ u ∈ ms, u.oneCell' = true) (hl : n ≤ 70000) (hb : base ≤ w.heap.size)
    (h : ∀ q k w', w'.ownsRow base E s (.slice q (n + 1) k) (n + 1) (xs ++ ms) → w.grownBy w' v.ownBlock → ((Value.slice q (n + 1) k).ownBlock = v.ownBlock ∨ (Value.slice q (n + 1) k).ownBlock = some w.heap.size) → wpList Tryz.prog ops Q rest (a.put o.dst (.slice q (n + 1) k)) w') : wpList Tryz.prog ops Q (o :: rest) a w := by
  refine wpList_plain hgd fun K hK => ?_
  obtain ⟨q, k, w', hrun, h2, h3, h5⟩ := run_appS2 hE (w := w) o.type hown hm hc h1 hl hb (c := c)
  unfold Oper.wp execOp
  simp only [ho, resolve, invoke, builtin, Sem.run_bind, Sem.run_pure, Result.andThen_ok, List.map_toArray, List.map_cons, List.map_nil, hv, hx, hrun]
  exact hK _ _ (h q k w' h2 h3 h5)
theorem CD.addK (h : CD B w X pd pc pz gh mn lw hi O e v A V vp U d) (k : Keep S w w1) (hs : ∀ s ∈ S, (s ∈ X ∨ w.heap.size ≤ s) ∧ s ∉ xd pc v A d.c.L pd gh vp) (hY : ∀ y ∈ Y, w.heap.size ≤ y ∧ y < w1.heap.size) (hB : B ≤ w.heap.size) : CD B w1 (Y ++ X) pd pc pz gh mn lw hi O e v A V vp U d := by
  have hm : ∀ y ∈ Y ++ X, y ∈ X ∨ w.heap.size ≤ y := fun y hy => by
    rcases List.mem_append.1 hy with q | q
    · exact .inr (hY y q).1
    · exact .inl q
  have f1 : ∀ s ∈ S, s ∉ day pd gh vp := fun s q r => (hs s q).2 (List.mem_append_left _ r)
  have f2 : ∀ s ∈ S, s ∉ cay pc v A := fun s q r => (hs s q).2 (List.mem_append_right _ (List.mem_append_left _ r))
  have f3 : ∀ s ∈ S, s ∉ ys d.c.L := fun s q r => (hs s q).2 (List.mem_append_right _ (List.mem_append_right _ r))
  refine ⟨fun y hy => List.mem_append_right _ (h.x y hy), fun y hy => ?_, (h.cs.more (fun x hx => List.mem_append_right _ hx) hm).keep k (fun s q => ⟨f2 s q, (hs s q).1.imp (fun r => ⟨List.mem_append_right _ r, f3 s q⟩) id⟩), (h.de.more hm (fun y hy => List.mem_append_right _ (h.de.mem y hy))).keep k (fun s q => ⟨f1 s q, (hs s q).1.imp (fun r => List.mem_append_right _ r) id⟩), h.ne⟩
  rcases List.mem_append.1 hy with q | q
  · exact ⟨Nat.le_trans hB (hY y q).1, (hY y q).2⟩
  · exact ⟨(h.lim y q).1, Nat.lt_of_lt_of_le (h.lim y q).2 k.size⟩
theorem DpS.addK (h : DpS B w0 pd pc pz gh mn lw hi O e X F d w) (hB : B ≤ w.heap.size) (k : Keep S w w1) (hs : ∀ s ∈ S, s ∈ F) (hG : ∀ g ∈ G, w.heap.size ≤ g ∧ g < w1.heap.size) : DpS B w0 pd pc pz gh mn lw hi O e (G ++ X) (G ++ F) d w1 := by
  obtain ⟨v, A, V, vp, U, q, hf⟩ := h.cd
  refine ⟨⟨v, A, V, vp, U, q.addK k (fun s hs' => ⟨.inl (hf s (hs s hs')).1, (hf s (hs s hs')).2⟩) hG hB, fun f hff => ?_⟩, h.inv, h.bel.trans (k.below hB fun s hs' => (q.lim s (hf s (hs s hs')).1).1)⟩
  rcases List.mem_append.1 hff with r | r
  · exact ⟨List.mem_append_left _ r, fun t => by have := (q.lim f (q.x f t)).2; have := (hG f r).1; omega⟩
  · exact ⟨List.mem_append_right _ (hf f r).1, (hf f r).2⟩
theorem DpS.subF (h : DpS B w0 pd pc pz gh mn lw hi O e X F d w) (hG : ∀ g ∈ G, g ∈ F) : DpS B w0 pd pc pz gh mn lw hi O e X G d w := by
  obtain ⟨v, A, V, vp, U, q, hf⟩ := h.cd
  exact ⟨⟨v, A, V, vp, U, q, fun f hff => hf f (hG f hff)⟩, h.inv, h.bel⟩
theorem DpS.lim (h : DpS B w0 pd pc pz gh mn lw hi O e X F d w) : ∀ x ∈ X, B ≤ x ∧ x < w.heap.size := h.cd.lim
theorem DpS.app {z z' : Value} (h : DpS B w0 pd pc pz gh mn lw hi O e X (ownX z ++ F) d w) (hB : B ≤ w.heap.size) (hg : w.grownBy w1 z.ownBlock) (hz : z'.ownBlock = z.ownBlock ∨ z'.ownBlock = some w.heap.size) (hlt : ∀ g, z'.ownBlock = some g → g < w1.heap.size) :
    ∃ X', (∀ x ∈ X, x ∈ X') ∧ (∀ x ∈ X', x ∈ X ∨ w.heap.size ≤ x) ∧ DpS B w0 pd pc pz gh mn lw hi O e X' (ownX z' ++ F) d w1 := by
  have k := app_keep hg
  rcases hz with hz | hz
  · have ez : ownX z' = ownX z := by unfold ownX; rw [hz]
    rw [ez]
    exact ⟨X, fun _ q => q, fun _ q => .inl q, h.other hB k (fun s q => List.mem_append_left _ q)⟩
  · have ez : ownX z' = [w.heap.size] := by unfold ownX; rw [hz]; rfl
    rw [ez]
    have := hlt _ hz
    refine ⟨[w.heap.size] ++ X, fun x q => List.mem_append_right _ q, fun x q => ?_, (h.addK (G := [w.heap.size]) hB k (fun s q => List.mem_append_left _ q) (fun g q => by simp at q; subst q; omega)).subF (fun g q => ?_)⟩
    · rcases List.mem_append.1 q with r | r
      · simp at r; exact .inr (by omega)
      · exact .inl r
    · rcases List.mem_append.1 q with r | r
      · exact List.mem_append_left _ r
      · exact List.mem_append_right _ (List.mem_append_right _ r)
end
end Go.Proofs.YtcokmiidgdmdlaaGreatDoor

namespace Go.Proofs.YtcokmiidgdmdlaaGreatDoor
open Go.RowKit Go.Maps
set_option linter.unusedSimpArgs false
set_option linter.unusedVariables false
attribute [local go_sem ↓] Go.wp_at_zero Go.wp_at_succ

theorem own_obs {base : Nat} {w : World} {q : Option Addr} {k : Nat} {l : List Ob} (h : w.ownsRow base 72 2 (.slice q l.length k) l.length (encB l)) {j : Nat} {o : Ob} (hj : l[j]? = some o) :
    ∃ g, q = some ⟨g, 0, none⟩ ∧ l.length ≤ k ∧ k ≤ maxLen ∧ g < w.heap.size ∧ w.cell? ⟨g, j * 2, none⟩ = some (.int .i64 o.1) ∧ w.cell? ⟨g, j * 2 + 1, none⟩ = some (.int .i64 o.2) := by
  have r := own_rowO (X := []) h (fun _ _ q => by cases q)
  obtain ⟨p, cap, e, c1, c2⟩ := r.isSlice
  injection e with e1 e2 e3
  subst e1 e3
  rcases h.2 with ⟨e4, h3⟩ | ⟨g', cap', cur, e4, _⟩
  · have := (List.getElem?_eq_some_iff.1 hj).1; omega
  · injection e4 with e5 e6 e7
    subst e5
    obtain ⟨g, off, t, _, gl, k0, k1⟩ := r.at hj
    injection t with t; injection t with t1 t2
    subst t1 t2
    rw [Nat.zero_add] at k0 k1
    exact ⟨_, rfl, c1, c2, gl, k0, k1⟩
/-- so many taken, none given back -/
structure LsI (e i : Nat) (l : List Ob) (d : De) : Prop where
  f : FullI 8 e i d.c
  h : d.H = [([], []), ([], [])]
  p : d.P = []
  nd : l.Nodup
  sub : ∀ x ∈ l, x ∈ obsC e d.c.C
  len : l.length = i
/-- so many given back of all -/
structure LsG (e M i : Nat) (l : List Ob) (d : De) : Prop where
  f : FullI 8 e M d.c
  h : d.H = h0 l i :: [([], [])]
  p : d.P = []
  nd : l.Nodup
  sub : ∀ x ∈ l, x ∈ obsC e d.c.C
  len : l.length = M
/-- so many left to take back -/
structure LsP (e t : Nat) (l : List Ob) (d : De) : Prop where
  h : ∃ g R, d.H = g :: R ∧ stH l t g
  p : d.P = []
end Go.Proofs.YtcokmiidgdmdlaaGreatDoor

namespace Go.Proofs.YtcokmiidgdmdlaaGreatDoor
open Go.RowKit Go.Maps
set_option linter.unusedSimpArgs false
set_option linter.unusedVariables false
attribute [local go_sem ↓] Go.wp_at_zero Go.wp_at_succ

theorem run_appM {T E : TypeId} {z : Value} {s b : Nat} (hE : ElS T E z s b) {w : World} (ty : TypeId) {base : Nat} {v : Value} {n m : Nat} {xs ms : List Value} (hown : w.ownsRow base E s v n xs) {p : Option Addr} {c : Nat} (hm : ms.length = m * s) (hs : SrcV w p ms) (h1 : ∀ u ∈ ms, u.oneCell' = true)
    (hl : n + m ≤ 70000) (hb : base ≤ w.heap.size) :
    ∃ q k w', (Builtin.append_ #[T, T] ty #[v, .slice p m c]).run Tryz.prog w = .ok (.slice q (n + m) k) w' ∧ w'.ownsRow base E s (.slice q (n + m) k) (n + m) (xs ++ ms) ∧ w.grownBy w' v.ownBlock ∧
      ((Value.slice q (n + m) k).ownBlock = v.ownBlock ∨ (Value.slice q (n + m) k).ownBlock = some w.heap.size) := by
  obtain ⟨i0, hi, hz0, hz1, hz2⟩ := info_parts hE.info
  have ht := hE.und
  have hfew := hE.few
  have hpos := hE.pos
  rcases hs with ⟨rfl, hms⟩ | ⟨a, rfl, hc⟩
  · subst hms
    have hm0 : m = 0 := by
      rcases Nat.eq_zero_or_pos m with q | q
      · exact q
      · have h2 := Nat.mul_pos q hpos
        rw [List.length_nil] at hm
        omega
    subst hm0
    rcases hown.2 with ⟨rfl, hu⟩ | ⟨g, cap, cur, rfl, _, _, hnc, _⟩
    · refine ⟨none, 0, w, ?_, ?_, ⟨rfl, rfl, rfl, Nat.le_refl _, fun _ _ _ => rfl⟩, .inl rfl⟩
      · simp [Builtin.append_, run_underlying ht, sizeOf, typeInfo, hi, Builtin.lenOf, Builtin.firstCells, hu]
      · subst hu
        simpa using hown
    · refine ⟨some ⟨g, 0, none⟩, cap, w, ?_, by simpa using hown, ⟨rfl, rfl, rfl, Nat.le_refl _, fun _ _ _ => rfl⟩, .inl rfl⟩
      simp [Builtin.append_, run_underlying ht, sizeOf, typeInfo, hi, Builtin.lenOf, Builtin.firstCells, hnc, storeCells]
  · obtain ⟨v', w', hrun, h2, h3, _, h5⟩ := run_append_own_at (P := Tryz.prog) w base T ty E i0 z s b ht hi hz0 hz1 hz2 hE.one hE.pos v n xs hown a m c ms
      hm hc h1 (by unfold maxLen; omega) (by
        have : (n + m) * b ≤ 70000 * 64 := Nat.mul_le_mul hl hfew
        omega) hb
    have hf : ∃ q k, v' = .slice q (n + m) k := by
      rcases h2.2 with ⟨e, e2⟩ | ⟨g', cap', cur, e, _⟩
      · exact ⟨none, 0, by rw [e, e2]⟩
      · exact ⟨_, _, e⟩
    obtain ⟨q, k, rfl⟩ := hf
    exact ⟨q, k, w', hrun, h2, h3, h5⟩
theorem wpList_appM {T E : TypeId} {z : Value} {s b : Nat} (hE : ElS T E z s b) {base : Nat} {v : Value} {n m : Nat} {xs ms : List Value} {w : World} {p : Option Addr} {c : Nat} {ops : Array Oper} {rest : List Oper} {o : Oper} {a : Act} {Q : Exit → Act → World → Prop} (hgd : o.guard = none) (sl x : Operand)
    (ho : o.op = .call { callee := .builtin .append, args := #[sl, x], argTypes := #[T, T] }) (hv : a.eval sl = v) (hx : a.eval x = .slice p m c)
    (hown : w.ownsRow base E s v n xs) (hm : ms.length = m * s) (hs : SrcV w p ms) (h1 : ∀ u ∈ ms, u.oneCell' = true) (hl : n + m ≤ 70000) (hb : base ≤ w.heap.size)
    (h : ∀ q k w', w'.ownsRow base E s (.slice q (n + m) k) (n + m) (xs ++ ms) → w.grownBy w' v.ownBlock → ((Value.slice q (n + m) k).ownBlock = v.ownBlock ∨ (Value.slice q (n + m) k).ownBlock = some w.heap.size) → wpList Tryz.prog ops Q rest (a.put o.dst (.slice q (n + m) k)) w') : wpList Tryz.prog ops Q (o :: rest) a w := by
  refine wpList_plain hgd fun K hK => ?_
  obtain ⟨q, k, w', hrun, h2, h3, h5⟩ := run_appM hE (w := w) o.type hown hm hs h1 hl hb (c := c)
  unfold Oper.wp execOp
  simp only [ho, resolve, invoke, builtin, Sem.run_bind, Sem.run_pure, Result.andThen_ok, List.map_toArray, List.map_cons, List.map_nil, hv, hx, hrun]
  exact hK _ _ (h q k w' h2 h3 h5)
theorem wpList_zeros {w : World} {n : Nat} {ops : Array Oper} {rest : List Oper} {o : Oper} {a : Act} {Q : Exit → Act → World → Prop} (hgd : o.guard = none) (sl x : Operand)
    (ho : o.op = .call { callee := .builtin .append, args := #[sl, x], argTypes := #[70, 3] }) (hv : a.eval sl = .slice none 0 0) (hx : a.eval x = .int .i64 n) (h0 : 0 < n) (hn : n ≤ 70000)
    (h : ∀ g k w', n ≤ k → k ≤ maxLen → w'.ownsRow w.heap.size 72 2 (.slice (some ⟨g, 0, none⟩) 0 k) 0 [] → Below w.heap.size w w' → wpList Tryz.prog ops Q rest (a.put o.dst (.slice (some ⟨g, 0, none⟩) n k)) w') : wpList Tryz.prog ops Q (o :: rest) a w := by
  refine wpList_plain hgd fun K hK => ?_
  obtain ⟨i0, hi, hz0, hz1, hz2⟩ := info_parts elObj.info
  have hrun := Go.Lib.run_append_nil_zeros (P := Tryz.prog) w 70 3 o.type 72 i0 _ .i64 .i64 Tryz.underlying70 Tryz.underlying3 hi hz0 n h0 (by omega) (by omega) (by rw [hz2]; omega)
  unfold Oper.wp execOp
  simp only [ho, resolve, invoke, builtin, Sem.run_bind, Sem.run_pure, Result.andThen_ok, List.map_toArray, List.map_cons, List.map_nil, hv, hx, hrun]
  have hge := grownCap_ge w n 0 72
  have hle := grownCap_le_maxLen w n 0 72 (by unfold maxLen; omega)
  obtain ⟨cur, hcur⟩ : ∃ cur, cur = Builtin.zeroCells (Value.agg #[.int .i64 0, .int .i64 0]).cells n ++ Builtin.zeroCells (Value.agg #[.int .i64 0, .int .i64 0]).cells (grownCap w n 0 72 - n) := ⟨_, rfl⟩
  rw [← hcur]
  have hsz : cur.size = grownCap w n 0 72 * 2 := by
    have hz : ∀ j, (Builtin.zeroCells (Value.agg #[.int .i64 0, .int .i64 0]).cells j).size = j * 2 := fun j => by
      simp [Builtin.zeroCells, Value.cells]
    rw [hcur, Array.size_append, hz, hz]
    omega
  have hown : (w.drew.alloc (.cells cur 72)).ownsRow w.heap.size 72 2 (.slice (some ⟨w.heap.size, 0, none⟩) 0 (grownCap w n 0 72)) 0 [] :=
    ⟨rfl, .inr ⟨w.heap.size, _, cur, rfl, Nat.le_refl _, World.alloc_heap_new w.drew _, Nat.zero_le _, hle, hsz, by simp⟩⟩
  exact hK _ _ (h _ _ _ hge hle hown ((Below.refl _ _).drew.alloc (by simp) _))
set_option maxHeartbeats 1000000 in
theorem dgrow_ok (n : Nat) (w : World) (hn : n ≤ 70000) :
    Calls Tryz.prog 142 #[.slice none 0 0, .int .i64 n] w fun r w' => ∃ q k, r = .returned (.slice q 0 k) ∧ w'.ownsRow w.heap.size 72 2 (.slice q 0 k) 0 [] ∧ Below w.heap.size w w' := by
  have hw0 : IntKind.i64.wrap ((n : Int) - 0) = (n : Int) := by rw [IntWalk.i64_in _ (by omega)]; omega
  have hw1 : IntKind.i64.wrap (n : Int) = (n : Int) := IntWalk.i64_in _ (by omega)
  by_cases h0 : n = 0
  · subst h0
    go_enter Tryz.func142, Tryz.ntmps142
    go_wp2
    go_ret
    exact ⟨none, 0, rfl, World.ownsRow_nil _ _ _ _, Below.refl _ _⟩
  · have d0 : decide ((0 : Int) < (n : Int)) = true := decide_eq_true (by omega)
    have d1 : decide (0 < n) = true := decide_eq_true (by omega)
    have dn : ¬ ((n : Int) < 0) := by omega
    go_enter Tryz.func142, Tryz.ntmps142
    go_wp2_with (first | (at_builtin; refine wpList_zeros (n := n) (by rfl) (.tmp 20) (.tmp 21) (by rfl) (by rfl) (by rfl) (by omega) hn ?_; intro g k w1 hk1 hk2 hown hb))
    have HO := Lib.hid hown
    unfold maxLen at hk2
    clear hown
    go_wp2
    go_ret
    exact ⟨_, _, rfl, HO.out, hb⟩
section
variable {X Y S F G : List Nat} {B : Nat} {ev : Nat → Addr} {w w' w0 w1 : World} {pd pc pz gh e : Nat} {mn lw hi : Int} {O : List (List Int)} {v vp : Value} {A : SA} {V : HV} {U : List Value} {d d' : De} {c c' : Ca}
theorem RowO.srcO {q : Option Addr} {n k : Nat} {l : List Ob} (h : RowO X w (.slice q n k) l) : n = l.length ∧ SrcV w q (encB l) := by
  obtain ⟨p, cap, h1, h2, h3, h4⟩ := h
  injection h1 with e1 e2 e3
  subst e1 e2 e3
  refine ⟨rfl, ?_⟩
  cases l with
  | nil => 
    cases q with
    | none => exact .inl ⟨rfl, rfl⟩
    | some a => exact .inr ⟨a, rfl, fun j u hj => by simp [encB] at hj⟩
  | cons b r =>
    obtain ⟨g, off, t, _⟩ := h4 0 b.1 b.2 rfl
    subst t
    refine .inr ⟨_, rfl, encB_cells fun j a k hj => ?_⟩
    obtain ⟨g', off', t, _, _, c0, c1⟩ := h4 j a k hj
    injection t with t; injection t with t1 t2
    subst t1 t2
    exact ⟨c0, c1⟩
theorem flat_len {P : List (List Ob)} (h : ∀ m ∈ P, m.length = 4) : P.flatten.length = 4 * P.length := by
  induction P with
  | nil => rfl
  | cons a P ih =>
    simp only [List.flatten_cons, List.length_append, List.length_cons, ih fun m hm => h m (List.mem_cons_of_mem _ hm), h a (by simp)]
    omega
theorem flat_snoc {P : List (List Ob)} {i : Nat} {m : List Ob} (h : P[i]? = some m) : (P.take (i + 1)).flatten = (P.take i).flatten ++ m := by
  rw [List.take_add_one, h]; simp
set_option maxHeartbeats 4000000 in
set_option maxRecDepth 100000 in
theorem dconcat_ok (h : CD B w X pd pc pz gh mn lw hi O e v A V vp U d) (hI : InvD e d) :
    Calls Tryz.prog 101 #[vp] w fun r w' => ∃ q k, r = .returned (.slice q d.P.flatten.length k) ∧ w'.ownsRow w.heap.size 72 2 (.slice q d.P.flatten.length k) d.P.flatten.length (encB d.P.flatten) ∧ Below w.heap.size w w' := by
  obtain ⟨qp, kp, rfl, kp1, kp2, hrow⟩ := h.de.pile
  have hlen := held_len hI
  have few := obs_few hI.c
  have HP4 : Hid (∀ m ∈ d.P, m.length = 4) := hI.p4
  have HROW := Lib.hid hrow
  obtain ⟨N, hN⟩ : ∃ N, N = d.P.length := ⟨_, rfl⟩
  have EN := Lib.hid hN
  have HFL : Hid (d.P.flatten.length = 4 * N) := by show _ = _; rw [hN]; exact flat_len hI.p4
  have HTL : Hid (∀ i, i ≤ N → (d.P.take i).flatten.length = 4 * i) := fun i hi => by
    rw [flat_len (fun m hm => hI.p4 m (List.mem_of_mem_take hm)), List.length_take, ← hN]
    congr 1; omega
  have ALL : Hid (d.P.take N = d.P) := by show _ = _; rw [hN]; simp
  rw [← hN] at kp1 hlen ⊢
  rw [HFL.out]
  have N4 : 4 * N ≤ 65536 := by omega
  unfold maxLen at kp2
  clear h hI hrow hN hlen few
  go_enter Tryz.func101, Tryz.ntmps101
  go_wp2_with fail
  go_loopw [3, 11] (fun sv iv wr => ∃ i : Nat, i ≤ N ∧ sv = .int .i64 ((4 * i : Nat) : Int) ∧ iv = .int .i64 i ∧ Below w.heap.size w wr) (fun _ iv _ => N - (intOf iv).toNat)
  case atStart => exact ⟨0, Nat.zero_le _, rfl, by go_num, Below.refl _ _⟩
  case round =>
    obtain ⟨i, hi, rfl, rfl, hbel⟩ := hrel
    by_cases hlt : i < N
    · obtain ⟨m, hm⟩ : ∃ m, d.P[i]? = some m := ⟨d.P[i]'(by rw [← EN.out]; exact hlt), List.getElem?_eq_getElem _⟩
      obtain ⟨g, p, c, rfl, hg, hc0, _⟩ := HROW.out i m hm
      have hm4 := HP4.out m (List.mem_of_getElem? hm)
      rw [hm4] at hc0
      have ck := (hbel.cell (p := ⟨g, i, none⟩) hg).trans hc0
      have gl : g < wr.heap.size := Nat.lt_of_lt_of_le hg hbel.size
      have hw : IntKind.i64.wrap (((4 * i : Nat) : Int) + 4) = ((4 * (i + 1) : Nat) : Int) := by rw [IntWalk.i64_in _ (by omega)]; omega
      have hw' : IntKind.i64.wrap (((4 * i : Nat) : Int) + ((4 : Nat) : Int)) = ((4 * (i + 1) : Nat) : Int) := by rw [IntWalk.i64_in _ (by omega)]; omega
      have hnn : ¬ (((4 * (i + 1) : Nat) : Int) < 0) := by omega
      have d0 : decide (((4 * (i + 1) : Nat) : Int) < 0) = false := decide_eq_false hnn
      obtain ⟨z, hz⟩ : ∃ z : Int, z = ((4 * i : Nat) : Int) := ⟨_, rfl⟩
      obtain ⟨z2, hz2⟩ : ∃ z : Int, z = ((4 * (i + 1) : Nat) : Int) := ⟨_, rfl⟩
      rw [← hz, ← hz2] at hw hw'
      rw [← hz2] at hnn d0
      rw [← hz]
      have HZ2 := Lib.hid hz2
      have hik : i < kp := by omega
      clear hm hc0 hz hz2 hm4
      go_wp2
      go_round
      case rel => exact ⟨i + 1, by omega, by rw [← HZ2.out], by go_num, hbel⟩
      case measure => simp [intOf]; omega
    · obtain rfl : i = N := by omega
      have GR := Lib.hid (dgrow_ok (4 * i) wr (by omega))
      have HB := Lib.hid hbel
      obtain ⟨n4, hn4⟩ : ∃ n4, n4 = 4 * i := ⟨_, rfl⟩
      have HN4 := Lib.hid hn4
      rw [← hn4] at GR ⊢
      clear hbel hlt hn4
      go_wp2_with fail
      refine GR.out.mono ?_
      rintro r w2 ⟨q, k, rfl, hown, hb2⟩
      have HO2 := Lib.hid hown
      have HB2 := Lib.hid (HB.out.trans (hb2.mono HB.out.size))
      have zr := HB.out.size
      have z2 := hb2.size
      clear GR hown hb2
      go_wp2_with fail
      obtain ⟨wq, ewq⟩ : ∃ x, x = wr := ⟨_, rfl⟩
      subst ewq
      go_loopw [6, 27] (fun lv iv ws => ∃ (j : Nat) (q : Option Addr) (k : Nat), j ≤ i ∧ iv = .int .i64 j ∧ lv = .slice q (4 * j) k ∧ Hid (ws.ownsRow wq.heap.size 72 2 (.slice q (4 * j) k) (4 * j) (encB (d.P.take j).flatten)) ∧ Below w.heap.size w ws ∧ wq.heap.size ≤ ws.heap.size) (fun _ iv _ => i - (intOf iv).toNat)
      case atStart => exact ⟨0, q, k, Nat.zero_le _, by go_num, rfl, HO2.out, HB2.out, z2⟩
      case round =>
        obtain ⟨j, q, k, hj, rfl, rfl, HO, hbel, hsz⟩ := hrel
        by_cases hlt : j < i
        · obtain ⟨m, hm⟩ : ∃ m, d.P[j]? = some m := ⟨d.P[j]'(by rw [← EN.out]; exact hlt), List.getElem?_eq_getElem _⟩
          obtain ⟨g, p, c, rfl, hg, hc0, hro⟩ := HROW.out j m hm
          have hm4 := HP4.out m (List.mem_of_getElem? hm)
          obtain ⟨_, hsr⟩ := (hro.below hbel).srcO
          have HSR := Lib.hid hsr
          rw [hm4] at hc0
          have ck := (hbel.cell (p := ⟨g, j, none⟩) hg).trans hc0
          have gl : g < wr.heap.size := Nat.lt_of_lt_of_le hg hbel.size
          have hjk : j < kp := by omega
          have EL : Hid ((encB m).length = 4 * 2) := by show _ = _; rw [encB_length, hm4]
          have SN : Hid (encB (d.P.take (j + 1)).flatten = encB (d.P.take j).flatten ++ encB m) := by show _ = _; rw [flat_snoc hm, encB_append]
          have HB := Lib.hid hbel
          clear hm hc0 hro hsr hm4 hbel
          go_wp2_with (first | (at_builtin; refine wpList_appM elObj (base := wq.heap.size) (v := .slice q (4 * j) k) (n := 4 * j) (m := 4) (ms := encB m) (by rfl) (.tmp 31) (.tmp 32) (by rfl) (by rfl) (by rfl) HO.out EL.out HSR.out (encB_one m) (by omega) hsz ?_; intro q4 k4 w4 hown4 hg4 hob4))
          have hb4 : Below w.heap.size w w4 := HB.out.grown hg4 HB.out.size (fun r hr => Nat.le_trans zr (HO.out.lt r hr).1)
          have HO4 := Lib.hid hown4
          have hs4 : wq.heap.size ≤ w4.heap.size := Nat.le_trans hsz hg4.size
          clear hown4 hg4 hob4
          go_wp2
          go_round
          case rel => exact ⟨j + 1, q4, k4, by omega, by go_num, rfl, (show World.ownsRow _ _ _ _ _ _ _ from by rw [SN.out]; exact HO4.out), hb4, hs4⟩
          case measure => simp [intOf]; omega
        · obtain rfl : j = i := by omega
          have HO' := HO.out
          rw [ALL.out] at HO'
          have HOO : Hid (wr.ownsRow w.heap.size 72 2 (.slice q n4 k) n4 (encB d.P.flatten)) := by
            show World.ownsRow _ _ _ _ _ _ _
            rw [HN4.out]
            exact HO'.mono zr
          rw [← HN4.out]
          clear HO HO'
          go_wp2
          go_ret
          refine ⟨q, k, by rw [← HN4.out]; rfl, ?_, hbel⟩
          have t := HOO.out
          rw [HN4.out] at t
          exact t
end
end Go.Proofs.YtcokmiidgdmdlaaGreatDoor

namespace Go.Proofs.YtcokmiidgdmdlaaGreatDoor
open Go.RowKit Go.Maps
set_option linter.unusedSimpArgs false
set_option linter.unusedVariables false
attribute [local go_sem ↓] Go.wp_at_zero Go.wp_at_succ

section
variable {X Y S F G : List Nat} {B : Nat} {ev : Nat → Addr} {w w' w0 w1 : World} {pd pc pz gh e : Nat} {mn lw hi : Int} {O : List (List Int)} {v vp : Value} {A : SA} {V : HV} {U : List Value} {d d' : De} {c c' : Ca}
theorem CD.gave (h : CD B w X pd pc pz gh mn lw hi O e v A V vp U d) (hc : CS B w' pc pz mn lw hi O e X v A c') (k : Keep (cay pc v A) w w') (hL : c'.L = d.c.L) : CD B w' X pd pc pz gh mn lw hi O e v A V vp U ⟨c', d.H, d.P⟩ :=
  ⟨by have := h.x; rw [← hL] at this; exact this, h.limK k, hc, h.de.keep k (fun s q => ⟨fun t => (h.ne s t).1 q, .inl (h.cs.ch.mem s q)⟩), by have := h.ne; rw [← hL] at this; exact this⟩
theorem backC_snoc {l : List Ob} {i : Nat} {o : Ob} (h : l[i]? = some o) : backC e c (l.take (i + 1)) = (giveC e (backC e c (l.take i)) o).1 := by
  have e : l.take (i + 1) = l.take i ++ [o] := by rw [List.take_add_one, h]; rfl
  rw [e, backC_app]; rfl
theorem find_of {o : Ob} (hI : InvC e c) (ho : o ∈ obsC e c.C) : ∃ i, findS e o c.C = some i := by
  cases q : findS e o c.C with
  | some i => exact ⟨i, rfl⟩
  | none =>
    have := give_has hI ho
    unfold giveC at this
    rw [q] at this
    simp at this
theorem not_take {l : List Ob} (h : l.Nodup) {i : Nat} {o : Ob} (ho : l[i]? = some o) : o ∉ l.take i := fun q => by
  obtain ⟨j, hj, hg⟩ := List.mem_iff_getElem.1 q
  have hj' : j < i := by rw [List.length_take] at hj; omega
  rw [List.getElem_take] at hg
  obtain ⟨hil, hie⟩ := List.getElem?_eq_some_iff.1 ho
  have := List.pairwise_iff_getElem.1 h j i (by omega) hil hj'
  rw [hg, hie] at this
  exact this rfl
set_option maxHeartbeats 4000000 in
set_option maxRecDepth 100000 in
theorem dback_ok {q : Option Addr} {n k : Nat} {l : List Ob} (h : CD B w X pd pc pz gh mn lw hi O e v A V vp U d) (hI : InvC e d.c) (hl : RowO X w (.slice q n k) l) (h16 : l.length ≤ 65536) (hs : ∀ o ∈ l, o ∈ obsC e d.c.C) (hnd : l.Nodup) :
    Calls Tryz.prog 100 #[.pointer (some ⟨pd, 0, none⟩), .slice q n k] w fun r w' => r = .returned (.int .i64 n) ∧ CD B w' X pd pc pz gh mn lw hi O e v A V vp U ⟨backC e d.c l, d.H, d.P⟩ ∧ Keep (cay pc v A) w w' := by
  obtain ⟨p', cap', e1, nk, km, hrow⟩ := id hl
  obtain ⟨rfl, en, rfl⟩ := Value.slice.inj e1
  have EN := Lib.hid en
  rw [← en] at h16 nk
  have HS := Lib.hid hs; have HND := Lib.hid hnd; have HL := Lib.hid hl; have HIN := Lib.hid hI
  have CM : Hid (∀ s ∈ cay pc v A, s ∈ X ∨ w.heap.size ≤ s) := fun s q => .inl (h.cs.ch.mem s q)
  have START : Hid (CD B w X pd pc pz gh mn lw hi O e v A V vp U ⟨backC e d.c (l.take 0), d.H, d.P⟩) := h
  have ALL : Hid (l.take n = l) := by show _ = _; rw [en]; simp
  unfold maxLen at km
  clear h hI hl hs hnd hrow e1 en
  go_enter Tryz.func100, Tryz.ntmps100
  go_wp2_with fail
  go_loopw [9] (fun iv wr => ∃ i : Nat, i ≤ n ∧ iv = .int .i64 i ∧ Hid (CD B wr X pd pc pz gh mn lw hi O e v A V vp U ⟨backC e d.c (l.take i), d.H, d.P⟩) ∧ Hid (Keep (cay pc v A) w wr)) (fun iv _ => n - (intOf iv).toNat)
  case atStart => exact ⟨0, Nat.zero_le _, by go_num, START, Keep.refl _ _⟩
  case round =>
    obtain ⟨i, hin, rfl, HCD, HK⟩ := hrel
    by_cases hlt : i < n
    · obtain ⟨o, ho⟩ : ∃ o, l[i]? = some o := ⟨l[i]'(by rw [← EN.out]; exact hlt), List.getElem?_eq_getElem _⟩
      obtain ⟨g, off, eg, _, gl, y0, y1⟩ := (HL.out.keep HK.out CM.out).at ho
      subst eg
      obtain ⟨i1, _, i3⟩ := backC_inv (l := l.take i) HIN.out
      have hob := (i3 o).2 ⟨HS.out o (List.mem_of_getElem? ho), not_take HND.out ho⟩
      have fit := ob_one i1 hob
      obtain ⟨fi, hf⟩ := find_of i1 hob
      have GV : Hid (∀ W, Below wr.heap.size wr W → Calls Tryz.prog 39 #[.pointer (some ⟨pc, 0, none⟩), .agg #[.int .i64 o.1, .int .i64 o.2]] W fun r w' => r = .returned .nilIface ∧ CD B w' X pd pc pz gh mn lw hi O e v A V vp U ⟨backC e d.c (l.take (i + 1)), d.H, d.P⟩ ∧ Keep (cay pc v A) w w') := fun W hW =>
        (sgive_yes o.1 o.2 (HCD.out.cs.below hW) i1 (by have := fit.1; omega) (by have := fit.2.1; omega) hf).mono fun r w' ⟨hr, hc, hk⟩ => ⟨hr, by rw [backC_snoc ho]; exact (HCD.out.below hW).gave hc hk (giveC_same _ _ _), (HK.out.step hW).then hk⟩
      have DC := HCD.out.de.d
      have c0 := DC.c 0 _ rfl; have cl := DC.lt
      have hli : (i : Int) < (n : Int) := by omega
      have hl0 : (0 : Int) ≤ (i : Int) := by omega
      clear ho hob fit hf i1 i3 DC
      go_wp2_with fail
      refine wp_tail 5 (by kernel_rfl) (by kernel_rfl) ?_
      simp only [List.take_succ_cons, List.take_zero, List.drop_succ_cons, List.drop_zero]
      repeat still_step
      refine wpStill_nil ?_
      go_wp2_with fail
      refine (GV.out _ (by repeat (first | exact Below.refl _ _ | refine Below.drew ?_ | refine below_drewN ?_ _ | refine Below.trans ?_ (Below.mono (by assumption) (by first | omega | (simp; omega) | (simp; done))) | refine Below.alloc ?_ (by first | omega | (simp; omega) | (simp; done)) _ | refine Below.setCell ?_ (by first | omega | (simp; omega) | (simp; done)) _))).mono ?_
      rintro r w5 ⟨rfl, hcd5, hk5⟩
      have HCD5 := Lib.hid hcd5; have HK5 := Lib.hid hk5
      clear hcd5 hk5 GV y0 y1 c0 cl
      go_wp2
      go_roundw
      case rel => exact ⟨i + 1, by omega, by go_num, HCD5, HK5⟩
      case measure => simp [intOf]; omega
    · obtain rfl : i = n := by omega
      have HCD' := HCD.out
      rw [ALL.out] at HCD'
      have HC := Lib.hid HCD'
      clear HCD HCD'
      go_wp2
      go_ret
      exact ⟨rfl, HC.out, HK.out⟩
/-- what a drain comes to -/
def DrnPost (B : Nat) (ev : Nat → Addr) (pd pc pz gh : Nat) (mn lw hi : Int) (O : List (List Int)) (e : Nat) (X F : List Nat) (w : World) (r : De × Nat × Nat) (en : Ending) (w' : World) : Prop :=
  en = .returned (.tuple #[.int .i64 r.2.2, errV ev r.2.1]) ∧ CDx B w' X F pd pc pz gh mn lw hi O e r.1 ∧ Keep (off X F) w w'
set_option maxHeartbeats 1000000 in
theorem ddrain_bad (k : Int) (hE : ErrZ B ev w) (h : CD B w X pd pc pz gh mn lw hi O e v A V vp U d) (hF : Hid (∀ f ∈ F, f ∈ X ∧ f ∉ xd pc v A d.c.L pd gh vp)) (hk : handD d k = none) :
    Calls Tryz.prog 48 #[.pointer (some ⟨pd, 0, none⟩), .int .i64 k] w (DrnPost B ev pd pc pz gh mn lw hi O e X F w (drainD e d k)) := by
  have ed : drainD e d k = (d, 2, 0) := by unfold drainD; rw [hk]
  rw [ed]
  have NO := Lib.hid (dhand_err hE.c h k (handD_none hk))
  have e1 : errV ev 2 = .iface 291 (.pointer (some (ev 2))) := rfl
  have FIN : Hid (∀ W, Below w.heap.size w W → DrnPost B ev pd pc pz gh mn lw hi O e X F w (d, 2, 0) (.returned (.tuple #[.int .i64 0, .iface 291 (.pointer (some (ev 2)))])) W) := fun W b => ⟨rfl, ⟨_, _, _, _, _, h.below b, hF.out⟩, Keep.of b⟩
  rw [e1] at NO
  clear h hk hE e1 ed
  go_enter Tryz.func48, Tryz.ntmps48
  go_wp2_with fail
  refine NO.out.mono ?_
  rintro r w1 ⟨rfl, hb1⟩
  go_wp2
  go_ret2
  exact FIN.out _ hb1
set_option maxHeartbeats 4000000 in
set_option maxRecDepth 100000 in
theorem ddrain_yes (k : Nat) (h : CD B w X pd pc pz gh mn lw hi O e v A V vp U d) (hF : Hid (∀ f ∈ F, f ∈ X ∧ f ∉ xd pc v A d.c.L pd gh vp)) (hI : InvD e d) {l1 l2 : List Ob} (hk : d.H[k]? = some (l1, l2)) :
    Calls Tryz.prog 48 #[.pointer (some ⟨pd, 0, none⟩), .int .i64 k] w (DrnPost B ev pd pc pz gh mn lw hi O e X F w (drainD e d k)) := by
  have hkl := (List.getElem?_eq_some_iff.1 hk).1
  have ed : drainD e d k = (⟨backC e d.c (l1 ++ l2), d.H.set k ([], []), d.P⟩, 0, (l1 ++ l2).length) := by unfold drainD; rw [handD_of hk]; simp
  rw [ed]
  obtain ⟨p, hp, o1, o2, g0, g1, f0, f1, gl⟩ := h.hand hk
  obtain ⟨⟨pa, pb⟩, rfl⟩ : ∃ q, q = p := ⟨_, rfl⟩
  obtain ⟨qa, ca, e1, _, _⟩ := o1.isSlice
  obtain ⟨qb, cb, e2, _, _⟩ := o2.isSlice
  simp only at e1 e2 g0 g1 hp
  subst e1 e2
  have h4 := hI.h4 _ (List.mem_of_getElem? hk)
  have hcnt : ∀ a, l1.count a + l2.count a ≤ (held d).count a := fun a => by
    rw [held_cnt]
    have := heldH_le a hk
    simp only at this
    omega
  have hsub : ∀ o, 0 < l1.count o + l2.count o → o ∈ obsC e d.c.C := fun o q => (hI.cnt o).2 (by have := hcnt o; omega)
  have s1 : ∀ o ∈ l1, o ∈ obsC e d.c.C := fun o q => hsub o (by have := List.count_pos_iff.2 q; omega)
  have nd1 : l1.Nodup := List.nodup_iff_count.2 fun a => by have := hcnt a; have := (hI.cnt a).1; omega
  have nd2 : l2.Nodup := List.nodup_iff_count.2 fun a => by have := hcnt a; have := (hI.cnt a).1; omega
  obtain ⟨i1, iL, i3⟩ := backC_inv (l := l1) hI.c
  have s2 : ∀ o ∈ l2, o ∈ obsC e (backC e d.c l1).C := fun o q => (i3 o).2 ⟨hsub o (by have := List.count_pos_iff.2 q; omega), fun r => by
    have a1 := List.count_pos_iff.2 q; have a2 := List.count_pos_iff.2 r; have := hcnt o; have := (hI.cnt o).1; omega⟩
  have HD := Lib.hid (dhand_ok h k hkl)
  have cm : ∀ s ∈ cay pc v A, s ∈ X ∨ w.heap.size ≤ s := fun s q => .inl (h.cs.ch.mem s q)
  have ng : gh ∉ cay pc v A := (h.ne gh h.gh_mem).1
  have BK1 : Hid (∀ W, Below w.heap.size w W → Calls Tryz.prog 100 #[.pointer (some ⟨pd, 0, none⟩), .slice qa l1.length ca] W fun r w' => r = .returned (.int .i64 l1.length) ∧ CD B w' X pd pc pz gh mn lw hi O e v A V vp U ⟨backC e d.c l1, d.H, d.P⟩ ∧ Keep (cay pc v A) w w') := fun W hW =>
    (dback_ok (h.below hW) hI.c (o1.below hW) (by have := h4.1; simp only at this; omega) s1 nd1).mono fun r w' ⟨a, b, c⟩ => ⟨a, b, (Keep.of hW).then c⟩
  have BK2 : Hid (∀ wb W, CD B wb X pd pc pz gh mn lw hi O e v A V vp U ⟨backC e d.c l1, d.H, d.P⟩ → Keep (cay pc v A) w wb → Below wb.heap.size wb W → Calls Tryz.prog 100 #[.pointer (some ⟨pd, 0, none⟩), .slice qb l2.length cb] W fun r w' => r = .returned (.int .i64 l2.length) ∧ CD B w' X pd pc pz gh mn lw hi O e v A V vp U ⟨backC e d.c (l1 ++ l2), d.H, d.P⟩ ∧ Keep (cay pc v A) w w') := fun wb W hc hkb hW =>
    (dback_ok (hc.below hW) i1 ((o2.keep hkb cm).below hW) (by have := h4.2; simp only at this; omega) s2 nd2).mono fun r w' ⟨a, b, c⟩ => ⟨a, by rw [backC_app]; exact b, (hkb.step hW).then c⟩
  have KC : Hid (∀ w', Keep (cay pc v A) w w' → w'.cell? ⟨gh, k * 2, none⟩ = some (.slice qa l1.length ca) ∧ w'.cell? ⟨gh, k * 2 + 1, none⟩ = some (.slice qb l2.length cb) ∧ w'.frozen? ⟨gh, k * 2, none⟩ = false ∧ w'.frozen? ⟨gh, k * 2 + 1, none⟩ = false ∧ gh < w'.heap.size) := fun w' kk =>
    ⟨(kk.cell gl ng).trans g0, (kk.cell gl ng).trans g1, (kk.frozen gl ng).trans f0, (kk.frozen gl ng).trans f1, Nat.lt_of_lt_of_le gl kk.size⟩
  have HLH := Lib.hid h.de.hs
  have VL : Hid (V[k]? = some (.slice qa l1.length ca, .slice qb l2.length cb)) := hp
  have FIN : Hid (∀ wc W, CD B wc X pd pc pz gh mn lw hi O e v A V vp U ⟨backC e d.c (l1 ++ l2), d.H, d.P⟩ → Keep (cay pc v A) w wc → W = (wc.setCell ⟨gh, k * 2, none⟩ (.slice none 0 0)).setCell ⟨gh, k * 2 + 1, none⟩ (.slice none 0 0) →
      DrnPost B ev pd pc pz gh mn lw hi O e X F w (⟨backC e d.c (l1 ++ l2), d.H.set k ([], []), d.P⟩, 0, (l1 ++ l2).length) (.returned (.tuple #[.int .i64 ((l1.length : Int) + (l2.length : Int)), .nilIface])) W) := fun wc W hc hkc hW => by
    have a1 := hloc1 hc.de.hs hp (.slice none 0 0)
    have a2 := hloc2 a1 (hset2 (by rw [h.de.hl]; exact hkl) _) (.slice none 0 0)
    rw [hset1] at a2
    simp only at a2
    rw [← hW] at a2
    have kk : Keep [gh] wc W := by rw [hW]; exact ((Keep.refl _ _).setCell (p := ⟨gh, k * 2, none⟩) (.inl (by simp)) _).setCell (p := ⟨gh, k * 2 + 1, none⟩) (.inl (by simp)) _
    have hcd := hc.setHand k (p' := (.slice none 0 0, .slice none 0 0)) (h' := ([], [])) hkl (RowO.nil X wc) (RowO.nil X wc) kk a2
    refine ⟨by simp [errV], ⟨_, _, _, _, _, hcd, ?_⟩, ?_⟩
    · have hL : (backC e d.c (l1 ++ l2)).L = d.c.L := (backC_inv (l := l1 ++ l2) hI.c).2.1
      show ∀ f ∈ F, f ∈ X ∧ f ∉ xd pc v A (backC e d.c (l1 ++ l2)).L pd gh vp
      rw [hL]; exact hF.out
    · have k1 := hkc.mono (S' := off X F) (fun s q => h.offd hF.out (List.mem_append_right _ (List.mem_append_left _ q)))
      exact k1.trans kk (fun s q => by simp at q; subst q; exact .inl (h.offy hF.out h.gh_mem))
  have n1 : l1.length ≤ 4 := h4.1
  have n2 : l2.length ≤ 4 := h4.2
  obtain ⟨m1, hm1⟩ : ∃ m, m = l1.length := ⟨_, rfl⟩
  obtain ⟨m2, hm2⟩ : ∃ m, m = l2.length := ⟨_, rfl⟩
  rw [← hm1] at BK1 KC FIN n1 g0
  rw [← hm2] at BK2 KC FIN n2 g1
  have hw1 : IntKind.i64.wrap ((m1 : Int) + (m2 : Int)) = (m1 : Int) + (m2 : Int) := IntWalk.i64_in _ (by omega)
  clear h hI hk ed hp o1 o2 h4 hcnt hsub s1 s2 nd1 nd2 i1 iL i3 cm hm1 hm2 f0 f1
  go_enter Tryz.func48, Tryz.ntmps48
  go_wp2_with fail
  refine HD.out.mono ?_
  rintro r' w1 ⟨rfl, rfl⟩
  clear HD
  go_wp2_with fail
  go_region_held3 (fun w' => w'.cell? ⟨gh, k * 2, none⟩ = some (.slice qa m1 ca) ∧ w'.cell? ⟨gh, k * 2 + 1, none⟩ = some (.slice qb m2 cb)) (go_keep) (first
    | (go_at_call_of 100 (Value.slice qa m1 ca); refine (BK1.out _ (by repeat (first | exact Below.refl _ _ | refine Below.drew ?_ | refine below_drewN ?_ _ | refine Below.trans ?_ (Below.mono (by assumption) (by first | omega | (simp; omega) | (simp; done))) | refine Below.alloc ?_ (by first | omega | (simp; omega) | (simp; done)) _ | refine Below.setCell ?_ (by first | omega | (simp; omega) | (simp; done)) _))).mono ?_; rintro e' wb ⟨rfl, cdb, kb⟩; have x0 := (KC.out _ kb).1; have x1 := (KC.out _ kb).2.1)
    | (go_at_call_of 100 (Value.slice qb m2 cb); refine (BK2.out _ _ cdb kb (by repeat (first | exact Below.refl _ _ | refine Below.drew ?_ | refine below_drewN ?_ _ | refine Below.trans ?_ (Below.mono (by assumption) (by first | omega | (simp; omega) | (simp; done))) | refine Below.alloc ?_ (by first | omega | (simp; omega) | (simp; done)) _ | refine Below.setCell ?_ (by first | omega | (simp; omega) | (simp; done)) _))).mono ?_; rintro e' wc ⟨rfl, cdc, kc⟩; have y0 := (KC.out _ kc).1; have y1 := (KC.out _ kc).2.1))
  have HCC := Lib.hid cdc; have HKC := Lib.hid kc
  obtain ⟨z0, z1, zf0, zf1, zl⟩ := KC.out _ kc
  clear cdc kc cdb kb
  go_wp2
  go_ret2
  exact FIN.out _ _ HCC.out HKC.out rfl
theorem ddrain_any (k : Int) (hE : ErrZ B ev w) (h : CD B w X pd pc pz gh mn lw hi O e v A V vp U d) (hF : Hid (∀ f ∈ F, f ∈ X ∧ f ∉ xd pc v A d.c.L pd gh vp)) (hI : InvD e d) :
    Calls Tryz.prog 48 #[.pointer (some ⟨pd, 0, none⟩), .int .i64 k] w (DrnPost B ev pd pc pz gh mn lw hi O e X F w (drainD e d k)) := by
  cases hh : handD d k with
  | none => exact ddrain_bad k hE h hF hh
  | some g =>
    obtain ⟨k0, h1, h2, h3⟩ := handD_some hh
    obtain ⟨kn, hkn⟩ : ∃ kn, kn = k.toNat := ⟨_, rfl⟩
    rw [← hkn] at h1 h3
    subst h3
    exact ddrain_yes kn h hF hI h1
theorem CD.dropPile (h : CD B w X pd pc pz gh mn lw hi O e v A V vp U d) (kk : Keep [pd] w w') (hd : LocN w' pd [.pointer (some ⟨pc, 0, none⟩), .slice (some ⟨gh, 0, none⟩) d.H.length d.H.length, .slice none 0 0]) :
    CD B w' X pd pc pz gh mn lw hi O e v A V (.slice none 0 0) [] ⟨d.c, d.H, []⟩ := by
  obtain ⟨n0, nn⟩ := List.nodup_cons.1 h.de.nd
  have hpg : gh ≠ pd := fun q => n0 (q ▸ List.mem_cons_self ..)
  have fg := h.far pd h.pd_mem
  have hs : ∀ s ∈ [pd], s ∈ X ∨ w.heap.size ≤ s := fun s q => by simp at q; subst q; exact .inl fg.1
  have ed : day pd gh (.slice none 0 0) = [pd, gh] := rfl
  have sd : ∀ y ∈ day pd gh (.slice none 0 0), y ∈ day pd gh vp := fun y hy => by
    rw [ed] at hy
    simp at hy
    rcases hy with rfl | rfl
    · exact h.pd_mem
    · exact h.gh_mem
  refine ⟨fun y hy => ?_, h.limK kk, h.cs.z.keep kk (fun s q => by simp at q; subst q; exact .inl ⟨fg.1, fg.2.2⟩) |> fun z => ⟨z, h.cs.ch.keep kk (fun s q => by simp at q; subst q; exact fg.2.1), h.cs.ne, h.cs.l0⟩, ?_, fun y hy => h.ne y (sd y hy)⟩
  · rcases List.mem_append.1 hy with q | q
    · exact h.x y (List.mem_append_left _ (sd y q))
    · exact h.x y (List.mem_append_right _ q)
  refine ⟨hd, h.de.hs.keep kk (by simpa using hpg), h.de.hl, fun i p g hp hg' => ⟨(h.de.ho i p g hp hg').1.keep kk hs, (h.de.ho i p g hp hg').2.keep kk hs⟩, ⟨rfl, .inl ⟨rfl, rfl⟩⟩, rfl, fun i u m hu hm => by simp at hu, fun y hy => h.de.mem y (sd y hy), by rw [ed]; simpa using fun q => hpg q.symm, fun y hy => ?_⟩
  exact ⟨(h.de.lim y (sd y hy)).1, Nat.lt_of_lt_of_le (h.de.lim y (sd y hy)).2 kk.size⟩
set_option maxHeartbeats 2000000 in
set_option maxRecDepth 100000 in
theorem dempty_ok (hB : B ≤ w.heap.size) (h : CD B w X pd pc pz gh mn lw hi O e v A V vp U d) (hF : Hid (∀ f ∈ F, f ∈ X ∧ f ∉ xd pc v A d.c.L pd gh vp)) (hI : InvD e d) :
    Calls Tryz.prog 47 #[.pointer (some ⟨pd, 0, none⟩)] w fun r w' => r = .returned (.int .i64 (emptyD e d).2) ∧ CDx B w' X F pd pc pz gh mn lw hi O e (emptyD e d).1 ∧ Keep (off X F) w w' := by
  have CC := Lib.hid (dconcat_ok h hI)
  have hcnt : ∀ a, d.P.flatten.count a ≤ (held d).count a := fun a => by rw [held_cnt]; omega
  have hsub : ∀ o ∈ d.P.flatten, o ∈ obsC e d.c.C := fun o q => (hI.cnt o).2 (by have := hcnt o; have := List.count_pos_iff.2 q; omega)
  have hnd : d.P.flatten.Nodup := List.nodup_iff_count.2 fun a => by have := hcnt a; have := (hI.cnt a).1; omega
  have h16 : d.P.flatten.length ≤ 65536 := Nat.le_trans (nodup_len hnd hsub) (obs_few hI.c)
  have emp : emptyD e d = (⟨backC e d.c d.P.flatten, d.H, []⟩, d.P.flatten.length) := rfl
  rw [emp]
  obtain ⟨FL, hFL⟩ : ∃ l, l = d.P.flatten := ⟨_, rfl⟩
  rw [← hFL] at CC hsub hnd h16 ⊢
  have BK : Hid (∀ W q k, Below w.heap.size w W → W.ownsRow w.heap.size 72 2 (.slice q FL.length k) FL.length (encB FL) → Calls Tryz.prog 100 #[.pointer (some ⟨pd, 0, none⟩), .slice q FL.length k] W fun r w' => r = .returned (.int .i64 FL.length) ∧ CD B w' X pd pc pz gh mn lw hi O e v A V vp U ⟨backC e d.c FL, d.H, d.P⟩ ∧ Keep (cay pc v A) w w') := fun W q k hW hown =>
    (dback_ok (h.below hW) hI.c (own_rowO hown (fun g hg r => by have := (hown.lt g hg).1; have := (h.lim g r).2; omega)) h16 hsub hnd).mono fun r w' ⟨a, b, c⟩ => ⟨a, b, (Keep.of hW).then c⟩
  have c0 := h.de.d.c 0 _ rfl; have c1 := h.de.d.c 1 _ rfl; have c2 := h.de.d.c 2 _ rfl; have cl := h.de.d.lt
  obtain ⟨qp, kp, evp, _⟩ := h.de.pile
  have np : pd ∉ cay pc v A := (h.ne pd h.pd_mem).1
  have FIN : Hid (∀ wc W, CD B wc X pd pc pz gh mn lw hi O e v A V vp U ⟨backC e d.c FL, d.H, d.P⟩ → Keep (cay pc v A) w wc → W = wc.setCell ⟨pd, 2, none⟩ (.slice none 0 0) →
      CDx B W X F pd pc pz gh mn lw hi O e ⟨backC e d.c FL, d.H, []⟩ ∧ Keep (off X F) w W) := fun wc W hc hkc hW => by
    have a1 := hc.de.d.store 2 (.slice none 0 0) (by simp)
    rw [← hW] at a1
    have kk : Keep [pd] wc W := by rw [hW]; exact (Keep.refl _ _).setCell (p := ⟨pd, 2, none⟩) (.inl (by simp)) _
    refine ⟨⟨_, _, _, _, _, hc.dropPile kk a1, fun f hf => ?_⟩, ?_⟩
    · have hL : (backC e d.c FL).L = d.c.L := (backC_inv (l := FL) hI.c).2.1
      have := h.pushF (vp' := .slice none 0 0) (Y := X) (fun y hy => by cases hy) hF.out (fun _ q => q) f hf
      show f ∈ X ∧ f ∉ xd pc v A (backC e d.c FL).L pd gh (.slice none 0 0)
      rw [hL]; exact this
    · have k1 := hkc.mono (S' := off X F) (fun s q => h.offd hF.out (List.mem_append_right _ (List.mem_append_left _ q)))
      exact k1.trans kk (fun s q => by simp at q; subst q; exact .inl (h.offy hF.out h.pd_mem))
  have KD : Hid (∀ wc, CD B wc X pd pc pz gh mn lw hi O e v A V vp U ⟨backC e d.c FL, d.H, d.P⟩ → wc.cell? ⟨pd, 2, none⟩ = some vp ∧ wc.frozen? ⟨pd, 2, none⟩ = false ∧ pd < wc.heap.size) := fun wc hc => ⟨hc.de.d.c 2 _ rfl, hc.de.d.f 2 (by simp), hc.de.d.lt⟩
  obtain ⟨N, hN⟩ : ∃ N, N = FL.length := ⟨_, rfl⟩
  rw [← hN] at CC BK h16 ⊢
  subst evp
  clear h hI hcnt hsub hnd emp hFL hN c0 c1
  go_enter Tryz.func47, Tryz.ntmps47
  go_wp2_with fail
  refine CC.out.mono ?_
  rintro r w1 ⟨q, k, rfl, hown, hb1⟩
  have BK' := Lib.hid (BK.out w1 q k hb1 hown)
  clear CC BK hown
  go_wp2_with fail
  refine BK'.out.mono ?_
  rintro r w2 ⟨rfl, hcd, hkk⟩
  obtain ⟨z2, zf, zl⟩ := KD.out _ hcd
  have HCD := Lib.hid hcd; have HKK := Lib.hid hkk
  clear BK' hcd hkk KD c2 cl
  go_wp2
  go_ret
  obtain ⟨f1, f2⟩ := FIN.out _ _ HCD.out HKK.out rfl
  exact ⟨rfl, f1, f2⟩
end
end Go.Proofs.YtcokmiidgdmdlaaGreatDoor
