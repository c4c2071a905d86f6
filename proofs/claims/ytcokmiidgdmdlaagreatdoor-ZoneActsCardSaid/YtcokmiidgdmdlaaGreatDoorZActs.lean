/- The statement ZoneActs: its walk. -/
import Derived.Test.YtcokmiidgdmdlaaGreatDoorRZNew
import Derived.Test.YtcokmiidgdmdlaaGreatDoorAsZone
import Derived.Test.YtcokmiidgdmdlaaGreatDoorZLaw
import Derived.Test.YtcokmiidgdmdlaaGreatDoorZTake
import Derived.Test.YtcokmiidgdmdlaaGreatDoorRowAZ
namespace Go.Proofs.YtcokmiidgdmdlaaGreatDoor
open Go.RowKit Go.Maps
set_option linter.unusedSimpArgs false
set_option linter.unusedVariables false
attribute [local go_sem ↓] Go.wp_at_zero Go.wp_at_succ

/-- a zone and the document's, side by side -/
structure ZS (w0 : World) (X : List Nat) (pz pm gN : Nat) (mn lw hi : Int) (O : List (List Int)) (M : List Nat) (L L' : List Nd) (w : World) : Prop where
  zx : ZoneX X w0.heap.size w pz mn lw hi O L
  rz : RZ X w pm gN mn lw hi O M L'
  dis : pm ∉ ys L ∧ gN ∉ ys L ∧ ∀ m ∈ M, m ∉ ys L
  lim : ∀ x ∈ X, w0.heap.size ≤ x ∧ x < w.heap.size
  bel : Below w0.heap.size w0 w
section
variable {w0 w w' : World} {X : List Nat} {pz pm gN : Nat} {mn lw hi : Int} {O : List (List Int)} {M : List Nat} {L L' L2 : List Nd} {ev : Nat → Addr}
theorem ZS.go (h : ZS w0 X pz pm gN mn lw hi O M L L' w) (k : Below w.heap.size w w') : ZS w0 X pz pm gN mn lw hi O M L L' w' :=
  ⟨h.zx.below k, h.rz.below k, h.dis, fun x hx => ⟨(h.lim x hx).1, Nat.lt_of_lt_of_le (h.lim x hx).2 k.size⟩, h.bel.trans (k.mono h.bel.size)⟩
theorem ZS.prog (h : ZS w0 X pz pm gN mn lw hi O M L L' w) (hz : ZoneB w0.heap.size w' pz mn lw hi O L2) (hs : SameZ L L2) (k : Keep (ys L) w w') : ZS w0 X pz pm gN mn lw hi O M L2 L' w' := by
  refine ⟨h.zx.after k hz hs, h.rz.keep k fun s hs => .inl ⟨h.zx.mem s hs, fun e => h.dis.1 (e ▸ hs), fun e => h.dis.2.1 (e ▸ hs), fun e => h.dis.2.2 s e hs⟩, by rw [hs.ys]; exact h.dis, fun x hx => ⟨(h.lim x hx).1, Nat.lt_of_lt_of_le (h.lim x hx).2 k.size⟩, ?_⟩
  exact h.bel.trans (k.below h.bel.size fun s hs => (h.lim s (h.zx.mem s hs)).1)
theorem ZS.doc (h : ZS w0 X pz pm gN mn lw hi O M L L' w) {X' M' S : List Nat} (hr : RZ X' w' pm gN mn lw hi O M' L2) (h1 : ∀ x ∈ X, x ∈ X') (h2 : ∀ x ∈ X', x ∈ X ∨ w.heap.size ≤ x) (h3 : ∀ x ∈ X', x < w'.heap.size) (h4 : ∀ m ∈ M', m ∈ M ∨ w.heap.size ≤ m) (k : Keep S w w') (hS : ∀ s ∈ S, s = pm ∨ s = gN ∨ s ∈ M) : ZS w0 X' pz pm gN mn lw hi O M' L L2 w' := by
  have hb := h.bel.size
  have hSX : ∀ s ∈ S, s ∈ X ∧ s ∉ ys L := fun s hs => by
    rcases hS s hs with rfl | rfl | q
    · exact ⟨h.rz.mem.1, h.dis.1⟩
    · exact ⟨h.rz.mem.2, h.dis.2.1⟩
    · obtain ⟨i, hi⟩ := List.getElem?_of_mem q
      have hl := (List.getElem?_eq_some_iff.1 hi).1
      obtain ⟨vF, vT, hb⟩ := h.rz.bud i s _ hi (List.getElem?_eq_getElem (show i < L'.length by rw [← h.rz.len]; exact hl))
      exact ⟨hb.mem, h.dis.2.2 s q⟩
  refine ⟨(h.zx.more h1 h2).keep k fun s hs => .inl ⟨h1 s (hSX s hs).1, (hSX s hs).2⟩, hr, ⟨h.dis.1, h.dis.2.1, fun m hm => ?_⟩, fun x hx => ⟨?_, h3 x hx⟩, h.bel.trans (k.below hb fun s hs => (h.lim s (hSX s hs).1).1)⟩
  · rcases h4 m hm with q | q
    · exact h.dis.2.2 m q
    · intro r; have := (h.lim m (h.zx.mem m r)).2; omega
  · rcases h2 x hx with q | q
    · exact (h.lim x q).1
    · omega
theorem ZS.keepX (h : ZS w0 X pz pm gN mn lw hi O M L L' w) : ∀ s, (s ∈ ys L → s ∈ X) ∧ (s ∈ M → s ∈ X) := fun s => ⟨h.zx.mem s, fun q => by
  obtain ⟨i, hi⟩ := List.getElem?_of_mem q
  have hl := (List.getElem?_eq_some_iff.1 hi).1
  obtain ⟨vF, vT, hb⟩ := h.rz.bud i s _ hi (List.getElem?_eq_getElem (show i < L'.length by rw [← h.rz.len]; exact hl))
  exact hb.mem⟩
theorem zs_give (hE : ErrZ w0.heap.size ev w0) (hL : 0 < L.length) (v a k : Int) (ha : (Lit.int .i64 a).wf = true) (w : World) (h : ZS w0 X pz pm gN mn lw hi O M L L' w) :
    Calls Tryz.prog 25 #[.pointer (some ⟨pz, 0, none⟩), .agg #[.int .i64 v, .int .i64 a, .int .i64 k]] w fun e w' => e = .returned (errV ev (giveZ L v a k).2) ∧ ZS w0 X pz pm gN mn lw hi O M (giveZ L v a k).1 L' w' ∧ Keep X w w' :=
  (zgive_any pz mn lw hi O L v a k w (hE.below h.bel) h.zx.toB hL ha).mono fun e w' ⟨h1, h2, h3⟩ => ⟨h1, h.prog h2 (giveZ_same L v a k) h3, h3.mono fun s hs => (h.keepX s).1 hs⟩
theorem zs_rgive (v a k : Int) (w : World) (h : ZS w0 X pz pm gN mn lw hi O M L L' w) :
    Calls Tryz.prog 26 #[.pointer (some ⟨pm, 0, none⟩), .agg #[.int .i64 v, .int .i64 a, .int .i64 k]] w fun e w' => e = .returned (.int .i64 (giveZ L' v a k).2) ∧ ZS w0 X pz pm gN mn lw hi O M L (giveZ L' v a k).1 w' ∧ Keep X w w' :=
  (rgiveZ pm gN mn lw hi O M L' v a k w h.rz (fun x hx => (h.lim x hx).2)).mono fun e w' ⟨h1, h2, h3⟩ => ⟨h1, h.doc h2 (fun _ q => q) (fun _ q => .inl q) (fun x hx => Nat.lt_of_lt_of_le (h.lim x hx).2 h3.size) (fun _ q => .inl q) h3 (fun s hs => .inr (.inr hs)), h3.mono fun s hs => (h.keepX s).2 hs⟩
theorem zs_take (hE : ErrZ w0.heap.size ev w0) (hL : 0 < L.length) (v k : Int) (u : Bool) (w : World) (h : ZS w0 X pz pm gN mn lw hi O M L L' w) :
    Calls Tryz.prog 16 #[.pointer (some ⟨pz, 0, none⟩), .int .i64 v, .int .i64 k, .bool u] w fun e w' => e = .returned (.tuple #[plV (takeZ mn O L v k u).2.2, errV ev (takeZ mn O L v k u).2.1]) ∧ ZS w0 X pz pm gN mn lw hi O M (takeZ mn O L v k u).1 L' w' ∧ Keep X w w' :=
  (ztake_any pz mn lw hi O L v k u w (hE.below h.bel) h.zx.toB hL).mono fun e w' ⟨h1, h2, h3⟩ => ⟨h1, h.prog h2 (takeZ_same mn O L v k u) h3, h3.mono fun s hs => (h.keepX s).1 hs⟩
theorem zs_rtake (v k : Int) (u : Bool) (w : World) (h : ZS w0 X pz pm gN mn lw hi O M L L' w) :
    Calls Tryz.prog 27 #[.pointer (some ⟨pm, 0, none⟩), .int .i64 v, .int .i64 k, .bool u] w fun e w' => ∃ X' M', e = .returned (.tuple #[plV (takeZ mn O L' v k u).2.2, .int .i64 (takeZ mn O L' v k u).2.1]) ∧ ZS w0 X' pz pm gN mn lw hi O M' L (takeZ mn O L' v k u).1 w' ∧ Keep X w w' :=
  (rtakeZ_any pm gN mn lw hi O M L' v k u w h.rz (fun x hx => (h.lim x hx).2)).mono fun e w' ⟨h1, ⟨X', M', r1, r2, r3, r4, r5⟩, h3⟩ => ⟨X', M', h1, h.doc r1 r2 r3 r4 r5 h3 (fun s hs => .inr (.inl (by simpa using hs))), h3.mono fun s hs => by simp at hs; subst hs; exact h.rz.mem.2⟩
end

theorem giveZ_code (L : List Nd) (v a k : Int) : (giveZ L v a k).2 ≤ 10 := by
  unfold giveZ
  split
  · simp
  split
  · simp
  split <;> simp
theorem takeZ_code (mn : Int) (O : List (List Int)) (L : List Nd) (v k : Int) (u : Bool) : (takeZ mn O L v k u).2.1 ≤ 10 := by
  unfold takeZ
  split
  · simp
  split
  · rcases lowZ_pos k L with q | q <;> simp [q]
  split
  · simp
  split <;> simp
/-- what Order comes to, at any node -/
def OrdFact (node : Int) (P : List Int) (N : List (List Int)) (w' : World) (xv : Value) (ec : Nat) : Prop :=
  ((node < 0 ∨ (P.length : Int) ≤ node) ∧ ec = 2 ∧ xv = .slice none 0 0) ∨
  ∃ (v : Nat) (l D : List Int), node = v ∧ N[v]? = some l ∧ ec = 0 ∧ ∃ q n k, xv = .slice q n k ∧ OrdTo l P.length D ∧ RowV [] w' (.slice q n k) (ints D)
theorem ordAny {B : Nat} {ev : Nat → Addr} (vP vN : Value) (P : List Int) (N : List (List Int)) (mn lw hi node : Int) (w : World) (hE : ErrC B ev w) (h : Cfg [] w vP vN P N) (hc : cfgE P N mn lw hi = 0) :
    Calls Tryz.prog 20 #[.agg #[vP, vN, .int .i64 mn, .int .i64 lw, .int .i64 hi], .int .i64 node] w fun e w' => ∃ xv ec, e = .returned (.tuple #[xv, errV ev ec]) ∧ OrdFact node P N w' xv ec ∧ Below w.heap.size w w' := by
  by_cases hb : node < 0 ∨ (P.length : Int) ≤ node
  · exact (order_node [] vP vN P N mn lw hi node w hE h hc hb).mono fun e w' ⟨h1, h2⟩ => ⟨_, 2, h1, .inl ⟨hb, rfl, rfl⟩, h2⟩
  · obtain ⟨v, rfl⟩ : ∃ v : Nat, node = v := ⟨node.toNat, by omega⟩
    obtain ⟨_, c2, _, c4, c5, _⟩ := cfg_ok hc
    obtain ⟨l, hl⟩ : ∃ l, N[v]? = some l := ⟨N[v]'(by omega), List.getElem?_eq_getElem _⟩
    refine (order_ok [] vP vN P N mn lw hi v l w hE h hc hl (c5 l (List.mem_of_getElem? hl)) c4 c2).mono fun e w' h => ?_
    obtain ⟨g, cap, D, h1, h2, h3, h4, h5, h6, h7⟩ := h
    refine ⟨_, 0, h1, .inr ⟨v, l, D, rfl, hl, rfl, _, _, _, rfl, h2, ?_⟩, h7⟩
    have hln : (ints D).length = P.length := by rw [ints_length, h2.len]
    rw [← hln] at h5 ⊢
    exact loc_row h3 (by simp) h5 h6

set_option maxHeartbeats 16000000 in
set_option maxRecDepth 100000 in
theorem zoneActs_walk {B : Nat} {ev : Nat → Addr} (vP vN vl : Value) (P : List Int) (N : List (List Int)) (mn lw hi node : Int) (xs : List ZActD) (w : World) (hE : Errs B ev w) (hC : Cfg [] w vP vN P N) (hfit : hi ≤ 9223372036854775807) (hx : RowZAct w vl xs) :
    Calls Tryz.prog 5 #[.agg #[vP, vN, .int .i64 mn, .int .i64 lw, .int .i64 hi], .int .i64 node, vl] w fun e w' => e = .returned (.bool true) ∧ Below w.heap.size w w' := by
  have hB := hE.size
  obtain ⟨p, cap, rfl, hcp, hmx, _⟩ := hC.p.int
  obtain ⟨q, k, rfl, hck, hkm, _⟩ := hC.n.form
  obtain ⟨pl, kl, rfl, ⟨hkl, hml⟩, hxx⟩ := id hx
  have L0 := Lib.hid (LocN.mk_ w [.slice p P.length cap, .slice q N.length k, .int .i64 mn, .int .i64 lw, .int .i64 hi] 27 rfl)
  have hb0 : Below w.heap.size w (w.alloc (.cells [.slice p P.length cap, .slice q N.length k, .int .i64 mn, .int .i64 lw, .int .i64 hi].toArray 27)) := (by repeat (first | exact Below.refl _ _ | refine Below.drew ?_ | refine below_drewN ?_ _ | refine Below.trans ?_ (Below.mono (by assumption) (by first | omega | (simp; omega) | (simp; done))) | refine Below.alloc ?_ (by first | omega | (simp; omega) | (simp; done)) _ | refine Below.setCell ?_ (by first | omega | (simp; omega) | (simp; done)) _))
  have HE := Lib.hid hE; have HC := Lib.hid hC; have HB0 := Lib.hid hb0; have HX := Lib.hid hx
  have ZO := Lib.hid (zoned_yes _ ((hE.go hb0).z))
  have CF : Hid (∀ W, Below w.heap.size w W → Cfg [] W (.slice p P.length cap) (.slice q N.length k) P N) := fun W hW => hC.below hW
  have EE : Hid (∀ W, Below w.heap.size w W → Errs B ev W) := fun W hW => hE.go hW
  obtain ⟨n, hn⟩ : ∃ n, n = xs.length := ⟨_, rfl⟩
  have HN := Lib.hid hn
  rw [← hn] at hkl HX ⊢
  unfold maxLen at hmx hkm hml
  clear hE hC hx hb0 hn hxx
  go_enter Tryz.func5, Tryz.ntmps5
  go_wp2_with fail
  refine ZO.out.mono ?_
  rintro e w1 ⟨rfl, hb1⟩
  have K1 : Below w.heap.size w w1 := HB0.out.trans (hb1.mono (by simp))
  have HM1 := Lib.hid (L0.out.go hb1)
  have m0 := HM1.out.c 0 _ rfl; have m1 := HM1.out.c 1 _ rfl; have m2 := HM1.out.c 2 _ rfl; have m3 := HM1.out.c 3 _ rfl; have m4 := HM1.out.c 4 _ rfl; have ml := HM1.out.lt
  have WI := Lib.hid (wide_any (.slice p P.length cap) (.slice q N.length k) P N mn lw hi w1 (CF.out w1 K1))
  clear ZO
  go_wp2_with fail
  refine WI.out.mono ?_
  rintro e w2 ⟨rfl, hb2⟩
  have K2 : Below w.heap.size w w2 := K1.trans (hb2.mono K1.size)
  cases hw : wideC P N with
  | true =>
    have ew : wideN P N = 1 := by unfold wideN; rw [if_pos hw]
    rw [ew]
    clear hw ew
    go_wp2
    go_ret
    exact ⟨rfl, K2⟩
  | false =>
    have ew : wideN P N = 0 := by unfold wideN; rw [hw]; rfl
    rw [ew]
    have HW := Lib.hid (wideC_no hw)
    clear hw ew WI
    by_cases h60 : 60 < n
    · go_wp2
      go_ret
      exact ⟨rfl, K2⟩
    have HM2 := Lib.hid (HM1.out.go hb2)
    have a0 := HM2.out.c 0 _ rfl; have a1 := HM2.out.c 1 _ rfl; have a2 := HM2.out.c 2 _ rfl; have a3 := HM2.out.c 3 _ rfl; have a4 := HM2.out.c 4 _ rfl; have al := HM2.out.lt
    clear m0 m1 m2 m3 m4 ml
    have OF : Hid (∀ W, Below w.heap.size w W → Calls Tryz.prog 15 #[.agg #[.slice p P.length cap, .slice q N.length k, .int .i64 mn, .int .i64 lw, .int .i64 hi]] W fun e w' => ∃ vP' vN', e = .returned (.agg #[vP', vN', .int .i64 mn, .int .i64 lw, .int .i64 hi]) ∧ Cfg [] w' vP' vN' P N ∧ Below W.heap.size W w') := fun W hW => configOf_ok (X := []) _ _ P N mn lw hi W (CF.out W hW) (fun x hx => by cases hx) HW.out.1 HW.out.2.1 HW.out.2.2
    have CE0 := cfgErr_any [] (.slice p P.length cap) (.slice q N.length k) P N mn lw hi w2 (CF.out w2 K2)
    by_cases hcE : cfgE P N mn lw hi = 0
    · rw [hcE] at CE0
      have CE := Lib.hid (show Calls Tryz.prog 19 #[.agg #[.slice p P.length cap, .slice q N.length k, .int .i64 mn, .int .i64 lw, .int .i64 hi]] w2 fun e w' => e = .returned (.int .i64 0) ∧ Below w2.heap.size w2 w' from CE0)
      have HCE := Lib.hid hcE
      clear CE0 hcE
      go_wp2_with fail
      refine CE.out.mono ?_
      rintro e w3 ⟨rfl, hb3⟩
      have K3 : Below w.heap.size w w3 := K2.trans (hb3.mono K2.size)
      have HM3 := Lib.hid (HM2.out.go hb3)
      have a0 := HM3.out.c 0 _ rfl; have a1 := HM3.out.c 1 _ rfl; have a2 := HM3.out.c 2 _ rfl; have a3 := HM3.out.c 3 _ rfl; have a4 := HM3.out.c 4 _ rfl; have al := HM3.out.lt
      clear CE
      go_wp2_with fail
      refine (OF.out w3 K3).mono ?_
      rintro e w4 ⟨vP1, vN1, rfl, hc1, hb4⟩
      have K4 : Below w.heap.size w w4 := K3.trans (hb4.mono K3.size)
      have HM4 := Lib.hid (HM3.out.go hb4)
      have OR := Lib.hid (ordAny vP1 vN1 P N mn lw hi node w4 (EE.out w4 K4).c hc1 HCE.out)
      clear hc1 a0 a1 a2 a3 a4 al
      go_wp2_with fail
      refine OR.out.mono ?_
      rintro e w5 ⟨xv, ec, rfl, hof, hb5⟩
      have HOF := Lib.hid hof
      have K5 : Below w.heap.size w w5 := K4.trans (hb5.mono K4.size)
      have HM5 := Lib.hid (HM4.out.go hb5)
      have a0 := HM5.out.c 0 _ rfl; have a1 := HM5.out.c 1 _ rfl; have a2 := HM5.out.c 2 _ rfl; have a3 := HM5.out.c 3 _ rfl; have a4 := HM5.out.c 4 _ rfl; have al := HM5.out.lt
      obtain ⟨E5, hE5⟩ : ∃ E5, E5 = errV ev ec := ⟨_, rfl⟩
      have HE5 := Lib.hid hE5
      rw [← hE5]
      clear OR hof hE5
      go_wp2_with fail
      refine (OF.out w5 K5).mono ?_
      rintro e w6 ⟨vP2, vN2, rfl, hc2, hb6⟩
      have K6 : Below w.heap.size w w6 := K5.trans (hb6.mono K5.size)
      have HM6 := Lib.hid (HM5.out.go hb6)
      have NW := Lib.hid (newZone_ok [] vP2 vN2 P N mn lw hi w6 (EE.out w6 K6).c hc2 HCE.out hfit)
      clear hc2 a0 a1 a2 a3 a4 al
      go_wp2_with fail
      refine NW.out.mono ?_
      rintro e w7 ⟨pz, O, L, rfl, hz, hpz, hLn, hLF, hO, hb7⟩
      have HZ := Lib.hid hz; have HLN := Lib.hid hLn; have HLF := Lib.hid hLF; have HO := Lib.hid hO
      have K7 : Below w.heap.size w w7 := K6.trans (hb7.mono K6.size)
      have HM7 := Lib.hid (HM6.out.go hb7)
      have a0 := HM7.out.c 0 _ rfl; have a1 := HM7.out.c 1 _ rfl; have a2 := HM7.out.c 2 _ rfl; have a3 := HM7.out.c 3 _ rfl; have a4 := HM7.out.c 4 _ rfl; have al := HM7.out.lt
      clear NW hz hLn hLF hO
      go_wp2_with fail
      refine (OF.out w7 K7).mono ?_
      rintro e w8 ⟨vP3, vN3, rfl, hc3, hb8⟩
      have K8 : Below w.heap.size w w8 := K7.trans (hb8.mono K7.size)
      have CH0 := check_any [] vP3 vN3 P N mn lw hi w8 (EE.out w8 K8).c hc3
      rw [HCE.out] at CH0
      have CH := Lib.hid (show Calls Tryz.prog 21 #[.agg #[vP3, vN3, .int .i64 mn, .int .i64 lw, .int .i64 hi]] w8 fun e w' => e = .returned .nilIface ∧ Below w8.heap.size w8 w' from CH0)
      clear hc3 CH0 a0 a1 a2 a3 a4 al
      go_wp2_with fail
      refine CH.out.mono ?_
      rintro e w9 ⟨rfl, hb9⟩
      have K9 : Below w.heap.size w w9 := K8.trans (hb9.mono K8.size)
      clear CH
      go_wp2_with fail
      refine (coded_at 0 0 w9 (EE.out w9 K9) (by omega) rfl).mono ?_
      rintro e w10 ⟨rfl, hb10⟩
      have K10 : Below w.heap.size w w10 := K9.trans (hb10.mono K9.size)
      have B710 : Below w7.heap.size w7 w10 := hb8.trans ((hb9.trans (hb10.mono hb9.size)).mono hb8.size)
      have HM10 := Lib.hid (HM7.out.go B710)
      have B510 : Below w5.heap.size w5 w10 := hb6.trans ((hb7.trans (B710.mono hb7.size)).mono hb6.size)
      have a0 := HM10.out.c 0 _ rfl; have a1 := HM10.out.c 1 _ rfl; have a2 := HM10.out.c 2 _ rfl; have a3 := HM10.out.c 3 _ rfl; have a4 := HM10.out.c 4 _ rfl; have al := HM10.out.lt
      have hof := HOF.out
      rcases hof with ⟨hbad, hec, hxv⟩ | ⟨v, l, D, hv, hl, hec, q1, n1, k1, hxv, hOD, hrow⟩
      case' inl =>
        subst hec hxv
        have CD : Hid (Calls Tryz.prog 18 #[E5, .int .i64 2] w10 fun e w' => e = .returned (.bool true) ∧ Below w10.heap.size w10 w') := by rw [HE5.out]; exact coded_at 2 2 w10 (EE.out w10 K10) (by omega) rfl
        have hd : (node < 0 ∧ decide (node < 0) = true) ∨ (¬ node < 0 ∧ decide (node < 0) = false ∧ decide ((P.length : Int) ≤ node) = true) := by
          by_cases h0 : node < 0
          · exact .inl ⟨h0, decide_eq_true h0⟩
          · exact .inr ⟨h0, decide_eq_false h0, decide_eq_true (by omega)⟩
        rcases hd with ⟨h0, d0⟩ | ⟨h0, d0, d1⟩
      case' inl.inl =>
        clear h0 hbad
        go_wp2_with fail
        refine CD.out.mono ?_
        rintro e w11 ⟨rfl, hb11⟩
        clear CD d0
      case' inl.inr =>
        clear h0 hbad
        go_wp2_with fail
        refine CD.out.mono ?_
        rintro e w11 ⟨rfl, hb11⟩
        clear CD d0 d1
      case' inr =>
        subst hec hxv hv
        obtain rfl : E5 = .nilIface := HE5.out
        have d0 : decide ((v : Int) < 0) = false := decide_eq_false (by omega)
        have hvN := (List.getElem?_eq_some_iff.1 hl).1
        have cok := cfg_ok HCE.out
        have d1 : decide (P.length ≤ v) = false := decide_eq_false (by omega)
        have NFc := Lib.hid (nodesFrom_ok (.slice p P.length cap) (.slice q N.length k) P N mn lw hi v l D w10 (CF.out w10 K10) hl (cok.2.2.2.2.1 l (List.mem_of_getElem? hl)) cok.2.2.2.1 cok.2.1 (cfg_far HCE.out l (List.mem_of_getElem? hl)) hOD)
        have HRW := Lib.hid (hrow.below B510)
        clear hl hOD hrow hvN cok
        go_wp2_with fail
        refine NFc.out.mono ?_
        rintro e w11' ⟨q6, k6, rfl, hown, hb11'⟩
        have SM := Lib.hid (sameInts_yes (X := []) (Y := []) _ (.slice q6 D.length k6) D w11' (HRW.out.below hb11') (own_rowV (by rw [ints_length]; exact hown) (fun x hx => by cases hx)))
        clear hown NFc
        go_wp2_with fail
        refine SM.out.mono ?_
        rintro e w11 ⟨rfl, hb11''⟩
        have hb11 : Below w10.heap.size w10 w11 := hb11'.trans (hb11''.mono hb11'.size)
        clear SM d0 d1 hb11'' hb11'
      all_goals
        have K11 : Below w.heap.size w w11 := K10.trans (hb11.mono K10.size)
        have B711 : Below w7.heap.size w7 w11 := B710.trans (hb11.mono B710.size)
        have HM11 := Lib.hid (HM10.out.go hb11)
        clear a0 a1 a2 a3 a4 al
        have a0 := HM11.out.c 0 _ rfl; have a1 := HM11.out.c 1 _ rfl; have a2 := HM11.out.c 2 _ rfl; have a3 := HM11.out.c 3 _ rfl; have a4 := HM11.out.c 4 _ rfl; have al := HM11.out.lt
        have hI : ∀ x ∈ L, Inv x.n x.F x.T := fun x hx => (HZ.out.b.bud x hx).2
        have NZ := Lib.hid (rnewZone_ok (ys L) (.slice p P.length cap) (.slice q N.length k) P N mn lw hi O L w11 (fun y hy => Nat.lt_of_lt_of_le (HZ.out.b.lim y hy).2 B711.size) (CF.out w11 K11) HCE.out hfit HLN.out HLF.out hI HZ.out.ord HO.out)
        clear hI
        go_wp2_with fail
        refine NZ.out.mono ?_
        rintro e w12 ⟨X, M, pm, gN, rfl, hrz, hX1, hX2, ⟨hX3, hX4, hX5⟩, hb12⟩
        have K12 : Below w.heap.size w w12 := K11.trans (hb12.mono K11.size)
        have B712 : Below w7.heap.size w7 w12 := B711.trans (hb12.mono B711.size)
        have zs0 : ZS w6 X pz pm gN mn lw hi O M L L w12 := by
          refine ⟨((HZ.out.toX.below B711).more (fun x hx => hX2 x hx) (fun y hy => (hX1 y hy).1)).below hb12, hrz, ⟨hX3, hX4, hX5⟩, fun x hx => ⟨?_, (hX1 x hx).2⟩, hb7.trans (B712.mono hb7.size)⟩
          rcases (hX1 x hx).1 with q | q
          · exact (HZ.out.b.lim x q).1
          · have := B711.size; have := hb7.size; omega
        have ZS0 := Lib.hid zs0
        have EZ : Hid (ErrZ w6.heap.size ev w6) := (EE.out w6 K6).z.up (by have := (EE.out w6 K6).size; omega) (Nat.le_refl _)
        have EE6 : Hid (∀ W, Below w6.heap.size w6 W → Errs B ev W) := fun W hW => EE.out W (K6.trans (hW.mono K6.size))
        have HLP : Hid (L.length = P.length) := by show _ = _; rw [← HLN.out, List.length_map]
        have HP4 : Hid (1 ≤ P.length ∧ P.length ≤ 4) := by have := cfg_ok HCE.out; exact ⟨this.1, this.2.1⟩
        clear zs0 NZ hrz hX1 hX2 hX3 hX4 hX5 a0 a1 a2 a3 a4 al
        go_wp2_with fail
        go_loopw [14] (fun iv wr => ∃ (i : Nat) (X M : List Nat) (L' : List Nd), i ≤ n ∧ iv = .int .i64 i ∧ Hid (L'.length = P.length) ∧ Hid (ZS w6 X pz pm gN mn lw hi O M L' L' wr)) (fun iv _ => n - (intOf iv).toNat)
        case atStart => exact ⟨0, X, M, L, Nat.zero_le _, by go_num, HLP, ZS0⟩
        case round =>
          obtain ⟨i, X, M, L', hin, rfl, HLL, HS⟩ := hrel
          clear ZS0
          have b6r := HS.out.bel
          have KR : Below w.heap.size w wr := K6.trans (b6r.mono K6.size)
          have hLpos : 0 < L'.length := by have := HLL.out; have := HP4.out; omega
          by_cases hlt : i < n
          · obtain ⟨x, hx⟩ : ∃ x, xs[i]? = some x := ⟨xs[i]'(by rw [← HN.out]; exact hlt), List.getElem?_eq_getElem _⟩
            obtain ⟨g, off, cap', e, _, hg, hrow⟩ := (show RowZAct w (.slice pl n kl) xs from HX.out).form (by rw [← HN.out]; omega)
            rw [← HN.out] at e
            injection e with e1 e2 e3
            subst e1 e3
            obtain ⟨hfx, hcell⟩ := hrow i x hx
            have hgr : g < wr.heap.size := by have := KR.size; omega
            have r0 := (KR.cell (p := ⟨g, off + i * 7 + 0, none⟩) hg).trans (hcell 0 _ rfl)
            have r1 := (KR.cell (p := ⟨g, off + i * 7 + 1, none⟩) hg).trans (hcell 1 _ rfl)
            have r2 := (KR.cell (p := ⟨g, off + i * 7 + 2, none⟩) hg).trans (hcell 2 _ rfl)
            have r3 := (KR.cell (p := ⟨g, off + i * 7 + 3, none⟩) hg).trans (hcell 3 _ rfl)
            have r4 := (KR.cell (p := ⟨g, off + i * 7 + 4, none⟩) hg).trans (hcell 4 _ rfl)
            have r5 := (KR.cell (p := ⟨g, off + i * 7 + 5, none⟩) hg).trans (hcell 5 _ rfl)
            have r6 := (KR.cell (p := ⟨g, off + i * 7 + 6, none⟩) hg).trans (hcell 6 _ rfl)
            clear hx hrow hcell
            obtain ⟨kd, nd, od, ud, pn, pa, pk⟩ := x
            simp only [ZActD.fits] at r0 r1 r2 r3 r4 r5 r6 hfx
            simp only [Nat.add_zero] at r0
            have HAW : Hid ((Lit.int .i64 pa).wf = true) := by obtain ⟨_, _, _, _, ⟨u1, u2⟩, _⟩ := hfx; simp [Hid, Lit.wf, IntKind.min, IntKind.max, IntKind.signed, IntKind.bits]; omega
            have i0 : (0 : Int) ≤ (i : Int) := by omega
            have i1 : (i : Int) < (n : Int) := by omega
            have LA := Lib.hid (LocN.mk_ wr [.string kd, .int .i64 nd, .int .i64 od, .bool ud, .int .i64 pn, .int .i64 pa, .int .i64 pk] 43 rfl)
            have SA := Lib.hid (HS.out.go (w' := wr.alloc (.cells [.string kd, .int .i64 nd, .int .i64 od, .bool ud, .int .i64 pn, .int .i64 pa, .int .i64 pk].toArray 43)) (by repeat (first | exact Below.refl _ _ | refine Below.drew ?_ | refine below_drewN ?_ _ | refine Below.trans ?_ (Below.mono (by assumption) (by first | omega | (simp; omega) | (simp; done))) | refine Below.alloc ?_ (by first | omega | (simp; omega) | (simp; done)) _ | refine Below.setCell ?_ (by first | omega | (simp; omega) | (simp; done)) _)))
            have NX : Hid (∀ X' : List Nat, (∀ x ∈ X', x ∈ X ∨ wr.heap.size < x) → wr.heap.size ∉ X') := fun X' h q => by
              rcases h _ q with r | r
              · have := (HS.out.lim _ r).2; omega
              · omega
            clear hfx
            go_wp2_with fail
            all_goals
              obtain ⟨bx, hbx⟩ : ∃ bx, bx = wr.heap.size := ⟨_, rfl⟩
              obtain ⟨wa, hwa⟩ : ∃ wa, wa = wr.alloc (.cells #[.string kd, .int .i64 nd, .int .i64 od, .bool ud, .int .i64 pn, .int .i64 pa, .int .i64 pk] 43) := ⟨_, rfl⟩
              have LB : Hid (LocN wa bx [.string kd, .int .i64 nd, .int .i64 od, .bool ud, .int .i64 pn, .int .i64 pa, .int .i64 pk]) := by rw [hwa, hbx]; exact LA.out
              have SB : Hid (ZS w6 X pz pm gN mn lw hi O M L' L' wa) := by rw [hwa]; exact SA.out
              have NB : Hid (∀ X' : List Nat, (∀ x ∈ X', x ∈ X ∨ bx < x) → bx ∉ X') := by rw [hbx]; exact NX.out
              have bxl : bx < wa.heap.size := LB.out.lt
              rw [← hwa]
              try rw [← hbx]
              clear LA SA NX r0 r1 r2 r3 r4 r5 r6 hbx hwa KR hgr b6r
            · have GP := Lib.hid (fun (L1 : List Nd) W h => zs_give (X := X) (pz := pz) (pm := pm) (gN := gN) (mn := mn) (lw := lw) (hi := hi) (O := O) (M := M) (L := L') (L' := L1) EZ.out hLpos pn pa pk HAW.out W h)
              have GR := Lib.hid (fun (L1 : List Nd) W h => zs_rgive (w0 := w6) (X := X) (pz := pz) (pm := pm) (gN := gN) (mn := mn) (lw := lw) (hi := hi) (O := O) (M := M) (L := L1) (L' := L') pn pa pk W h)
              have hlen := (giveZ_same L' pn pa pk).1
              have hcd := giveZ_code L' pn pa pk
              obtain ⟨⟨L2, c⟩, hr⟩ : ∃ r, r = giveZ L' pn pa pk := ⟨_, rfl⟩
              rw [← hr] at GP GR hlen hcd
              simp only at GP GR hlen hcd
              have CD := Lib.hid (fun W (hW : Below w6.heap.size w6 W) => coded_at c c W (EE6.out W hW) hcd rfl)
              have HL2 : Hid (L2.length = P.length) := by show _ = _; rw [← hlen]; exact HLL.out
              obtain ⟨E, hE'⟩ : ∃ E, E = errV ev c := ⟨_, rfl⟩
              rw [← hE'] at GP CD
              have y4 := LB.out.c 4 _ rfl; have y5 := LB.out.c 5 _ rfl; have y6 := LB.out.c 6 _ rfl
              have NBX : Hid (bx ∉ X) := NB.out X (fun x hx => .inl hx)
              clear hr hlen hcd hE' hLpos
              go_region_held3 (fun w' => w'.cell? ⟨bx, 4, none⟩ = some (.int .i64 pn) ∧ w'.cell? ⟨bx, 5, none⟩ = some (.int .i64 pa) ∧ w'.cell? ⟨bx, 6, none⟩ = some (.int .i64 pk)) (go_keep) (first
                | (go_at_call 25; refine (GP.out _ _ (SB.out.go (by repeat (first | exact Below.refl _ _ | refine Below.drew ?_ | refine below_drewN ?_ _ | refine Below.trans ?_ (Below.mono (by assumption) (by first | omega | (simp; omega) | (simp; done))) | refine Below.alloc ?_ (by first | omega | (simp; omega) | (simp; done)) _ | refine Below.setCell ?_ (by first | omega | (simp; omega) | (simp; done)) _)))).mono ?_; rintro e wb ⟨rfl, stb, kb⟩; have LB2 := (LB.out.drewL).keep kb NBX.out; have x4 := LB2.c 4 _ rfl; have x5 := LB2.c 5 _ rfl; have x6 := LB2.c 6 _ rfl)
                | (go_at_call 26; refine (GR.out _ _ stb).mono ?_; rintro e wc ⟨rfl, stc, kc⟩; have LB3 := LB2.keep kc NBX.out; have z4 := LB3.c 4 _ rfl; have z5 := LB3.c 5 _ rfl; have z6 := LB3.c 6 _ rfl)
                | (go_at_call 18; refine (CD.out _ stc.bel).mono ?_; rintro e wd ⟨rfl, hbd⟩; have std := stc.go hbd; have LB4 := LB3.go hbd; have t4 := LB4.c 4 _ rfl; have t5 := LB4.c 5 _ rfl; have t6 := LB4.c 6 _ rfl))
              have STD := Lib.hid std
              clear std stc stb kb kc LB2 LB3 LB4 x4 x5 x6 y4 y5 y6 z4 z5 z6 t4 t5 t6 GP GR CD hbd
              go_wp2
              go_roundw
              case rel => exact ⟨i + 1, X, M, L2, by omega, by go_num, HL2, STD⟩
              case measure => simp [intOf]; omega
            · have TP := Lib.hid (fun (L1 : List Nd) W h => zs_take (X := X) (pz := pz) (pm := pm) (gN := gN) (mn := mn) (lw := lw) (hi := hi) (O := O) (M := M) (L := L') (L' := L1) EZ.out hLpos nd od ud W h)
              have TR := Lib.hid (fun (L1 : List Nd) W h => zs_rtake (w0 := w6) (X := X) (pz := pz) (pm := pm) (gN := gN) (mn := mn) (lw := lw) (hi := hi) (O := O) (M := M) (L := L1) (L' := L') nd od ud W h)
              have hlen := (takeZ_same mn O L' nd od ud).1
              have hcd := takeZ_code mn O L' nd od ud
              obtain ⟨⟨L2, c, jn, ja, jk⟩, hr⟩ : ∃ r, r = takeZ mn O L' nd od ud := ⟨_, rfl⟩
              rw [← hr] at TP TR hlen hcd
              unfold plV at TP TR
              simp only at TP TR hlen hcd
              have CD := Lib.hid (fun W (hW : Below w6.heap.size w6 W) => coded_at c c W (EE6.out W hW) hcd rfl)
              have HL2 : Hid (L2.length = P.length) := by show _ = _; rw [← hlen]; exact HLL.out
              obtain ⟨E, hE'⟩ : ∃ E, E = errV ev c := ⟨_, rfl⟩
              rw [← hE'] at TP CD
              have NBX : Hid (bx ∉ X) := NB.out X (fun x hx => .inl hx)
              have eb := eqP; have nb := neqP; have gb := guardP
              clear hr hlen hcd hE' hLpos
              refine (TP.out _ _ SB.out).mono ?_
              rintro e wb ⟨rfl, stb, kb⟩
              have LB2 := LB.out.keep kb NBX.out
              have LP := Lib.hid (LocN.mk_ wb [.int .i64 jn, .int .i64 ja, .int .i64 jk] 41 rfl)
              have STB := Lib.hid (stb.go (w' := wb.alloc (.cells [.int .i64 jn, .int .i64 ja, .int .i64 jk].toArray 41)) (by repeat (first | exact Below.refl _ _ | refine Below.drew ?_ | refine below_drewN ?_ _ | refine Below.trans ?_ (Below.mono (by assumption) (by first | omega | (simp; omega) | (simp; done))) | refine Below.alloc ?_ (by first | omega | (simp; omega) | (simp; done)) _ | refine Below.setCell ?_ (by first | omega | (simp; omega) | (simp; done)) _)))
              have LX : Hid (wb.heap.size ∉ X) := fun q => by have := (stb.lim _ q).2; omega
              have y1 := LB2.c 1 _ rfl; have y2 := LB2.c 2 _ rfl; have y3 := LB2.c 3 _ rfl; have yl := LB2.lt
              clear TP stb kb LB2
              go_wp2_with fail
              refine (TR.out _ _ STB.out).mono ?_
              rintro e wc ⟨X', M', rfl, stc, kc⟩
              have LP2 := LP.out.keep kc LX.out
              have STC := Lib.hid (stc.go (w' := wc.alloc (.cells [.int .i64 jn, .int .i64 ja, .int .i64 jk].toArray 41)) (by repeat (first | exact Below.refl _ _ | refine Below.drew ?_ | refine below_drewN ?_ _ | refine Below.trans ?_ (Below.mono (by assumption) (by first | omega | (simp; omega) | (simp; done))) | refine Below.alloc ?_ (by first | omega | (simp; omega) | (simp; done)) _ | refine Below.setCell ?_ (by first | omega | (simp; omega) | (simp; done)) _)))
              have LQ := Lib.hid (LocN.mk_ wc [.int .i64 jn, .int .i64 ja, .int .i64 jk] 41 rfl)
              have HLP2 := Lib.hid (LP2.past (.cells [.int .i64 jn, .int .i64 ja, .int .i64 jk].toArray 41))
              clear TR STB LP stc kc LP2 y1 y2 y3 yl LX
              go_wp2_with fail
              refine (CD.out _ STC.out.bel).mono ?_
              rintro e wd ⟨rfl, hbd⟩
              have STD := Lib.hid (STC.out.go hbd)
              have p0 := (HLP2.out.go hbd).c 0 _ rfl; have p1 := (HLP2.out.go hbd).c 1 _ rfl; have p2 := (HLP2.out.go hbd).c 2 _ rfl; have ppl := (HLP2.out.go hbd).lt
              have q0 := (LQ.out.go hbd).c 0 _ rfl; have q1 := (LQ.out.go hbd).c 1 _ rfl; have q2 := (LQ.out.go hbd).c 2 _ rfl; have qql := (LQ.out.go hbd).lt
              clear CD STC hbd HLP2 LQ
              go_wp2
              go_roundw
              case rel => exact ⟨i + 1, X', M', L2, by omega, by go_num, HL2, STD⟩
              case measure => simp [intOf]; omega
          · have b6 := HS.out.bel
            have AZ := Lib.hid (asZone_ok pz pm gN mn lw hi O M L' wr (EE6.out wr b6) (Nat.le_trans (EE.out w6 K6).size (Nat.le_refl _)) b6.size HS.out.zx.toB HS.out.rz hLpos (by have := HLL.out; have := HP4.out; omega))
            have KR' : Below w.heap.size w wr := KR
            go_wp2_with fail
            refine AZ.out.mono ?_
            rintro e w20 ⟨rfl, hb20⟩
            go_wp2
            go_ret
            exact ⟨rfl, KR'.trans (hb20.mono KR'.size)⟩
    · obtain ⟨c, hc⟩ : ∃ c, cfgE P N mn lw hi = c + 1 := ⟨cfgE P N mn lw hi - 1, by omega⟩
      have hc10 : c + 1 ≤ 10 := by rw [← hc]; unfold cfgE; split <;> (try split) <;> omega
      have CDD : Hid (∀ W, Below w.heap.size w W → Calls Tryz.prog 18 #[errV ev (c + 1), .int .i64 ((c : Int) + 1)] W fun e w' => e = .returned (.bool true) ∧ Below W.heap.size W w') := fun W hW => coded_at (c + 1) ((c : Int) + 1) W (EE.out W hW) hc10 (by simp)
      have CE : Hid (Calls Tryz.prog 19 #[.agg #[.slice p P.length cap, .slice q N.length k, .int .i64 mn, .int .i64 lw, .int .i64 hi]] w2 fun e w' => e = .returned (.int .i64 ((c : Int) + 1)) ∧ Below w2.heap.size w2 w') := by
        rw [hc, show (((c + 1 : Nat)) : Int) = (c : Int) + 1 by simp] at CE0; exact CE0
      have OE := Lib.hid (fun W vP' vN' (hW : Below w.heap.size w W) (h' : Cfg [] W vP' vN' P N) => order_cfg [] vP' vN' P N mn lw hi node W (EE.out W hW).c h' c hc)
      have NE := Lib.hid (fun W vP' vN' (hW : Below w.heap.size w W) (h' : Cfg [] W vP' vN' P N) => newZone_err [] vP' vN' P N mn lw hi W (EE.out W hW).c h' c hc)
      have KE : Hid (∀ W vP' vN', Below w.heap.size w W → Cfg [] W vP' vN' P N → Calls Tryz.prog 21 #[.agg #[vP', vN', .int .i64 mn, .int .i64 lw, .int .i64 hi]] W fun e w' => e = .returned (errV ev (c + 1)) ∧ Below W.heap.size W w') := fun W vP' vN' hW h' => by
        have := check_any [] vP' vN' P N mn lw hi W (EE.out W hW).c h'
        rwa [hc] at this
      have hpos : decide ((0 : Int) < (c : Int) + 1) = true := decide_eq_true (by omega)
      obtain ⟨E, hE'⟩ : ∃ E, E = errV ev (c + 1) := ⟨_, rfl⟩
      rw [← hE'] at CDD OE NE KE
      obtain ⟨C, hC⟩ : ∃ C : Int, C = (c : Int) + 1 := ⟨_, rfl⟩
      rw [← hC] at CDD CE hpos
      clear CE0 hcE hc hc10 hE' hC
      go_wp2_with fail
      refine CE.out.mono ?_
      rintro e w3 ⟨rfl, hb3⟩
      have K3 : Below w.heap.size w w3 := K2.trans (hb3.mono K2.size)
      have HM3 := Lib.hid (HM2.out.go hb3)
      have a0 := HM3.out.c 0 _ rfl; have a1 := HM3.out.c 1 _ rfl; have a2 := HM3.out.c 2 _ rfl; have a3 := HM3.out.c 3 _ rfl; have a4 := HM3.out.c 4 _ rfl; have al := HM3.out.lt
      clear CE
      go_wp2_with fail
      refine (OF.out w3 K3).mono ?_
      rintro e w4 ⟨vP1, vN1, rfl, hc1, hb4⟩
      have K4 : Below w.heap.size w w4 := K3.trans (hb4.mono K3.size)
      have HM4 := Lib.hid (HM3.out.go hb4)
      have HC1 := Lib.hid hc1
      clear hc1 a0 a1 a2 a3 a4 al
      go_wp2_with fail
      refine (OE.out w4 vP1 vN1 K4 HC1.out).mono ?_
      rintro e w5 ⟨rfl, hb5⟩
      have K5 : Below w.heap.size w w5 := K4.trans (hb5.mono K4.size)
      have HM5 := Lib.hid (HM4.out.go hb5)
      have a0 := HM5.out.c 0 _ rfl; have a1 := HM5.out.c 1 _ rfl; have a2 := HM5.out.c 2 _ rfl; have a3 := HM5.out.c 3 _ rfl; have a4 := HM5.out.c 4 _ rfl; have al := HM5.out.lt
      go_wp2_with fail
      refine (OF.out w5 K5).mono ?_
      rintro e w6 ⟨vP2, vN2, rfl, hc2, hb6⟩
      have K6 : Below w.heap.size w w6 := K5.trans (hb6.mono K5.size)
      have HM6 := Lib.hid (HM5.out.go hb6)
      have HC2 := Lib.hid hc2
      clear hc2 a0 a1 a2 a3 a4 al
      go_wp2_with fail
      refine (NE.out w6 vP2 vN2 K6 HC2.out).mono ?_
      rintro e w7 ⟨rfl, hb7⟩
      have K7 : Below w.heap.size w w7 := K6.trans (hb7.mono K6.size)
      have HM7 := Lib.hid (HM6.out.go hb7)
      have a0 := HM7.out.c 0 _ rfl; have a1 := HM7.out.c 1 _ rfl; have a2 := HM7.out.c 2 _ rfl; have a3 := HM7.out.c 3 _ rfl; have a4 := HM7.out.c 4 _ rfl; have al := HM7.out.lt
      go_wp2_with fail
      refine (OF.out w7 K7).mono ?_
      rintro e w8 ⟨vP3, vN3, rfl, hc3, hb8⟩
      have K8 : Below w.heap.size w w8 := K7.trans (hb8.mono K7.size)
      have HC3 := Lib.hid hc3
      clear hc3 a0 a1 a2 a3 a4 al
      go_wp2_with fail
      refine (KE.out w8 vP3 vN3 K8 HC3.out).mono ?_
      rintro e w9 ⟨rfl, hb9⟩
      have K9 : Below w.heap.size w w9 := K8.trans (hb9.mono K8.size)
      go_wp2_with fail
      refine (CDD.out w9 K9).mono ?_
      rintro e w10 ⟨rfl, hb10⟩
      have K10 : Below w.heap.size w w10 := K9.trans (hb10.mono K9.size)
      go_wp2_with fail
      refine (CDD.out w10 K10).mono ?_
      rintro e w11 ⟨rfl, hb11⟩
      have K11 : Below w.heap.size w w11 := K10.trans (hb11.mono K10.size)
      go_wp2_with fail
      refine (CDD.out w11 K11).mono ?_
      rintro e w12 ⟨rfl, hb12⟩
      have K12 : Below w.heap.size w w12 := K11.trans (hb12.mono K11.size)
      go_wp2
      go_ret
      exact ⟨rfl, K12⟩
end Go.Proofs.YtcokmiidgdmdlaaGreatDoor
