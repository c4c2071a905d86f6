/- Lemmas and contracts for the claim's last text: DOut, DGive. -/
import Derived.Test.YtcokmiidgdmdlaaGreatDoorMo13
namespace Go.Proofs.YtcokmiidgdmdlaaGreatDoor
open Go.RowKit Go.Maps
set_option linter.unusedSimpArgs false
set_option linter.unusedVariables false
attribute [local go_sem ↓] Go.wp_at_zero Go.wp_at_succ

section
variable {X Y S : List Nat} {B : Nat} {ev : Nat → Addr} {w w' : World} {pd pc pz gh e : Nat} {mn lw hi : Int} {O : List (List Int)} {v vp : Value} {A : SA} {V : HV} {U : List Value} {d : De} {c : Ca}
theorem findS_mem (h : InvC e c) (o : Ob) : (findS e o c.C).isSome = decide (o ∈ obsC e c.C) := by
  cases hf : findS e o c.C with
  | none =>
    symm
    show decide _ = false
    refine decide_eq_false fun hx => ?_
    obtain ⟨i, s, k, hs, hk, rfl⟩ := obsC_at.1 hx
    have h1 := findS_none hf s (List.mem_of_getElem? hs)
    have h2 : hasS e (obOf e s k) s = true := (hasS_iff h.e1).2 ⟨by rw [kOf_uniq h.e1 rfl]; exact hk, by rw [kOf_uniq h.e1 rfl]⟩
    rw [h1] at h2; cases h2
  | some i =>
    obtain ⟨s, hs, hh, _⟩ := findS_some hf
    obtain ⟨k1, k2⟩ := (hasS_iff h.e1).1 hh
    symm
    show decide _ = true
    exact decide_eq_true (obsC_at.2 ⟨i, s, _, hs, k1, k2⟩)
set_option maxHeartbeats 1000000 in
theorem shas_ok (o : Ob) (h : CS B w pc pz mn lw hi O e X v A c) (hI : InvC e c) (o1 : -9223372036854775808 ≤ o.2) (o2 : o.2 ≤ 9223372036854775807) :
    Calls Tryz.prog 136 #[.pointer (some ⟨pc, 0, none⟩), .agg #[.int .i64 o.1, .int .i64 o.2]] w fun r w' => r = .returned (.bool (decide (o ∈ obsC e c.C))) ∧ Below w.heap.size w w' := by
  have b0 : Below w.heap.size w (w.alloc (.cells #[.int .i64 o.1, .int .i64 o.2] 72)) := (by repeat (first | exact Below.refl _ _ | refine Below.drew ?_ | refine below_drewN ?_ _ | refine Below.trans ?_ (Below.mono (by assumption) (by first | omega | (simp; omega) | (simp; done))) | refine Below.alloc ?_ (by first | omega | (simp; omega) | (simp; done)) _ | refine Below.setCell ?_ (by first | omega | (simp; omega) | (simp; done)) _))
  have HB := Lib.hid b0
  have fm := findS_mem hI o
  cases hf : findS e o c.C with
  | none =>
    rw [hf] at fm
    rw [← fm]
    have FN := Lib.hid (find_none o.1 o.2 (h.below b0) hI o1 o2 hf)
    clear h hI fm hf b0
    go_enter Tryz.func136, Tryz.ntmps136
    go_wp2_with fail
    refine FN.out.mono ?_
    rintro r w1 ⟨rfl, hb1⟩
    go_wp2
    go_ret
    exact ⟨rfl, HB.out.trans (hb1.mono (by simp))⟩
  | some i =>
    rw [hf] at fm
    rw [← fm]
    obtain ⟨s, hs, _, _⟩ := findS_some hf
    obtain ⟨p, hp, _, _⟩ := h.ch.at hs
    have FN := Lib.hid (find_some o.1 o.2 (h.below b0) hI o1 o2 hf hs hp)
    obtain ⟨kk, hkk⟩ : ∃ kk, kk = kOf e (o.1, o.2) s := ⟨_, rfl⟩
    rw [← hkk] at FN
    clear h hI fm hf b0 hs hp hkk
    go_enter Tryz.func136, Tryz.ntmps136
    go_wp2_with fail
    refine FN.out.mono ?_
    rintro r w1 ⟨rfl, hb1⟩
    go_wp2
    go_ret
    exact ⟨rfl, HB.out.trans (hb1.mono (by simp))⟩
theorem heldH_mem {H : List Hd} {o : Ob} : o ∈ heldH H ↔ ∃ (i : Nat) (h : Hd), H[i]? = some h ∧ (o ∈ h.1 ∨ o ∈ h.2) := by
  unfold heldH
  rw [List.mem_flatMap]
  constructor
  · rintro ⟨h, hh, q⟩
    obtain ⟨i, hi⟩ := List.mem_iff_getElem?.1 hh
    exact ⟨i, h, hi, List.mem_append.1 q⟩
  · rintro ⟨i, h, hi, q⟩
    exact ⟨h, List.mem_of_getElem? hi, List.mem_append.2 q⟩
set_option maxHeartbeats 4000000 in
set_option maxRecDepth 100000 in
theorem dlies_ok (o : Ob) (h : CD B w X pd pc pz gh mn lw hi O e v A V vp U d) (hI : InvD e d) :
    Calls Tryz.prog 137 #[.pointer (some ⟨pd, 0, none⟩), .agg #[.int .i64 o.1, .int .i64 o.2]] w fun r w' => r = .returned (.bool (decide (o ∈ held d))) ∧ Below w.heap.size w w' := by
  have b0 : Below w.heap.size w (w.alloc (.cells #[.int .i64 o.1, .int .i64 o.2] 72)) := (by repeat (first | exact Below.refl _ _ | refine Below.drew ?_ | refine below_drewN ?_ _ | refine Below.trans ?_ (Below.mono (by assumption) (by first | omega | (simp; omega) | (simp; done))) | refine Below.alloc ?_ (by first | omega | (simp; omega) | (simp; done)) _ | refine Below.setCell ?_ (by first | omega | (simp; omega) | (simp; done)) _))
  have HL := Lib.hid (show LocN (w.alloc (.cells #[.int .i64 o.1, .int .i64 o.2] 72)) w.heap.size [.int .i64 o.1, .int .i64 o.2] from LocN.mk_ w [.int .i64 o.1, .int .i64 o.2] 72 rfl)
  have HH := Lib.hid h; have HI := Lib.hid hI; have HB0 := Lib.hid b0
  have c1 := h.de.d.c 1 _ rfl; have cl := h.de.d.lt
  have hH4 := hI.hl
  obtain ⟨n, hn⟩ : ∃ n, n = d.H.length := ⟨_, rfl⟩
  have EN := Lib.hid hn
  rw [← hn] at c1 hH4
  obtain ⟨bb, hbb⟩ : ∃ bb, bb = decide (o ∈ held d) := ⟨_, rfl⟩
  have HBB := Lib.hid hbb
  rw [← hbb]
  clear h hI hn b0 hbb
  go_enter Tryz.func137, Tryz.ntmps137
  go_wp2_with fail
  go_loopw [12] (fun iv wr => ∃ i : Nat, i ≤ n ∧ iv = .int .i64 i ∧ Below w.heap.size w wr ∧ Hid (LocN wr w.heap.size [.int .i64 o.1, .int .i64 o.2]) ∧ Hid (∀ (j : Nat) (h : Hd), j < i → d.H[j]? = some h → o ∉ h.1 ∧ o ∉ h.2)) (fun iv _ => n - (intOf iv).toNat)
  case atStart => exact ⟨0, by omega, by go_num, HB0.out, HL, fun j h hj => by omega⟩
  case round =>
    obtain ⟨i, hile, rfl, hbel, HLr, HNO⟩ := hrel
    have m0 := HLr.out.c 0 _ rfl; have m1 := HLr.out.c 1 _ rfl; have ml := HLr.out.lt
    have zr := hbel.size
    by_cases hin : i < n
    · obtain ⟨g, hg⟩ : ∃ g, d.H[i]? = some g := ⟨d.H[i]'(by rw [← EN.out]; exact hin), List.getElem?_eq_getElem _⟩
      obtain ⟨⟨pa, pb⟩, hp, r1, r2, g0, g1, _, _, gl⟩ := (HH.out.below hbel).hand hg
      obtain ⟨qa, ca, e1, _⟩ := r1.isSlice
      obtain ⟨qb, cb, e2, _⟩ := r2.isSlice
      simp only at e1 e2 g0 g1
      subst e1 e2
      have l4 := HI.out.h4 g (List.mem_of_getElem? hg)
      have j1 : (i : Int) < (n : Int) := by omega
      have bA : Below wr.heap.size wr (wr.alloc (.cells #[.slice qa g.1.length ca, .slice qb g.2.length cb] 157)) := (by repeat (first | exact Below.refl _ _ | refine Below.drew ?_ | refine below_drewN ?_ _ | refine Below.trans ?_ (Below.mono (by assumption) (by first | omega | (simp; omega) | (simp; done))) | refine Below.alloc ?_ (by first | omega | (simp; omega) | (simp; done)) _ | refine Below.setCell ?_ (by first | omega | (simp; omega) | (simp; done)) _))
      have LA := Lib.hid (show LocN (wr.alloc (.cells #[.slice qa g.1.length ca, .slice qb g.2.length cb] 157)) wr.heap.size [.slice qa g.1.length ca, .slice qb g.2.length cb] from LocN.mk_ wr [.slice qa g.1.length ca, .slice qb g.2.length cb] 157 rfl)
      have C1 := Lib.hid (has_ob o (r1.below bA) (by omega))
      have R2 := Lib.hid r2; have BA := Lib.hid bA; have HG := Lib.hid hg
      have L42 : Hid (g.2.length ≤ 65536) := by show g.2.length ≤ 65536; omega
      obtain ⟨b1, hb1'⟩ : ∃ b1, b1 = decide (o ∈ g.1) := ⟨_, rfl⟩
      have HB1' := Lib.hid hb1'
      try simp only at C1
      rw [← hb1'] at C1
      obtain ⟨na, hna⟩ : ∃ na, na = g.1.length := ⟨_, rfl⟩
      obtain ⟨nb, hnb⟩ : ∃ nb, nb = g.2.length := ⟨_, rfl⟩
      rw [← hna] at C1 g0 LA BA
      rw [← hnb] at C1 g1 LA R2 BA
      clear r1 r2 hp hg bA hb1' l4 hna hnb
      cases b1 with
      | true =>
        have hmem : o ∈ held d := by
          unfold held
          exact List.mem_append_left _ (heldH_mem.2 ⟨i, g, HG.out, .inl (of_decide_eq_true HB1'.out.symm)⟩)
        have hd : bb = true := by rw [HBB.out]; exact decide_eq_true hmem
        subst hd
        clear hmem
        go_wp2_with fail
        refine C1.out.mono ?_
        rintro r w2 ⟨rfl, hb2⟩
        go_wp2
        go_ret
        exact ⟨rfl, hbel.trans ((BA.out.trans (hb2.mono (by simp))).mono zr)⟩
      | false =>
        go_wp2_with fail
        refine C1.out.mono ?_
        rintro r w2 ⟨rfl, hb2⟩
        have M2 := LA.out.go hb2
        have y0 := M2.c 0 _ rfl; have y1 := M2.c 1 _ rfl; have yl := M2.lt
        have B2 := Lib.hid (BA.out.trans (hb2.mono (by simp)))
        have HLr2 := Lib.hid (HLr.out.go B2.out)
        have m0 := HLr2.out.c 0 _ rfl; have m1 := HLr2.out.c 1 _ rfl; have ml := HLr2.out.lt
        have C2 := has_ob o (R2.out.below B2.out) (by have := L42.out; simpa using this)
        obtain ⟨b2, hb2'⟩ : ∃ b2, b2 = decide (o ∈ g.2) := ⟨_, rfl⟩
        have HB2' := Lib.hid hb2'
        try simp only at C2
        rw [← hb2'] at C2
        have HC2 := Lib.hid C2
        clear C1 M2 C2 hb2' hb2
        cases b2 with
        | true =>
          have hmem : o ∈ held d := by
            unfold held
            exact List.mem_append_left _ (heldH_mem.2 ⟨i, g, HG.out, .inr (of_decide_eq_true HB2'.out.symm)⟩)
          have hd : bb = true := by rw [HBB.out]; exact decide_eq_true hmem
          subst hd
          clear hmem
          go_wp2_with fail
          refine HC2.out.mono ?_
          rintro r w3 ⟨rfl, hb3⟩
          go_wp2
          go_ret
          exact ⟨rfl, hbel.trans ((B2.out.trans (hb3.mono B2.out.size)).mono zr)⟩
        | false =>
          have HNO2 : Hid (∀ (j : Nat) (h : Hd), j < i + 1 → d.H[j]? = some h → o ∉ h.1 ∧ o ∉ h.2) := fun j h hj hh => by
            by_cases q : j = i
            · subst q
              rw [HG.out] at hh
              obtain rfl := Option.some.inj hh
              exact ⟨of_decide_eq_false HB1'.out.symm, of_decide_eq_false HB2'.out.symm⟩
            · exact HNO.out j h (by omega) hh
          go_wp2_with fail
          refine HC2.out.mono ?_
          rintro r w3 ⟨rfl, hb3⟩
          have B3 := B2.out.trans (hb3.mono B2.out.size)
          have HL3 := Lib.hid (HLr.out.go B3)
          go_wp2
          go_round
          case rel => exact ⟨i + 1, by omega, by go_num, hbel.trans (B3.mono zr), HL3, HNO2⟩
          case measure => simp [intOf]; omega
    · obtain rfl : i = n := by omega
      have hnm : o ∉ heldH d.H := fun q => by
        obtain ⟨j, g, h1, h2⟩ := heldH_mem.1 q
        have hj := (List.getElem?_eq_some_iff.1 h1).1
        obtain ⟨a1, a2⟩ := HNO.out j g (by rw [EN.out]; exact hj) h1
        rcases h2 with r | r
        · exact a1 r
        · exact a2 r
      have hd : decide (o ∈ d.P.flatten) = bb := by
        rw [HBB.out]
        unfold held
        simp [hnm]
      obtain ⟨q, k, evp, k1, k2, hrow⟩ := (HH.out.below hbel).de.pile
      have c2 := (HH.out.below hbel).de.d.c 2 _ rfl; have cl2 := (HH.out.below hbel).de.d.lt
      rw [evp] at c2
      have pl : d.P.length ≤ 65536 := by
        have hh := (held_len HI.out).1
        have h2 := obs_few HI.out.c
        omega
      have CF := Lib.hid (containsf_ob (X := X) o w.heap.size q k d.P HI.out.p4 pl hrow HLr.out)
      unfold liesF at CF
      rw [hd] at CF
      clear hnm hd hrow k1 k2 evp
      go_wp2_with fail
      refine CF.out.mono ?_
      rintro r w2 ⟨rfl, hb2⟩
      go_wp2
      go_ret
      exact ⟨rfl, hbel.trans (hb2.mono zr)⟩
set_option maxHeartbeats 2000000 in
set_option maxRecDepth 100000 in
theorem dout_ok (o : Ob) (h : CD B w X pd pc pz gh mn lw hi O e v A V vp U d) (hI : InvD e d) (o1 : -9223372036854775808 ≤ o.2) (o2 : o.2 ≤ 9223372036854775807) :
    Calls Tryz.prog 87 #[.pointer (some ⟨pd, 0, none⟩), .agg #[.int .i64 o.1, .int .i64 o.2]] w fun r w' => r = .returned (.bool (outD e d o)) ∧ Below w.heap.size w w' := by
  have b0 : Below w.heap.size w (w.alloc (.cells #[.int .i64 o.1, .int .i64 o.2] 72)) := (by repeat (first | exact Below.refl _ _ | refine Below.drew ?_ | refine below_drewN ?_ _ | refine Below.trans ?_ (Below.mono (by assumption) (by first | omega | (simp; omega) | (simp; done))) | refine Below.alloc ?_ (by first | omega | (simp; omega) | (simp; done)) _ | refine Below.setCell ?_ (by first | omega | (simp; omega) | (simp; done)) _))
  have HL := Lib.hid (show LocN (w.alloc (.cells #[.int .i64 o.1, .int .i64 o.2] 72)) w.heap.size [.int .i64 o.1, .int .i64 o.2] from LocN.mk_ w [.int .i64 o.1, .int .i64 o.2] 72 rfl)
  have c0 := h.de.d.c 0 _ rfl; have cl := h.de.d.lt
  have HB0 := Lib.hid b0
  obtain ⟨W0, hW0⟩ : ∃ W0, W0 = w.alloc (.cells #[.int .i64 o.1, .int .i64 o.2] 72) := ⟨_, rfl⟩
  have h0 := h.below b0
  rw [← hW0] at HL h0 HB0
  have HA : Hid (∀ W, Below W0.heap.size W0 W → Calls Tryz.prog 136 #[.pointer (some ⟨pc, 0, none⟩), .agg #[.int .i64 o.1, .int .i64 o.2]] W fun r w' => r = .returned (.bool (decide (o ∈ obsC e d.c.C))) ∧ Below W.heap.size W w') := fun W b => shas_ok o (h0.below b).cs hI.c o1 o2
  have LI : Hid (∀ W, Below W0.heap.size W0 W → Calls Tryz.prog 137 #[.pointer (some ⟨pd, 0, none⟩), .agg #[.int .i64 o.1, .int .i64 o.2]] W fun r w' => r = .returned (.bool (decide (o ∈ held d))) ∧ Below W.heap.size W w') := fun W b => dlies_ok o (h0.below b) hI
  have k0 := h0.de.d.c 0 _ rfl; have kl := h0.de.d.lt
  have m0 := HL.out.c 0 _ rfl; have m1 := HL.out.c 1 _ rfl; have ml := HL.out.lt
  unfold outD
  obtain ⟨b1, hb1⟩ : ∃ b1, b1 = decide (o ∈ obsC e d.c.C) := ⟨_, rfl⟩
  obtain ⟨b2, hb2⟩ : ∃ b2, b2 = decide (o ∈ held d) := ⟨_, rfl⟩
  rw [← hb1] at HA
  rw [← hb2] at LI
  rw [← hb1, ← hb2]
  clear h hI hb1 hb2 b0 h0 c0 cl
  go_enter Tryz.func87, Tryz.ntmps87
  go_wp2_with fail
  rw [← hW0]
  clear hW0
  cases b1 with
  | true =>
    refine wp_region_behind (by kernel_rfl) (by kernel_rfl) ?_
    repeat (go_big_quiet_step ((first | (go_at_call 136; exact Calls.behind (HA.out _ (Behind.h _))) | (go_at_call 137; exact Calls.behind (LI.out _ (Behind.h _))))))
    refine wpQuiet_nil ?_
    intro w4 hw'
    have hb4 := behind_out hw'
    clear hw'
    obtain ⟨c4, f4⟩ := bcell hb4; have z4 := hb4.size; try simp at z4 c4 f4
    go_wp2
    go_ret
    exact ⟨by cases b2 <;> rfl, HB0.out.trans (hb4.mono HB0.out.size)⟩
  | false =>
    refine wp_region_behind (by kernel_rfl) (by kernel_rfl) ?_
    repeat (go_big_quiet_step ((first | (go_at_call 136; exact Calls.behind (HA.out _ (Behind.h _))) | (go_at_call 137; exact Calls.behind (LI.out _ (Behind.h _))))))
    refine wpQuiet_nil ?_
    intro w4 hw'
    have hb4 := behind_out hw'
    clear hw'
    obtain ⟨c4, f4⟩ := bcell hb4; have z4 := hb4.size; try simp at z4 c4 f4
    go_wp2
    go_ret
    exact ⟨by cases b2 <;> rfl, HB0.out.trans (hb4.mono HB0.out.size)⟩
end
end Go.Proofs.YtcokmiidgdmdlaaGreatDoor

namespace Go.Proofs.YtcokmiidgdmdlaaGreatDoor
open Go.RowKit Go.Maps
set_option linter.unusedSimpArgs false
set_option linter.unusedVariables false
attribute [local go_sem ↓] Go.wp_at_zero Go.wp_at_succ

/-- the errors that a depot tells -/
structure ErrS (B : Nat) (ev : Nat → Addr) (w : World) : Prop where
  z : ErrZ B ev w
  l9 : 4 < B
  c9 : w.cell? ⟨4, 0, none⟩ = some (errV ev 9)
theorem ErrS.below {B : Nat} {ev : Nat → Addr} {w w' : World} (h : ErrS B ev w) (hb : Below B w w') : ErrS B ev w' := ⟨h.z.below hb, h.l9, by rw [hb.cell (p := ⟨4, 0, none⟩) h.l9]; exact h.c9⟩
theorem ErrS.size {B : Nat} {ev : Nat → Addr} {w : World} (h : ErrS B ev w) : B ≤ w.heap.size := h.z.size
theorem ErrS.go {B : Nat} {ev : Nat → Addr} {w w' : World} (h : ErrS B ev w) (hb : Below w.heap.size w w') : ErrS B ev w' := h.below (hb.mono h.size)
theorem ErrS.up {B B' : Nat} {ev : Nat → Addr} {w : World} (h : ErrS B ev w) (hb : B ≤ B') (hs : B' ≤ w.heap.size) : ErrS B' ev w := ⟨h.z.up hb hs, Nat.lt_of_lt_of_le h.l9 hb, h.c9⟩
theorem Errs.s {B : Nat} {ev : Nat → Addr} {w : World} (h : Errs B ev w) : ErrS B ev w := ⟨h.z, h.glob 9 (by decide) (by decide), h.cell 9 (by decide) (by decide)⟩

section
variable {X Y S : List Nat} {B : Nat} {ev : Nat → Addr} {w w' : World} {pd pc pz gh e : Nat} {mn lw hi : Int} {O : List (List Int)} {v vp vp' : Value} {A : SA} {V : HV} {U U' : List Value} {d : De} {c : Ca} {P' : List (List Ob)}
theorem dclip_ok (q : Option Addr) (n cap : Nat) (w : World) (hq : q = none → n = 0) (hn : n ≤ cap) :
    Calls Tryz.prog 88 #[.slice q n cap] w fun e w' => e = .returned (.slice q n n) ∧ w' = w := by
  cases q with
  | none =>
    have := hq rfl
    subst this
    by_cases hc : cap = 0
    · subst hc
      go_enter Tryz.func88, Tryz.ntmps88
      go_wp2
      go_ret
      exact ⟨rfl, rfl⟩
    · go_enter Tryz.func88, Tryz.ntmps88
      go_wp2
      go_ret
      exact ⟨rfl, rfl⟩
  | some a =>
    obtain ⟨g, o, p⟩ := a
    have h1 : (n : Int) ≤ (cap : Int) := by omega
    go_enter Tryz.func88, Tryz.ntmps88
    go_wp2
    go_ret
    exact ⟨rfl, rfl⟩
theorem run_appO {q : Option Addr} {l : List Ob} (h : RowO X w (.slice q l.length l.length) l) (hl : l.length ≤ 65536) (ty : TypeId) {a : Addr} {cp : Nat} {o : Ob} (h0 : w.cell? (a.add 0) = some (.int .i64 o.1)) (h1 : w.cell? (a.add 1) = some (.int .i64 o.2)) :
    ∃ g k w', (Builtin.append_ #[70, 70] ty #[.slice q l.length l.length, .slice (some a) 1 cp]).run Tryz.prog w = .ok (.slice (some ⟨g, 0, none⟩) (l.length + 1) k) w' ∧ w'.ownsRow w.heap.size 72 2 (.slice (some ⟨g, 0, none⟩) (l.length + 1) k) (l.length + 1) (encB (l ++ [o])) ∧ Below w.heap.size w w' := by
  obtain ⟨i0, hi, hz0, hz1, hz2⟩ := info_parts (P := Tryz.prog) (e := 72) (z := .agg #[.int .i64 0, .int .i64 0]) (size := 2) (bytes := 16) (by kernel_rfl)
  have hms : ∀ (j : Nat) (u : Value), [Value.int .i64 o.1, .int .i64 o.2][j]? = some u → w.cell? (a.add j) = some u := fun j u hj => by
    cases j with
    | zero => simp at hj; subst hj; exact h0
    | succ j =>
      cases j with
      | zero => simp at hj; subst hj; exact h1
      | succ j => simp at hj
  have fin : ∀ v' w', w'.ownsRow w.heap.size 72 2 v' (l.length + 1) (encB (l ++ [o])) → w.grownBy w' none → ∃ g k, v' = .slice (some ⟨g, 0, none⟩) (l.length + 1) k := fun v' w' ho _ => by
    rcases ho.2 with ⟨rfl, h3⟩ | ⟨g, cap, cur, rfl, _⟩
    · exact absurd h3 (by omega)
    · exact ⟨g, cap, rfl⟩
  have elen : (encB l).length = l.length * 2 := by rw [encB_length]; omega
  cases q with
  | none =>
    obtain ⟨p', cap', e1, e2, e3, e4⟩ := h
    have hl0 : l = [] := by
      have e5 := (Value.slice.inj e1).1
      clear e1 fin elen hms
      cases l with
      | nil => rfl
      | cons b r =>
        obtain ⟨g, off, t, _⟩ := e4 0 b.1 b.2 rfl
        rw [← e5] at t; cases t
    subst hl0
    obtain ⟨v', w', hrun, h2, h3, _⟩ := run_append_own_at (P := Tryz.prog) w w.heap.size 70 ty 72 i0 _ 2 16 Tryz.underlying70 hi hz0 hz1 hz2 rfl (by omega) (.slice none 0 0) 0 [] (World.ownsRow_nil _ _ _ _) a 1 cp [.int .i64 o.1, .int .i64 o.2] (by simp) hms (by intro u hu; simp at hu; rcases hu with rfl | rfl <;> rfl) (by unfold maxLen; omega) (by omega) (Nat.le_refl _)
    have hg : w.grownBy w' none := h3
    obtain ⟨g, k, rfl⟩ := fin v' w' (by simpa [encB] using h2) hg
    exact ⟨g, k, w', by simpa using hrun, by simpa [encB] using h2, (Below.refl _ _).grown hg (Nat.le_refl _) (fun k q => by cases q)⟩
  | some b =>
    have holds : ∀ (j : Nat) (u : Value), (encB l)[j]? = some u → w.cell? (b.add j) = some u := fun j u hj => by
      have hjl := (List.getElem?_eq_some_iff.1 hj).1
      rw [elen] at hjl
      obtain ⟨y, hy⟩ : ∃ y, l[j / 2]? = some y := ⟨l[j / 2]'(by omega), List.getElem?_eq_getElem _⟩
      obtain ⟨g, off, t, _, _, c0, c1⟩ := h.at hy
      obtain rfl := Option.some.inj t
      obtain ⟨e1, e2⟩ := encB_get l (j / 2) y.1 y.2 hy
      rw [addr_add]
      have : j = j / 2 * 2 ∨ j = j / 2 * 2 + 1 := by omega
      rcases this with q | q
      · rw [q] at hj
        rw [e1] at hj
        obtain rfl := Option.some.inj hj
        rw [q]; exact c0
      · rw [q] at hj
        rw [e2] at hj
        obtain rfl := Option.some.inj hj
        rw [q]; exact c1
    obtain ⟨v', w', hrun, h2, h3⟩ := run_append_arg_grows (P := Tryz.prog) w 70 ty 72 i0 _ 2 16 Tryz.underlying70 hi hz0 hz1 hz2 rfl (by omega) b l.length l.length (encB l) elen holds a 1 cp [.int .i64 o.1, .int .i64 o.2] (by simp) hms (by omega) (by unfold maxLen; omega) (by omega)
    rw [← encB_snoc] at h2
    obtain ⟨g, k, rfl⟩ := fin v' w' h2 h3
    exact ⟨g, k, w', hrun, h2, (Below.refl _ _).grown h3 (Nat.le_refl _) (fun k q => by cases q)⟩
theorem step_call {P : Program} {ops : Array Oper} {o : Oper} {a : Act} {w : World} {K : Act → World → Prop} {Q : Exit → Act → World → Prop} {F : Prop} (hg : o.guard = none)
    (f : FuncId) (args : Array Value) (hrun : (execOp a.eval o).run P w = .ok (.enter f args) w) (v : Value) (w' : World) (hc : Calls P f args w fun e w'' => e = .returned v ∧ w'' = w') (hK : K (a.put o.dst v) w') :
    if Region.wanted o (yielded ops a.tmps) = true then Oper.wp P o a w K Q else F := by
  have hw : Region.wanted o (yielded ops a.tmps) = true := by simp [Region.wanted, hg]
  rw [if_pos hw]
  unfold Oper.wp
  rw [hrun, Oper.upon_enter]
  refine hc.mono fun e w'' hh => ?_
  obtain ⟨rfl, rfl⟩ := hh
  exact hK
theorem step_appO {ops : Array Oper} {o : Oper} {a : Act} {K : Act → World → Prop} {Q : Exit → Act → World → Prop} {F : Prop} {q : Option Addr} {l : List Ob} (hgd : o.guard = none) (s x : Operand)
    (hop : o.op = .call { callee := .builtin .append, args := #[s, x], argTypes := #[70, 70] }) (hs : a.eval s = .slice q l.length l.length) {ad : Addr} {cp : Nat} (hx : a.eval x = .slice (some ad) 1 cp)
    (h : RowO X w (.slice q l.length l.length) l) (hl : l.length ≤ 65536) {ob : Ob} (h0 : w.cell? (ad.add 0) = some (.int .i64 ob.1)) (h1 : w.cell? (ad.add 1) = some (.int .i64 ob.2))
    (hK : ∀ g k w', w'.ownsRow w.heap.size 72 2 (.slice (some ⟨g, 0, none⟩) (l.length + 1) k) (l.length + 1) (encB (l ++ [ob])) → Below w.heap.size w w' → K (a.put o.dst (.slice (some ⟨g, 0, none⟩) (l.length + 1) k)) w') :
    if Region.wanted o (yielded ops a.tmps) = true then Oper.wp Tryz.prog o a w K Q else F := by
  have hw : Region.wanted o (yielded ops a.tmps) = true := by simp [Region.wanted, hgd]
  rw [if_pos hw]
  obtain ⟨g, k, w', hrun, h2, h3⟩ := run_appO h hl o.type h0 h1 (cp := cp)
  unfold Oper.wp execOp
  simp only [hop, resolve, invoke, builtin, Sem.run_bind, Sem.run_pure, Result.andThen_ok, List.map_toArray, List.map_cons, List.map_nil, hs, hx, hrun]
  exact hK g k w' h2 h3
theorem step_appN {ops : Array Oper} {o : Oper} {a : Act} {K : Act → World → Prop} {Q : Exit → Act → World → Prop} {F : Prop} {q : Option Addr} {n : Nat} {l : List Ob} (hn : n = l.length) (hgd : o.guard = none) (s x : Operand)
    (hop : o.op = .call { callee := .builtin .append, args := #[s, x], argTypes := #[70, 70] }) (hs : a.eval s = .slice q n n) {ad : Addr} {cp : Nat} (hx : a.eval x = .slice (some ad) 1 cp)
    (h : RowO X w (.slice q l.length l.length) l) (hl : n ≤ 65536) {ob : Ob} (h0 : w.cell? (ad.add 0) = some (.int .i64 ob.1)) (h1 : w.cell? (ad.add 1) = some (.int .i64 ob.2))
    (hK : ∀ g k w', w'.ownsRow w.heap.size 72 2 (.slice (some ⟨g, 0, none⟩) (n + 1) k) (n + 1) (encB (l ++ [ob])) → Below w.heap.size w w' → K (a.put o.dst (.slice (some ⟨g, 0, none⟩) (n + 1) k)) w') :
    if Region.wanted o (yielded ops a.tmps) = true then Oper.wp Tryz.prog o a w K Q else F := by
  subst hn
  exact step_appO hgd s x hop hs hx h hl h0 h1 hK
end
end Go.Proofs.YtcokmiidgdmdlaaGreatDoor
