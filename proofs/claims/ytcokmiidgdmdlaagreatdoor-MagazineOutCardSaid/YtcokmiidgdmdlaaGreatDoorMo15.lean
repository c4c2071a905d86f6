/- Lemmas and contracts for the claim's last text: DGiveA. -/
import Derived.Test.YtcokmiidgdmdlaaGreatDoorMo14
namespace Go.Proofs.YtcokmiidgdmdlaaGreatDoor
open Go.RowKit Go.Maps
set_option linter.unusedSimpArgs false
set_option linter.unusedVariables false
attribute [local go_sem ↓] Go.wp_at_zero Go.wp_at_succ

theorem RowO.clip {X : List Nat} {w : World} {q : Option Addr} {n c : Nat} {l : List Ob} (h : RowO X w (.slice q n c) l) : RowO X w (.slice q l.length l.length) l ∧ n = l.length ∧ n ≤ c ∧ (q = none → n = 0) := by
  obtain ⟨p, cap, h1, h2, h3, h4⟩ := h
  obtain ⟨e1, e2, e3⟩ := Value.slice.inj h1
  subst e1 e2 e3
  refine ⟨⟨q, l.length, rfl, Nat.le_refl _, by omega, h4⟩, rfl, h2, fun e => ?_⟩
  cases l with
  | nil => rfl
  | cons b r =>
    obtain ⟨g, off, t, _⟩ := h4 0 b.1 b.2 rfl
    rw [e] at t; cases t
section
variable {X Y S F : List Nat} {B : Nat} {ev : Nat → Addr} {w w' : World} {pd pc pz gh e : Nat} {mn lw hi : Int} {O : List (List Int)} {v vp vp' : Value} {A : SA} {V : HV} {U U' : List Value} {d : De} {c : Ca} {P' : List (List Ob)}
/-- what a give of a depot comes to -/
def DgvPost (B : Nat) (ev : Nat → Addr) (pd pc pz gh : Nat) (mn lw hi : Int) (O : List (List Int)) (e : Nat) (X F : List Nat) (w : World) (r : De × Nat) (en : Ending) (w' : World) : Prop :=
  en = .returned (errV ev r.2) ∧ ∃ X', CDx B w' X' F pd pc pz gh mn lw hi O e r.1 ∧ Keep (off X F) w w' ∧ (∀ x ∈ X', x ∈ X ∨ w.heap.size ≤ x) ∧ ∀ x ∈ X, x ∈ X'
theorem CD.setHandN (h : CD B w X pd pc pz gh mn lw hi O e v A V vp U d) (k : Nat) {p' : Value × Value} {h' : Hd} (hk : k < d.H.length) (kk : Keep [gh] w w') (r1 : RowO X w' p'.1 h'.1) (r2 : RowO X w' p'.2 h'.2) (hg : LocN w' gh (handL (V.set k p'))) :
    CD B w' X pd pc pz gh mn lw hi O e v A (V.set k p') vp U ⟨d.c, d.H.set k h', d.P⟩ := by
  have q := h.setHand k (p' := (.slice none 0 0, .slice none 0 0)) (h' := ([], [])) (w' := w) hk (RowO.nil X w) (RowO.nil X w) (Keep.refl _ _)
  obtain ⟨n0, nn⟩ := List.nodup_cons.1 h.de.nd
  obtain ⟨n1, n2⟩ := List.nodup_cons.1 nn
  have hpg : pd ≠ gh := fun q => n0 (q ▸ List.mem_cons_self ..)
  have fg := h.far gh h.gh_mem
  have hs : ∀ s ∈ [gh], s ∈ X ∨ w.heap.size ≤ s := fun s q => by simp at q; subst q; exact .inl fg.1
  refine ⟨h.x, h.limK kk, h.cs.z.keep kk (fun s q => by simp at q; subst q; exact .inl ⟨fg.1, fg.2.2⟩) |> fun z => ⟨z, h.cs.ch.keep kk (fun s q => by simp at q; subst q; exact fg.2.1), h.cs.ne, h.cs.l0⟩, ?_, h.ne⟩
  refine ⟨?_, hg, by simp [h.de.hl], fun i p g hp hg' => ?_, own_keep h.de.row kk (fun s q => by simp at q; subst q; exact n1), h.de.ul, fun i u m hu hm => (h.de.po i u m hu hm).keep kk hs, h.de.mem, h.de.nd, fun y hy => ⟨(h.de.lim y hy).1, Nat.lt_of_lt_of_le (h.de.lim y hy).2 kk.size⟩⟩
  · rw [List.length_set]
    exact h.de.d.keep kk (by simpa using hpg)
  · by_cases q : k = i
    · subst q
      rw [List.getElem?_set_self (by rw [h.de.hl]; exact hk)] at hp
      rw [List.getElem?_set_self hk] at hg'
      obtain rfl := Option.some.inj hp
      obtain rfl := Option.some.inj hg'
      exact ⟨r1, r2⟩
    · rw [List.getElem?_set_ne q] at hp hg'
      exact ⟨(h.de.ho i p g hp hg').1.keep kk hs, (h.de.ho i p g hp hg').2.keep kk hs⟩
theorem giveD_yes {k : Nat} {g : Hd} {o : Ob} (hk : d.H[k]? = some g) (ho : outD e d o = true) : giveD e d k o = (⟨d.c, d.H.set k ((fillD g d.P).1.1 ++ [o], (fillD g d.P).1.2), (fillD g d.P).2⟩, 0) := by
  unfold giveD; rw [handD_of hk]; simp only [ho, if_true, Int.toNat_natCast]
theorem giveD_stale {k : Nat} {g : Hd} {o : Ob} (hk : d.H[k]? = some g) (ho : outD e d o = false) : giveD e d k o = (d, 9) := by
  unfold giveD; rw [handD_of hk]; simp only [ho]; rfl
theorem giveD_bad {k : Int} {o : Ob} (hk : handD d k = none) : giveD e d k o = (d, 2) := by unfold giveD; rw [hk]
set_option maxHeartbeats 1000000 in
theorem dgive_bad (k : Int) (o : Ob) (hE : ErrS B ev w) (h : CD B w X pd pc pz gh mn lw hi O e v A V vp U d) (hF : Hid (∀ f ∈ F, f ∈ X ∧ f ∉ xd pc v A d.c.L pd gh vp)) (hk : handD d k = none) :
    Calls Tryz.prog 34 #[.pointer (some ⟨pd, 0, none⟩), .int .i64 k, .agg #[.int .i64 o.1, .int .i64 o.2]] w (DgvPost B ev pd pc pz gh mn lw hi O e X F w (giveD e d k o)) := by
  rw [giveD_bad hk]
  have b1 : Below w.heap.size w (w.alloc (.cells #[.int .i64 o.1, .int .i64 o.2] 72)) := (by repeat (first | exact Below.refl _ _ | refine Below.drew ?_ | refine below_drewN ?_ _ | refine Below.trans ?_ (Below.mono (by assumption) (by first | omega | (simp; omega) | (simp; done))) | refine Below.alloc ?_ (by first | omega | (simp; omega) | (simp; done)) _ | refine Below.setCell ?_ (by first | omega | (simp; omega) | (simp; done)) _))
  have NO := Lib.hid (dhand_err (hE.z.go b1).c (h.below b1) k (handD_none hk))
  have e1 : errV ev 2 = .iface 291 (.pointer (some (ev 2))) := rfl
  have FIN : Hid (∀ W, Below w.heap.size w W → DgvPost B ev pd pc pz gh mn lw hi O e X F w (d, 2) (.returned (.iface 291 (.pointer (some (ev 2))))) W) := fun W b => ⟨rfl, X, ⟨_, _, _, _, _, h.below b, hF.out⟩, Keep.of b, fun _ q => .inl q, fun _ q => q⟩
  have HB1 := Lib.hid b1
  rw [e1] at NO
  clear h hk hE e1 b1
  go_enter Tryz.func34, Tryz.ntmps34
  go_wp2_with fail
  refine NO.out.mono ?_
  rintro r w1 ⟨rfl, hb1⟩
  go_wp2
  go_ret
  exact FIN.out _ (HB1.out.trans (hb1.mono (by simp)))
set_option maxHeartbeats 1000000 in
theorem dgive_stale (k : Nat) (o : Ob) (hE : ErrS B ev w) (h : CD B w X pd pc pz gh mn lw hi O e v A V vp U d) (hF : Hid (∀ f ∈ F, f ∈ X ∧ f ∉ xd pc v A d.c.L pd gh vp)) (hI : InvD e d) (o1 : -9223372036854775808 ≤ o.2) (o2 : o.2 ≤ 9223372036854775807) {g : Hd} (hk : d.H[k]? = some g) (ho : outD e d o = false) :
    Calls Tryz.prog 34 #[.pointer (some ⟨pd, 0, none⟩), .int .i64 k, .agg #[.int .i64 o.1, .int .i64 o.2]] w (DgvPost B ev pd pc pz gh mn lw hi O e X F w (giveD e d k o)) := by
  rw [giveD_stale hk ho]
  have hkl := (List.getElem?_eq_some_iff.1 hk).1
  have b1 : Below w.heap.size w (w.alloc (.cells #[.int .i64 o.1, .int .i64 o.2] 72)) := (by repeat (first | exact Below.refl _ _ | refine Below.drew ?_ | refine below_drewN ?_ _ | refine Below.trans ?_ (Below.mono (by assumption) (by first | omega | (simp; omega) | (simp; done))) | refine Below.alloc ?_ (by first | omega | (simp; omega) | (simp; done)) _ | refine Below.setCell ?_ (by first | omega | (simp; omega) | (simp; done)) _))
  have HL := Lib.hid (show LocN (w.alloc (.cells #[.int .i64 o.1, .int .i64 o.2] 72)) w.heap.size [.int .i64 o.1, .int .i64 o.2] from LocN.mk_ w [.int .i64 o.1, .int .i64 o.2] 72 rfl)
  obtain ⟨W1, hW1⟩ : ∃ W1, W1 = w.alloc (.cells #[.int .i64 o.1, .int .i64 o.2] 72) := ⟨_, rfl⟩
  rw [← hW1] at b1 HL
  have h1 := h.below b1
  have HD := Lib.hid (dhand_ok h1 k hkl)
  have OU := dout_ok o h1 hI o1 o2
  rw [ho] at OU
  have HOU := Lib.hid OU
  have m0 := HL.out.c 0 _ rfl; have m1 := HL.out.c 1 _ rfl; have ml := HL.out.lt
  have e1 : errV ev 9 = .iface 291 (.pointer (some (ev 9))) := rfl
  have FIN : Hid (∀ W, Below w.heap.size w W → DgvPost B ev pd pc pz gh mn lw hi O e X F w (d, 9) (.returned (.iface 291 (.pointer (some (ev 9))))) W) := fun W b => ⟨rfl, X, ⟨_, _, _, _, _, h.below b, hF.out⟩, Keep.of b, fun _ q => .inl q, fun _ q => q⟩
  have HB1 := Lib.hid b1; have HE := Lib.hid hE; have E1 := Lib.hid e1
  clear h hk hE e1 b1 h1 OU hI
  go_enter Tryz.func34, Tryz.ntmps34
  go_wp2_with fail
  rw [← hW1]
  clear hW1
  refine HD.out.mono ?_
  rintro r w1 ⟨rfl, rfl⟩
  go_wp2_with fail
  refine HOU.out.mono ?_
  rintro r w2 ⟨rfl, hb2⟩
  have B2 := HB1.out.trans (hb2.mono HB1.out.size)
  have gs : w2.cell? ⟨4, 0, none⟩ = some (errV ev 9) := (HE.out.go B2).c9
  have gsl : 4 < w2.heap.size := Nat.lt_of_lt_of_le HE.out.l9 (Nat.le_trans HE.out.size B2.size)
  rw [E1.out] at gs
  go_wp2
  go_ret
  exact FIN.out _ (by repeat (first | exact Below.refl _ _ | refine Below.drew ?_ | refine below_drewN ?_ _ | refine Below.trans ?_ (Below.mono (by assumption) (by first | omega | (simp; omega) | (simp; done))) | refine Below.alloc ?_ (by first | omega | (simp; omega) | (simp; done)) _ | refine Below.setCell ?_ (by first | omega | (simp; omega) | (simp; done)) _))
set_option maxHeartbeats 4000000 in
set_option maxRecDepth 100000 in
theorem dgive_1 (k : Nat) (o : Ob) (h : CD B w X pd pc pz gh mn lw hi O e v A V vp U d) (hF : Hid (∀ f ∈ F, f ∈ X ∧ f ∉ xd pc v A d.c.L pd gh vp)) (hI : InvD e d) (o1 : -9223372036854775808 ≤ o.2) (o2 : o.2 ≤ 9223372036854775807) {l r : List Ob} (hk : d.H[k]? = some (l, r)) (hl3 : l.length ≤ 3) (ho : outD e d o = true) :
    Calls Tryz.prog 34 #[.pointer (some ⟨pd, 0, none⟩), .int .i64 k, .agg #[.int .i64 o.1, .int .i64 o.2]] w (DgvPost B ev pd pc pz gh mn lw hi O e X F w (giveD e d k o)) := by
  have hkl := (List.getElem?_eq_some_iff.1 hk).1
  have fd : fillD (l, r) d.P = ((l, r), d.P) := by unfold fillD; rw [if_neg (by show ¬ l.length = 4; omega)]
  rw [giveD_yes hk ho, fd]
  have b1 : Below w.heap.size w (w.alloc (.cells #[.int .i64 o.1, .int .i64 o.2] 72)) := (by repeat (first | exact Below.refl _ _ | refine Below.drew ?_ | refine below_drewN ?_ _ | refine Below.trans ?_ (Below.mono (by assumption) (by first | omega | (simp; omega) | (simp; done))) | refine Below.alloc ?_ (by first | omega | (simp; omega) | (simp; done)) _ | refine Below.setCell ?_ (by first | omega | (simp; omega) | (simp; done)) _))
  have HL := Lib.hid (show LocN (w.alloc (.cells #[.int .i64 o.1, .int .i64 o.2] 72)) w.heap.size [.int .i64 o.1, .int .i64 o.2] from LocN.mk_ w [.int .i64 o.1, .int .i64 o.2] 72 rfl)
  obtain ⟨W1, hW1⟩ : ∃ W1, W1 = w.alloc (.cells #[.int .i64 o.1, .int .i64 o.2] 72) := ⟨_, rfl⟩
  rw [← hW1] at b1 HL
  have h1 := h.below b1
  have HD := Lib.hid (dhand_ok h1 k hkl)
  have OU := dout_ok o h1 hI o1 o2
  rw [ho] at OU
  have HOU := Lib.hid OU
  have m0 := HL.out.c 0 _ rfl; have m1 := HL.out.c 1 _ rfl; have ml := HL.out.lt
  have HB1 := Lib.hid b1; have HH := Lib.hid h
  have rg : ¬ (w.heap.size = gh) := fun q => by have := (h.de.lim gh h.gh_mem).2; omega
  have VL : Hid (k < V.length) := by show k < V.length; rw [h.de.hl]; exact hkl
  clear h b1 h1 OU hI ho
  go_enter Tryz.func34, Tryz.ntmps34
  go_wp2_with fail
  rw [← hW1]
  clear hW1
  refine HD.out.mono ?_
  rintro r' w1 ⟨rfl, rfl⟩
  go_wp2_with fail
  refine HOU.out.mono ?_
  rintro r' w2 ⟨rfl, hb2⟩
  have B2 := HB1.out.trans (hb2.mono HB1.out.size)
  obtain ⟨p, hp, r1, r2, g0, g1, f0, f1, gl⟩ := (HH.out.below B2).hand hk
  obtain ⟨⟨pa, pb⟩, rfl⟩ : ∃ q, q = p := ⟨_, rfl⟩
  obtain ⟨qa, ca, e1, _, _⟩ := r1.isSlice
  simp only at e1 g0 g1 hp
  subst e1
  obtain ⟨rc, _, nc, qn⟩ := RowO.clip (by simpa using r1)
  have HRC := Lib.hid rc; have HR2 := Lib.hid r2; have HP := Lib.hid hp
  have HLB := Lib.hid (HL.out.go hb2)
  have x0 := HLB.out.c 0 _ rfl; have x1 := HLB.out.c 1 _ rfl; have xl := HLB.out.lt
  have HB2 := Lib.hid B2
  obtain ⟨n, hn⟩ : ∃ n, n = l.length := ⟨_, rfl⟩
  have EN := Lib.hid hn
  replace g0 : w2.cell? ⟨gh, k * 2, none⟩ = some (.slice qa n ca) := by rw [hn]; exact g0
  rw [← hn] at hl3 nc qn
  have d1 : decide (n = 4) = false := decide_eq_false (by omega)
  have d1' : decide ((n : Int) = 4) = false := decide_eq_false (by omega)
  have CL : Hid (∀ W, Calls Tryz.prog 88 #[.slice qa n ca] W fun e w' => e = .returned (.slice qa n n) ∧ w' = W) := fun W => dclip_ok qa n ca W qn nc
  have NB0 : Hid ((w2.alloc (.cells #[.int .i64 o.1, .int .i64 o.2] 72)).drew.cell? ⟨w2.heap.size, 0 + 0, none⟩ = some (.int .i64 o.1)) := (LocN.mk_ w2 [.int .i64 o.1, .int .i64 o.2] 72 rfl).drewL.c 0 _ rfl
  have NB1 : Hid ((w2.alloc (.cells #[.int .i64 o.1, .int .i64 o.2] 72)).drew.cell? ⟨w2.heap.size, 0 + 1, none⟩ = some (.int .i64 o.2)) := (LocN.mk_ w2 [.int .i64 o.1, .int .i64 o.2] 72 rfl).drewL.c 1 _ rfl
  have HLH := Lib.hid ((HH.out.below B2).de.hs)
  have FIN : Hid (∀ w4 g' k', Below w2.heap.size w2 w4 → w4.ownsRow ((w2.alloc (.cells #[.int .i64 o.1, .int .i64 o.2] 72)).drew).heap.size 72 2 (.slice (some ⟨g', 0, none⟩) (n + 1) k') (n + 1) (encB (l ++ [o])) →
      DgvPost B ev pd pc pz gh mn lw hi O e X F w (⟨d.c, d.H.set k (l ++ [o], r), d.P⟩, 0) (.returned .nilIface) (w4.setCell ⟨gh, k * 2, none⟩ (.slice (some ⟨g', 0, none⟩) (n + 1) k'))) := fun w4 g' k' hb hown => by
    have hz := B2.size
    have kk : Keep [gh] w (w4.setCell ⟨gh, k * 2, none⟩ (.slice (some ⟨g', 0, none⟩) (n + 1) k')) := (Keep.of (B2.trans (hb.mono hz))).setCell (p := ⟨gh, k * 2, none⟩) (.inl (by simp)) _
    have hg4 := hown.lt g' rfl
    have hs : ((w2.alloc (.cells #[.int .i64 o.1, .int .i64 o.2] 72)).drew).heap.size = w2.heap.size + 1 := by simp
    rw [hs] at hg4
    have hgX : g' ∉ X := fun q => by have := (HH.out.lim g' q).2; omega
    have k4 : Keep [gh] w4 (w4.setCell ⟨gh, k * 2, none⟩ (.slice (some ⟨g', 0, none⟩) (n + 1) k')) := (Keep.refl _ _).setCell (p := ⟨gh, k * 2, none⟩) (.inl (by simp)) _
    have hsx : ∀ s ∈ [gh], s ∈ X ∨ w4.heap.size ≤ s := fun s q => by simp at q; subst q; exact .inl (HH.out.de.mem s HH.out.gh_mem)
    have en : n + 1 = (l ++ [o]).length := by rw [hn]; simp
    have ro : RowO X w4 (.slice (some ⟨g', 0, none⟩) (n + 1) k') (l ++ [o]) := by
      rw [en] at hown ⊢
      exact own_rowO hown (fun g q => by
        have : g = g' := by simpa [Value.ownBlock, eq_comm] using q
        subst this; exact hgX)
    have hl := hloc1 (HLH.out.keep (Keep.of (S := []) hb) (by simp)) HP.out (.slice (some ⟨g', 0, none⟩) (n + 1) k')
    refine ⟨rfl, X, ⟨_, _, _, _, _, HH.out.setHandN k (p' := (.slice (some ⟨g', 0, none⟩) (n + 1) k', pb)) (h' := (l ++ [o], r)) hkl kk (ro.keep k4 hsx) ((HR2.out.below hb).keep k4 hsx) hl, hF.out⟩, kk.mono (fun s q => by simp at q; subst q; exact HH.out.offy hF.out HH.out.gh_mem), fun _ q => .inl q, fun _ q => q⟩
  clear r1 r2 rc hp hn B2 HD HOU m0 m1 ml
  go_wp2_with fail
  refine wp_region_cut (S := (fun w' => w'.cell? ⟨gh, k * 2, none⟩ = some (.slice qa n ca) ∧ w'.cell? ⟨w.heap.size, 0, none⟩ = some (.int .i64 o.1) ∧ w'.cell? ⟨w.heap.size, 1, none⟩ = some (.int .i64 o.2))) 9 #[false, false, false, false, false, false, false, false, false] rfl (by kernel_rfl) (by kernel_rfl) (by (try dsimp only); go_keep) (fun hHeld => ?_)
  simp only [List.take_succ_cons, List.take_zero]
  refine cut_take (i := 0) (oi := _) (v := ?_) rfl (by kernel_rfl) (by kernel_rfl) (by kernel_rfl) (fun _ _ _ h => h) (Or.inl ⟨by rfl, ?_⟩) (by assumption) ?_
  rotate_left
  · (intro w hSw; (try dsimp only at hSw); go_simp <;> with_reducible rfl)
  try simp only [Act.put, List.setIfInBounds_toArray, List.set_cons_zero, List.set_cons_succ]
  refine cut_take (i := 1) (oi := _) (v := ?_) rfl (by kernel_rfl) (by kernel_rfl) (by kernel_rfl) (fun _ _ _ h => h) (Or.inl ⟨by rfl, ?_⟩) (by assumption) ?_
  rotate_left
  · (intro w hSw; (try dsimp only at hSw); go_simp <;> with_reducible rfl)
  try simp only [Act.put, List.setIfInBounds_toArray, List.set_cons_zero, List.set_cons_succ]
  refine cut_take (i := 2) (oi := _) (v := ?_) rfl (by kernel_rfl) (by kernel_rfl) (by kernel_rfl) (fun _ _ _ h => h) (Or.inl ⟨by rfl, ?_⟩) (by assumption) ?_
  rotate_left
  · (intro w hSw; (try dsimp only at hSw); go_simp <;> with_reducible rfl)
  try simp only [Act.put, List.setIfInBounds_toArray, List.set_cons_zero, List.set_cons_succ]
  refine cut_take (i := 3) (oi := _) (v := ?_) rfl (by kernel_rfl) (by kernel_rfl) (by kernel_rfl) (fun _ _ _ h => h) (Or.inl ⟨by rfl, ?_⟩) (by assumption) ?_
  rotate_left
  · (intro w hSw; (try dsimp only at hSw); go_simp <;> with_reducible rfl)
  try simp only [Act.put, List.setIfInBounds_toArray, List.set_cons_zero, List.set_cons_succ]
  refine cut_take (i := 4) (oi := _) (v := ?_) rfl (by kernel_rfl) (by kernel_rfl) (by kernel_rfl) (fun _ _ _ h => h) (Or.inl ⟨by rfl, ?_⟩) (by assumption) ?_
  rotate_left
  · (intro w hSw; (try dsimp only at hSw); go_simp <;> with_reducible rfl)
  try simp only [Act.put, List.setIfInBounds_toArray, List.set_cons_zero, List.set_cons_succ]
  refine cut_take (i := 6) (oi := _) (v := ?_) rfl (by kernel_rfl) (by kernel_rfl) (by kernel_rfl) (fun _ _ _ h => h) (Or.inl ⟨by rfl, ?_⟩) (by assumption) ?_
  rotate_left
  · (intro w hSw; (try dsimp only at hSw); go_simp <;> with_reducible rfl)
  try simp only [Act.put, List.setIfInBounds_toArray, List.set_cons_zero, List.set_cons_succ]
  refine wpAnyH_ready (rs := [5, 7]) (by kernel_rfl) (by simp) ?_
  refine AllReadyH.cons (cut_cons rfl) (fun K hK => ?_) (AllReadyH.cons (cut_cons rfl) (fun K hK => ?_) AllReadyH.nil)
  · refine step_call (by rfl) 88 #[.slice qa n ca] (by kernel_rfl) (.slice qa n n) _ (CL.out _) ?_
    refine hK.out _ _ (by (try dsimp only); go_keep) (fun hHeld => ?_)
    clear hK K
    try simp only [Act.put, List.setIfInBounds_toArray, List.set_cons_zero, List.set_cons_succ]
    refine wpAnyH_ready (rs := [7]) (by kernel_rfl) (by simp) ?_
    refine AllReadyH.cons (cut_cons rfl) (fun K hK => ?_) AllReadyH.nil
    go_simp
    refine hK.out _ _ (by (try dsimp only); go_keep) (fun hHeld => ?_)
    clear hK K
    try simp only [Act.put, List.setIfInBounds_toArray, List.set_cons_zero, List.set_cons_succ]
    refine wpAnyH_ready (rs := [8]) (by kernel_rfl) (by simp) ?_
    refine AllReadyH.cons (cut_cons rfl) (fun K hK => ?_) AllReadyH.nil
    refine step_appN (X := X) (w := (w2.alloc (.cells #[.int .i64 o.1, .int .i64 o.2] 72)).drew) EN.out (by rfl) (.tmp 66) (.tmp 68) (by rfl) (by rfl) (by rfl) ((HRC.out.below (by repeat (first | exact Below.refl _ _ | refine Below.drew ?_ | refine below_drewN ?_ _ | refine Below.trans ?_ (Below.mono (by assumption) (by first | omega | (simp; omega) | (simp; done))) | refine Below.alloc ?_ (by first | omega | (simp; omega) | (simp; done)) _ | refine Below.setCell ?_ (by first | omega | (simp; omega) | (simp; done)) _)))) (by omega) (ob := o) (ad := ⟨w2.heap.size, 0, none⟩) (by rw [addr_add]; exact NB0.out) (by rw [addr_add]; exact NB1.out) ?_
    intro g' k' w4 hown4 hb4
    have B4 : Below w2.heap.size w2 w4 := (show Below w2.heap.size w2 ((w2.alloc (.cells #[.int .i64 o.1, .int .i64 o.2] 72)).drew) from (by repeat (first | exact Below.refl _ _ | refine Below.drew ?_ | refine below_drewN ?_ _ | refine Below.trans ?_ (Below.mono (by assumption) (by first | omega | (simp; omega) | (simp; done))) | refine Below.alloc ?_ (by first | omega | (simp; omega) | (simp; done)) _ | refine Below.setCell ?_ (by first | omega | (simp; omega) | (simp; done)) _))).trans (hb4.mono (by simp))
    have y0 := (B4.cell (p := ⟨gh, k * 2, none⟩) gl).trans g0
    have y1 := (B4.cell (p := ⟨w.heap.size, 0, none⟩) xl).trans x0
    have y2 := (B4.cell (p := ⟨w.heap.size, 1, none⟩) xl).trans x1
    have yf := (B4.frozen (p := ⟨gh, k * 2, none⟩) gl).trans f0
    have yl : gh < w4.heap.size := Nat.lt_of_lt_of_le gl B4.size
    refine hK.out _ _ (by (try dsimp only); go_keep) (fun hHeld => ?_)
    clear hK K
    try simp only [Act.put, List.setIfInBounds_toArray, List.set_cons_zero, List.set_cons_succ]
    refine wpAnyH_done (by kernel_rfl) ?_ _
    simp only [headQ, List.drop_succ_cons, List.drop_zero]
    have HO4 := Lib.hid hown4; have HB4 := Lib.hid B4
    clear hown4 hb4 B4 hHeld
    go_wp2
    go_ret
    exact FIN.out w4 g' k' HB4.out HO4.out
  · go_simp
    refine hK.out _ _ (by (try dsimp only); go_keep) (fun hHeld => ?_)
    clear hK K
    try simp only [Act.put, List.setIfInBounds_toArray, List.set_cons_zero, List.set_cons_succ]
    refine wpAnyH_ready (rs := [5]) (by kernel_rfl) (by simp) ?_
    refine AllReadyH.cons (cut_cons rfl) (fun K hK => ?_) AllReadyH.nil
    refine step_call (by rfl) 88 #[.slice qa n ca] (by kernel_rfl) (.slice qa n n) _ (CL.out _) ?_
    refine hK.out _ _ (by (try dsimp only); go_keep) (fun hHeld => ?_)
    clear hK K
    try simp only [Act.put, List.setIfInBounds_toArray, List.set_cons_zero, List.set_cons_succ]
    refine wpAnyH_ready (rs := [8]) (by kernel_rfl) (by simp) ?_
    refine AllReadyH.cons (cut_cons rfl) (fun K hK => ?_) AllReadyH.nil
    refine step_appN (X := X) (w := (w2.alloc (.cells #[.int .i64 o.1, .int .i64 o.2] 72)).drew) EN.out (by rfl) (.tmp 66) (.tmp 68) (by rfl) (by rfl) (by rfl) ((HRC.out.below (by repeat (first | exact Below.refl _ _ | refine Below.drew ?_ | refine below_drewN ?_ _ | refine Below.trans ?_ (Below.mono (by assumption) (by first | omega | (simp; omega) | (simp; done))) | refine Below.alloc ?_ (by first | omega | (simp; omega) | (simp; done)) _ | refine Below.setCell ?_ (by first | omega | (simp; omega) | (simp; done)) _)))) (by omega) (ob := o) (ad := ⟨w2.heap.size, 0, none⟩) (by rw [addr_add]; exact NB0.out) (by rw [addr_add]; exact NB1.out) ?_
    intro g' k' w4 hown4 hb4
    have B4 : Below w2.heap.size w2 w4 := (show Below w2.heap.size w2 ((w2.alloc (.cells #[.int .i64 o.1, .int .i64 o.2] 72)).drew) from (by repeat (first | exact Below.refl _ _ | refine Below.drew ?_ | refine below_drewN ?_ _ | refine Below.trans ?_ (Below.mono (by assumption) (by first | omega | (simp; omega) | (simp; done))) | refine Below.alloc ?_ (by first | omega | (simp; omega) | (simp; done)) _ | refine Below.setCell ?_ (by first | omega | (simp; omega) | (simp; done)) _))).trans (hb4.mono (by simp))
    have y0 := (B4.cell (p := ⟨gh, k * 2, none⟩) gl).trans g0
    have y1 := (B4.cell (p := ⟨w.heap.size, 0, none⟩) xl).trans x0
    have y2 := (B4.cell (p := ⟨w.heap.size, 1, none⟩) xl).trans x1
    have yf := (B4.frozen (p := ⟨gh, k * 2, none⟩) gl).trans f0
    have yl : gh < w4.heap.size := Nat.lt_of_lt_of_le gl B4.size
    refine hK.out _ _ (by (try dsimp only); go_keep) (fun hHeld => ?_)
    clear hK K
    try simp only [Act.put, List.setIfInBounds_toArray, List.set_cons_zero, List.set_cons_succ]
    refine wpAnyH_done (by kernel_rfl) ?_ _
    simp only [headQ, List.drop_succ_cons, List.drop_zero]
    have HO4 := Lib.hid hown4; have HB4 := Lib.hid B4
    clear hown4 hb4 B4 hHeld
    go_wp2
    go_ret
    exact FIN.out w4 g' k' HB4.out HO4.out
set_option maxHeartbeats 4000000 in
set_option maxRecDepth 100000 in
theorem dgive_2 (k : Nat) (o : Ob) (h : CD B w X pd pc pz gh mn lw hi O e v A V vp U d) (hF : Hid (∀ f ∈ F, f ∈ X ∧ f ∉ xd pc v A d.c.L pd gh vp)) (hI : InvD e d) (o1 : -9223372036854775808 ≤ o.2) (o2 : o.2 ≤ 9223372036854775807) {t : List Ob} (hk : d.H[k]? = some (t, [])) (hl4 : t.length = 4) (ho : outD e d o = true) :
    Calls Tryz.prog 34 #[.pointer (some ⟨pd, 0, none⟩), .int .i64 k, .agg #[.int .i64 o.1, .int .i64 o.2]] w (DgvPost B ev pd pc pz gh mn lw hi O e X F w (giveD e d k o)) := by
  have hkl := (List.getElem?_eq_some_iff.1 hk).1
  have fd : fillD (t, []) d.P = (([], t), d.P) := by unfold fillD; rw [if_pos hl4, if_pos rfl]
  rw [giveD_yes hk ho, fd]
  have b1 : Below w.heap.size w (w.alloc (.cells #[.int .i64 o.1, .int .i64 o.2] 72)) := (by repeat (first | exact Below.refl _ _ | refine Below.drew ?_ | refine below_drewN ?_ _ | refine Below.trans ?_ (Below.mono (by assumption) (by first | omega | (simp; omega) | (simp; done))) | refine Below.alloc ?_ (by first | omega | (simp; omega) | (simp; done)) _ | refine Below.setCell ?_ (by first | omega | (simp; omega) | (simp; done)) _))
  have HL := Lib.hid (show LocN (w.alloc (.cells #[.int .i64 o.1, .int .i64 o.2] 72)) w.heap.size [.int .i64 o.1, .int .i64 o.2] from LocN.mk_ w [.int .i64 o.1, .int .i64 o.2] 72 rfl)
  obtain ⟨W1, hW1⟩ : ∃ W1, W1 = w.alloc (.cells #[.int .i64 o.1, .int .i64 o.2] 72) := ⟨_, rfl⟩
  rw [← hW1] at b1 HL
  have h1 := h.below b1
  have HD := Lib.hid (dhand_ok h1 k hkl)
  have OU := dout_ok o h1 hI o1 o2
  rw [ho] at OU
  have HOU := Lib.hid OU
  have m0 := HL.out.c 0 _ rfl; have m1 := HL.out.c 1 _ rfl; have ml := HL.out.lt
  have HB1 := Lib.hid b1; have HH := Lib.hid h
  have rg : ¬ (w.heap.size = gh) := fun q => by have := (h.de.lim gh h.gh_mem).2; omega
  have VL : Hid (k < V.length) := by show k < V.length; rw [h.de.hl]; exact hkl
  clear h b1 h1 OU hI ho
  go_enter Tryz.func34, Tryz.ntmps34
  go_wp2_with fail
  rw [← hW1]
  clear hW1
  refine HD.out.mono ?_
  rintro r' w1 ⟨rfl, rfl⟩
  go_wp2_with fail
  refine HOU.out.mono ?_
  rintro r' w2 ⟨rfl, hb2⟩
  have B2 := HB1.out.trans (hb2.mono HB1.out.size)
  obtain ⟨p, hp, r1, r2, g0, g1, f0, f1, gl⟩ := (HH.out.below B2).hand hk
  obtain ⟨⟨pa, pb⟩, rfl⟩ : ∃ q, q = p := ⟨_, rfl⟩
  obtain ⟨qt, ct, e1, _, _⟩ := r1.isSlice
  obtain ⟨qa, ca, e2, _, _⟩ := r2.isSlice
  simp only at e1 e2 g0 g1 hp
  rw [show ([] : List Ob).length = 0 from rfl] at e2
  rw [hl4] at e1
  subst e1 e2
  have HLB2 := Lib.hid (HL.out.go hb2)
  have SW := Lib.hid (dswap_ok gh (k * 2) qt qa 4 0 ct ca _ _ rfl rfl w2 g0 g1 f0 f1 gl)
  have HB2 := Lib.hid B2
  have HL3 : Hid (LocN ((w2.setCell ⟨gh, k * 2, none⟩ (.slice qa 0 ca)).setCell ⟨gh, k * 2 + 1, none⟩ (.slice qt 4 ct)).drew gh (handL (V.set k (.slice qa 0 ca, .slice qt 4 ct)))) := by
    have a1 := hloc1 (HH.out.below B2).de.hs hp (.slice qa 0 ca)
    have a2 := hloc2 a1 (hset2 VL.out _) (.slice qt 4 ct)
    rw [hset1] at a2
    exact a2.drewL
  have K3 : Keep [gh] w2 ((w2.setCell ⟨gh, k * 2, none⟩ (.slice qa 0 ca)).setCell ⟨gh, k * 2 + 1, none⟩ (.slice qt 4 ct)).drew := (((Keep.refl _ _).setCell (p := ⟨gh, k * 2, none⟩) (.inl (by simp)) _).setCell (p := ⟨gh, k * 2 + 1, none⟩) (.inl (by simp)) _).drew
  have hsx2 : ∀ s ∈ [gh], s ∈ X ∨ w2.heap.size ≤ s := fun s q => by simp at q; subst q; exact .inl (HH.out.de.mem s HH.out.gh_mem)
  have R1 := Lib.hid (r1.keep K3 hsx2)
  have R2 := Lib.hid (r2.keep K3 hsx2)
  have HK3 := Lib.hid K3
  clear r1 r2 K3 HD HOU m0 m1 ml
  go_wp2_with fail
  refine SW.out.mono ?_
  rintro r' w3 ⟨rfl, hw3⟩
  rw [← hw3] at HL3 R1 R2 HK3
  have KW := Lib.hid ((Keep.of (S := [gh]) HB2.out).then HK3.out)
  have g0' := HL3.out.c (k * 2) _ (handL_get (hset2 VL.out _)).1
  have f0' := HL3.out.f (k * 2) (by rw [handL_length, List.length_set]; have := VL.out; omega)
  have gl' := HL3.out.lt
  have HLB := Lib.hid (HLB2.out.keep HK3.out (by simpa using rg))
  have x0 := HLB.out.c 0 _ rfl; have x1 := HLB.out.c 1 _ rfl; have xl := HLB.out.lt
  obtain ⟨rc, nl, nc, qn⟩ := RowO.clip (l := []) (by simpa using R2.out)
  clear nl
  have HRC := Lib.hid rc
  simp only at g0'
  have CL : Hid (∀ W, Calls Tryz.prog 88 #[.slice qa 0 ca] W fun e w' => e = .returned (.slice qa 0 0) ∧ w' = W) := fun W => dclip_ok qa 0 ca W qn nc
  have VL3 : Hid ((V.set k (.slice qa 0 ca, .slice qt 4 ct))[k]? = some (.slice qa 0 ca, .slice qt 4 ct)) := hset2 VL.out _
  have NB0 : Hid ((w3.alloc (.cells #[.int .i64 o.1, .int .i64 o.2] 72)).drew.cell? ⟨w3.heap.size, 0 + 0, none⟩ = some (.int .i64 o.1)) := (LocN.mk_ w3 [.int .i64 o.1, .int .i64 o.2] 72 rfl).drewL.c 0 _ rfl
  have NB1 : Hid ((w3.alloc (.cells #[.int .i64 o.1, .int .i64 o.2] 72)).drew.cell? ⟨w3.heap.size, 0 + 1, none⟩ = some (.int .i64 o.2)) := (LocN.mk_ w3 [.int .i64 o.1, .int .i64 o.2] 72 rfl).drewL.c 1 _ rfl
  have FIN : Hid (∀ w4 g' k', Below w3.heap.size w3 w4 → w4.ownsRow ((w3.alloc (.cells #[.int .i64 o.1, .int .i64 o.2] 72)).drew).heap.size 72 2 (.slice (some ⟨g', 0, none⟩) (0 + 1) k') (0 + 1) (encB ([] ++ [o])) →
      DgvPost B ev pd pc pz gh mn lw hi O e X F w (⟨d.c, d.H.set k ([] ++ [o], t), d.P⟩, 0) (.returned .nilIface) (w4.setCell ⟨gh, k * 2, none⟩ (.slice (some ⟨g', 0, none⟩) (0 + 1) k'))) := fun w4 g' k' hb hown => by
    have hz := KW.out.size
    have kk : Keep [gh] w (w4.setCell ⟨gh, k * 2, none⟩ (.slice (some ⟨g', 0, none⟩) (0 + 1) k')) := (KW.out.step hb).setCell (p := ⟨gh, k * 2, none⟩) (.inl (by simp)) _
    have hg4 := hown.lt g' rfl
    have hs : ((w3.alloc (.cells #[.int .i64 o.1, .int .i64 o.2] 72)).drew).heap.size = w3.heap.size + 1 := by simp
    rw [hs] at hg4
    have hgX : g' ∉ X := fun q => by have := (HH.out.lim g' q).2; omega
    have k4 : Keep [gh] w4 (w4.setCell ⟨gh, k * 2, none⟩ (.slice (some ⟨g', 0, none⟩) (0 + 1) k')) := (Keep.refl _ _).setCell (p := ⟨gh, k * 2, none⟩) (.inl (by simp)) _
    have hsx : ∀ s ∈ [gh], s ∈ X ∨ w4.heap.size ≤ s := fun s q => by simp at q; subst q; exact .inl (HH.out.de.mem s HH.out.gh_mem)
    have ro : RowO X w4 (.slice (some ⟨g', 0, none⟩) (0 + 1) k') ([] ++ [o]) := by
      exact own_rowO (l := [] ++ [o]) hown (fun g q => by
        have : g = g' := by simpa [Value.ownBlock, eq_comm] using q
        subst this; exact hgX)
    have hl := hloc1 (HL3.out.keep (Keep.of (S := []) hb) (by simp)) VL3.out (.slice (some ⟨g', 0, none⟩) (0 + 1) k')
    rw [hset1] at hl
    refine ⟨rfl, X, ⟨_, _, _, _, _, HH.out.setHandN k (p' := (.slice (some ⟨g', 0, none⟩) (0 + 1) k', .slice qt 4 ct)) (h' := ([] ++ [o], t)) hkl kk (ro.keep k4 hsx) ((R1.out.below hb).keep k4 hsx) hl, hF.out⟩, kk.mono (fun s q => by simp at q; subst q; exact HH.out.offy hF.out HH.out.gh_mem), fun _ q => .inl q, fun _ q => q⟩
  have EN : Hid (0 = ([] : List Ob).length) := rfl
  clear rc hp B2 g0 g1 f0 f1 gl hw3 SW hb2 nc qn fd hl4 hsx2
  go_wp2_with fail
  refine wp_region_cut (S := (fun w' => w'.cell? ⟨gh, k * 2, none⟩ = some (.slice qa 0 ca) ∧ w'.cell? ⟨w.heap.size, 0, none⟩ = some (.int .i64 o.1) ∧ w'.cell? ⟨w.heap.size, 1, none⟩ = some (.int .i64 o.2))) 9 #[false, false, false, false, false, false, false, false, false] rfl (by kernel_rfl) (by kernel_rfl) (by (try dsimp only); go_keep) (fun hHeld => ?_)
  simp only [List.take_succ_cons, List.take_zero]
  refine cut_take (i := 0) (oi := _) (v := ?_) rfl (by kernel_rfl) (by kernel_rfl) (by kernel_rfl) (fun _ _ _ h => h) (Or.inl ⟨by rfl, ?_⟩) (by assumption) ?_
  rotate_left
  · (intro w hSw; (try dsimp only at hSw); go_simp <;> with_reducible rfl)
  try simp only [Act.put, List.setIfInBounds_toArray, List.set_cons_zero, List.set_cons_succ]
  refine cut_take (i := 1) (oi := _) (v := ?_) rfl (by kernel_rfl) (by kernel_rfl) (by kernel_rfl) (fun _ _ _ h => h) (Or.inl ⟨by rfl, ?_⟩) (by assumption) ?_
  rotate_left
  · (intro w hSw; (try dsimp only at hSw); go_simp <;> with_reducible rfl)
  try simp only [Act.put, List.setIfInBounds_toArray, List.set_cons_zero, List.set_cons_succ]
  refine cut_take (i := 2) (oi := _) (v := ?_) rfl (by kernel_rfl) (by kernel_rfl) (by kernel_rfl) (fun _ _ _ h => h) (Or.inl ⟨by rfl, ?_⟩) (by assumption) ?_
  rotate_left
  · (intro w hSw; (try dsimp only at hSw); go_simp <;> with_reducible rfl)
  try simp only [Act.put, List.setIfInBounds_toArray, List.set_cons_zero, List.set_cons_succ]
  refine cut_take (i := 3) (oi := _) (v := ?_) rfl (by kernel_rfl) (by kernel_rfl) (by kernel_rfl) (fun _ _ _ h => h) (Or.inl ⟨by rfl, ?_⟩) (by assumption) ?_
  rotate_left
  · (intro w hSw; (try dsimp only at hSw); go_simp <;> with_reducible rfl)
  try simp only [Act.put, List.setIfInBounds_toArray, List.set_cons_zero, List.set_cons_succ]
  refine cut_take (i := 4) (oi := _) (v := ?_) rfl (by kernel_rfl) (by kernel_rfl) (by kernel_rfl) (fun _ _ _ h => h) (Or.inl ⟨by rfl, ?_⟩) (by assumption) ?_
  rotate_left
  · (intro w hSw; (try dsimp only at hSw); go_simp <;> with_reducible rfl)
  try simp only [Act.put, List.setIfInBounds_toArray, List.set_cons_zero, List.set_cons_succ]
  refine cut_take (i := 6) (oi := _) (v := ?_) rfl (by kernel_rfl) (by kernel_rfl) (by kernel_rfl) (fun _ _ _ h => h) (Or.inl ⟨by rfl, ?_⟩) (by assumption) ?_
  rotate_left
  · (intro w hSw; (try dsimp only at hSw); go_simp <;> with_reducible rfl)
  try simp only [Act.put, List.setIfInBounds_toArray, List.set_cons_zero, List.set_cons_succ]
  refine wpAnyH_ready (rs := [5, 7]) (by kernel_rfl) (by simp) ?_
  refine AllReadyH.cons (cut_cons rfl) (fun K hK => ?_) (AllReadyH.cons (cut_cons rfl) (fun K hK => ?_) AllReadyH.nil)
  · refine step_call (by rfl) 88 #[.slice qa 0 ca] (by kernel_rfl) (.slice qa 0 0) _ (CL.out _) ?_
    refine hK.out _ _ (by (try dsimp only); go_keep) (fun hHeld => ?_)
    clear hK K
    try simp only [Act.put, List.setIfInBounds_toArray, List.set_cons_zero, List.set_cons_succ]
    refine wpAnyH_ready (rs := [7]) (by kernel_rfl) (by simp) ?_
    refine AllReadyH.cons (cut_cons rfl) (fun K hK => ?_) AllReadyH.nil
    go_simp
    refine hK.out _ _ (by (try dsimp only); go_keep) (fun hHeld => ?_)
    clear hK K
    try simp only [Act.put, List.setIfInBounds_toArray, List.set_cons_zero, List.set_cons_succ]
    refine wpAnyH_ready (rs := [8]) (by kernel_rfl) (by simp) ?_
    refine AllReadyH.cons (cut_cons rfl) (fun K hK => ?_) AllReadyH.nil
    refine step_appN (X := X) (w := (w3.alloc (.cells #[.int .i64 o.1, .int .i64 o.2] 72)).drew) EN.out (by rfl) (.tmp 66) (.tmp 68) (by rfl) (by rfl) (by rfl) ((HRC.out.below (by repeat (first | exact Below.refl _ _ | refine Below.drew ?_ | refine below_drewN ?_ _ | refine Below.trans ?_ (Below.mono (by assumption) (by first | omega | (simp; omega) | (simp; done))) | refine Below.alloc ?_ (by first | omega | (simp; omega) | (simp; done)) _ | refine Below.setCell ?_ (by first | omega | (simp; omega) | (simp; done)) _)))) (by omega) (ob := o) (ad := ⟨w3.heap.size, 0, none⟩) (by rw [addr_add]; exact NB0.out) (by rw [addr_add]; exact NB1.out) ?_
    intro g' k' w4 hown4 hb4
    have B4 : Below w3.heap.size w3 w4 := (show Below w3.heap.size w3 ((w3.alloc (.cells #[.int .i64 o.1, .int .i64 o.2] 72)).drew) from (by repeat (first | exact Below.refl _ _ | refine Below.drew ?_ | refine below_drewN ?_ _ | refine Below.trans ?_ (Below.mono (by assumption) (by first | omega | (simp; omega) | (simp; done))) | refine Below.alloc ?_ (by first | omega | (simp; omega) | (simp; done)) _ | refine Below.setCell ?_ (by first | omega | (simp; omega) | (simp; done)) _))).trans (hb4.mono (by simp))
    have y0 := (B4.cell (p := ⟨gh, k * 2, none⟩) gl').trans g0'
    have y1 := (B4.cell (p := ⟨w.heap.size, 0, none⟩) xl).trans x0
    have y2 := (B4.cell (p := ⟨w.heap.size, 1, none⟩) xl).trans x1
    have yf := (B4.frozen (p := ⟨gh, k * 2, none⟩) gl').trans f0'
    have yl : gh < w4.heap.size := Nat.lt_of_lt_of_le gl' B4.size
    refine hK.out _ _ (by (try dsimp only); go_keep) (fun hHeld => ?_)
    clear hK K
    try simp only [Act.put, List.setIfInBounds_toArray, List.set_cons_zero, List.set_cons_succ]
    refine wpAnyH_done (by kernel_rfl) ?_ _
    simp only [headQ, List.drop_succ_cons, List.drop_zero]
    have HO4 := Lib.hid hown4; have HB4 := Lib.hid B4
    clear hown4 hb4 B4 hHeld
    go_wp2
    go_ret
    exact FIN.out w4 g' k' HB4.out HO4.out
  · go_simp
    refine hK.out _ _ (by (try dsimp only); go_keep) (fun hHeld => ?_)
    clear hK K
    try simp only [Act.put, List.setIfInBounds_toArray, List.set_cons_zero, List.set_cons_succ]
    refine wpAnyH_ready (rs := [5]) (by kernel_rfl) (by simp) ?_
    refine AllReadyH.cons (cut_cons rfl) (fun K hK => ?_) AllReadyH.nil
    refine step_call (by rfl) 88 #[.slice qa 0 ca] (by kernel_rfl) (.slice qa 0 0) _ (CL.out _) ?_
    refine hK.out _ _ (by (try dsimp only); go_keep) (fun hHeld => ?_)
    clear hK K
    try simp only [Act.put, List.setIfInBounds_toArray, List.set_cons_zero, List.set_cons_succ]
    refine wpAnyH_ready (rs := [8]) (by kernel_rfl) (by simp) ?_
    refine AllReadyH.cons (cut_cons rfl) (fun K hK => ?_) AllReadyH.nil
    refine step_appN (X := X) (w := (w3.alloc (.cells #[.int .i64 o.1, .int .i64 o.2] 72)).drew) EN.out (by rfl) (.tmp 66) (.tmp 68) (by rfl) (by rfl) (by rfl) ((HRC.out.below (by repeat (first | exact Below.refl _ _ | refine Below.drew ?_ | refine below_drewN ?_ _ | refine Below.trans ?_ (Below.mono (by assumption) (by first | omega | (simp; omega) | (simp; done))) | refine Below.alloc ?_ (by first | omega | (simp; omega) | (simp; done)) _ | refine Below.setCell ?_ (by first | omega | (simp; omega) | (simp; done)) _)))) (by omega) (ob := o) (ad := ⟨w3.heap.size, 0, none⟩) (by rw [addr_add]; exact NB0.out) (by rw [addr_add]; exact NB1.out) ?_
    intro g' k' w4 hown4 hb4
    have B4 : Below w3.heap.size w3 w4 := (show Below w3.heap.size w3 ((w3.alloc (.cells #[.int .i64 o.1, .int .i64 o.2] 72)).drew) from (by repeat (first | exact Below.refl _ _ | refine Below.drew ?_ | refine below_drewN ?_ _ | refine Below.trans ?_ (Below.mono (by assumption) (by first | omega | (simp; omega) | (simp; done))) | refine Below.alloc ?_ (by first | omega | (simp; omega) | (simp; done)) _ | refine Below.setCell ?_ (by first | omega | (simp; omega) | (simp; done)) _))).trans (hb4.mono (by simp))
    have y0 := (B4.cell (p := ⟨gh, k * 2, none⟩) gl').trans g0'
    have y1 := (B4.cell (p := ⟨w.heap.size, 0, none⟩) xl).trans x0
    have y2 := (B4.cell (p := ⟨w.heap.size, 1, none⟩) xl).trans x1
    have yf := (B4.frozen (p := ⟨gh, k * 2, none⟩) gl').trans f0'
    have yl : gh < w4.heap.size := Nat.lt_of_lt_of_le gl' B4.size
    refine hK.out _ _ (by (try dsimp only); go_keep) (fun hHeld => ?_)
    clear hK K
    try simp only [Act.put, List.setIfInBounds_toArray, List.set_cons_zero, List.set_cons_succ]
    refine wpAnyH_done (by kernel_rfl) ?_ _
    simp only [headQ, List.drop_succ_cons, List.drop_zero]
    have HO4 := Lib.hid hown4; have HB4 := Lib.hid B4
    clear hown4 hb4 B4 hHeld
    go_wp2
    go_ret
    exact FIN.out w4 g' k' HB4.out HO4.out
end
end Go.Proofs.YtcokmiidgdmdlaaGreatDoor
