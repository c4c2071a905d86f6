/- The statement SlabFull: its walk. -/
import Derived.Test.YtcokmiidgdmdlaaGreatDoorZLaw
import Derived.Test.YtcokmiidgdmdlaaGreatDoorSFull
import Derived.Test.YtcokmiidgdmdlaaGreatDoorSTake
namespace Go.Proofs.YtcokmiidgdmdlaaGreatDoor
open Go.RowKit Go.Maps
set_option linter.unusedSimpArgs false
set_option linter.unusedVariables false
attribute [local go_sem ↓] Go.wp_at_zero Go.wp_at_succ

theorem eqO (a k b m : Int) (w : World) : (binOp .eql 72 (.agg #[.int .i64 a, .int .i64 k]) (.agg #[.int .i64 b, .int .i64 m])).run Tryz.prog w = .ok (.bool (a == b && k == m)) w := by
  have u3 := Tryz.underlying3
  have a3 := Tryz.isAgg3
  have z3 := Tryz.sizeOf3
  have hS : Tryz.prog.underlying 72 = some (.struct (Tryz.prog.fieldsOf 72)) := by kernel_rfl
  have hp : Tryz.prog.stoodInHeld 72 = false := by kernel_rfl
  rw [run_eql_struct, show (10000 : Nat) = 9999 + 1 from rfl, run_equalIn_agg w 9999 72 _ _ hS hp]
  simp only [Program.fieldsOf, Tryz.underlying72]
  go_simp
  by_cases h1 : a = b <;> by_cases h2 : k = m <;> simp [h1, h2]
theorem guardO : Tryz.prog.eqGuardType Tryz.prog.depth 72 = false := by kernel_rfl
theorem cov_sum {n : Int} (n0 : 0 ≤ n) : sumL (covL 0 n) = n := by
  have := chain_sum (covL_chain n.toNat 0 n (Nat.le_refl _) n0)
  omega
theorem FullI.start {pages e : Nat} {x : Nd} (hI : Inv x.n x.F x.T) (e1 : 1 ≤ e) (e2 : e ≤ 64) (hF : x.F = covL 0 pages) : FullI pages e 0 ⟨[x], []⟩ :=
  ⟨⟨e1, e2, fun y hy => by simp at hy; subst hy; exact hI, by simp, List.Pairwise.nil, fun s hs => (by cases hs), fun s hs => (by cases hs)⟩, ⟨x, rfl, by rw [hF, cov_sum (by omega)]; simp⟩, rfl⟩
/-- the two takes of the closed fact -/
theorem cached_take {x : Nd} (hO : OrdZ [[0]] 1) (hI : Inv x.n x.F x.T) (hF : x.F = covL 0 1) :
    takeC 0 [[0]] 30 ⟨[x], []⟩ 0 true = (⟨[tookN 0 (0, 0) x], [⟨0, 0, [true, false]⟩]⟩, 0, (0, 0)) ∧
    takeC 0 [[0]] 30 ⟨[tookN 0 (0, 0) x], [⟨0, 0, [true, false]⟩]⟩ 0 true = (⟨[tookN 0 (0, 0) x], [⟨0, 0, [true, true]⟩]⟩, 0, (0, 30)) := by
  have hc : covL 0 1 = [(0, 0)] := by decide
  obtain ⟨b, hb, _, ht⟩ := (take_one (mn := 0) hO hI).2 (by rw [hF, cov_sum (by omega)]; omega)
  have hb0 : bestL 0 x.F = some (0, 0) := by rw [hF, hc]; decide
  rw [hb0] at hb
  obtain rfl := Option.some.inj hb
  constructor
  · unfold takeC
    rw [if_neg (by simp)]
    simp only [ht]
    rfl
  · unfold takeC
    rw [if_neg (by simp)]
    rfl
theorem roomN_le : ∀ {C : List Sl}, (∀ s ∈ C, s.T.length ≤ 64) → takenN C ≤ roomN C ∧ roomN C ≤ 64 * C.length
  | [], _ => ⟨Nat.le_refl _, Nat.le_refl _⟩
  | s :: C, h => by
    obtain ⟨h1, h2⟩ := roomN_le (C := C) fun x hx => h x (List.mem_cons_of_mem _ hx)
    have h3 := h s (by simp)
    have h4 : manyS s ≤ s.T.length := manyT_le _
    unfold takenN roomN at *
    simp only [List.map_cons, List.sum_cons, List.length_cons]
    omega
theorem takenN_snoc {C : List Sl} {i : Nat} {s : Sl} (h : C[i]? = some s) : takenN (C.take (i + 1)) = takenN (C.take i) + manyS s ∧ roomN (C.take (i + 1)) = roomN (C.take i) + s.T.length := by
  rw [List.take_add_one, h]
  unfold takenN roomN
  simp

section
variable {B : Nat} {ev : Nat → Addr} {pc pz e : Nat} {mn lw hi : Int} {O : List (List Int)} {X : List Nat} {vs : Value} {A : SA} {c : Ca} {w : World}
theorem stake_any (v : Int) (u : Bool) (hE : ErrZ B ev w) (h : CS B w pc pz mn lw hi O e X vs A c) (hI : InvC e c) :
    Calls Tryz.prog 36 #[.pointer (some ⟨pc, 0, none⟩), .int .i64 v, .bool u] w (StkPost B ev pc pz mn lw hi O e X vs A c w (takeC mn O e c v u)) := by
  by_cases hv : v < 0 ∨ (c.L.length : Int) ≤ v
  · exact stake_bad v u hE h hv
  · obtain ⟨n, rfl⟩ : ∃ n : Nat, v = n := ⟨v.toNat, by omega⟩
    exact stake_main n u hE h hI hE.size (by omega)
/-- what acts on a cache leave -/
theorem CS.belowK (h : CS B w pc pz mn lw hi O e X vs A c) {w' : World} (hB : B ≤ w.heap.size) (k : Keep (cay pc vs A ++ ys c.L) w w') : Below B w w' := k.below hB fun s hs => by
  rcases List.mem_append.1 hs with q | q
  · exact (h.ch.lim s q).1
  · exact (h.z.b.lim s q).1
/-- a new cache -/
theorem CS.new {L : List Nd} (h : ZoneB B w pz mn lw hi O L) (hL : 0 < L.length) (hB : B ≤ w.heap.size) (e : Nat) :
    CS B (w.alloc (.cells #[.pointer (some ⟨pz, 0, none⟩), .int .i64 e, .slice none 0 0] 149)) w.heap.size pz mn lw hi O e (w.heap.size :: ys L) (.slice none 0 0) [] ⟨L, []⟩ := by
  have b : Below w.heap.size w (w.alloc (.cells #[.pointer (some ⟨pz, 0, none⟩), .int .i64 e, .slice none 0 0] 149)) := (by repeat (first | exact Below.refl _ _ | refine Below.drew ?_ | refine below_drewN ?_ _ | refine Below.trans ?_ (Below.mono (by assumption) (by first | omega | (simp; omega) | (simp; done))) | refine Below.alloc ?_ (by first | omega | (simp; omega) | (simp; done)) _ | refine Below.setCell ?_ (by first | omega | (simp; omega) | (simp; done)) _))
  have hc : cay w.heap.size (.slice none 0 0) [] = [w.heap.size] := rfl
  refine ⟨(h.toX.more (fun x hx => List.mem_cons_of_mem _ hx) (fun y hy => ?_)).below b, ⟨LocN.mk_ w [.pointer (some ⟨pz, 0, none⟩), .int .i64 e, .slice none 0 0] 149 rfl, ⟨rfl, .inl ⟨rfl, rfl⟩⟩, rfl, fun i p s hp => by simp at hp, fun y hy => ?_, ?_, fun y hy => ?_⟩, fun y hy q => ?_, hL⟩
  · rcases List.mem_cons.1 hy with rfl | q
    · exact .inr (Nat.le_refl _)
    · exact .inl q
  · rw [hc] at hy; simp at hy; subst hy; exact List.mem_cons_self ..
  · rw [hc]; simp
  · rw [hc] at hy; simp at hy; subst hy; simp; exact hB
  · rw [hc] at hy; simp at hy; subst hy
    have := (h.b.lim _ q).2; omega

set_option maxHeartbeats 2000000 in
/-- Count -/
theorem count_ok (h : CS B w pc pz mn lw hi O e X vs A c) (hI : InvC e c) :
    Calls Tryz.prog 37 #[.pointer (some ⟨pc, 0, none⟩)] w fun r w' => r = .returned (.tuple #[.int .i64 (takenN c.C), .int .i64 (roomN c.C)]) ∧ Below w.heap.size w w' := by
  obtain ⟨qv, kv, evs, kv1, kv2, hrow⟩ := h.ch.form
  subst evs
  have hl64 : Hid (∀ s ∈ c.C, s.T.length ≤ 64) := fun s hs => by rw [hI.len s hs]; unfold roomE; exact Nat.div_le_self _ _
  have few := hI.few
  have c2 := h.ch.c.c 2 _ rfl; have cl := h.ch.c.lt
  have HROW := Lib.hid hrow; have HC := Lib.hid h.ch
  have BD : Hid (∀ i, takenN (c.C.take i) ≤ 65536 ∧ roomN (c.C.take i) ≤ 65536) := fun i => by
    obtain ⟨h1, h2⟩ := roomN_le (C := c.C.take i) fun s hs => hl64.out s (List.mem_of_mem_take hs)
    have h3 : (c.C.take i).length ≤ 1024 := by rw [List.length_take]; omega
    omega
  have ALL : Hid (c.C.take c.C.length = c.C) := by show _ = _; simp
  obtain ⟨n, hn⟩ : ∃ n, n = c.C.length := ⟨_, rfl⟩
  have EN := Lib.hid hn
  rw [← hn] at c2 few kv1 ALL
  unfold maxLen at kv2
  clear h hI hrow hn
  go_enter Tryz.func37, Tryz.ntmps37
  go_wp2_with fail
  go_loopw [2, 3, 11] (fun tv rv iv wr => ∃ i : Nat, i ≤ n ∧ tv = .int .i64 (takenN (c.C.take i)) ∧ rv = .int .i64 (roomN (c.C.take i)) ∧ iv = .int .i64 i ∧ Below w.heap.size w wr) (fun _ _ iv _ => n - (intOf iv).toNat)
  case atStart => exact ⟨0, by omega, rfl, rfl, by go_num, (by repeat (first | exact Below.refl _ _ | refine Below.drew ?_ | refine below_drewN ?_ _ | refine Below.trans ?_ (Below.mono (by assumption) (by first | omega | (simp; omega) | (simp; done))) | refine Below.alloc ?_ (by first | omega | (simp; omega) | (simp; done)) _ | refine Below.setCell ?_ (by first | omega | (simp; omega) | (simp; done)) _))⟩
  case round =>
    obtain ⟨i, hile, rfl, rfl, rfl, hbel⟩ := hrel
    have BW : Hid (∀ W, Below wr.heap.size wr W → Below w.heap.size w W) := fun W b => hbel.trans (b.mono hbel.size)
    by_cases hin : i < n
    · obtain ⟨s, hs⟩ : ∃ s, c.C[i]? = some s := ⟨c.C[i]'(by rw [← EN.out]; exact hin), List.getElem?_eq_getElem _⟩
      obtain ⟨p, hp, hsl, _⟩ := (HC.out.below hbel).at hs
      obtain ⟨g, rfl, hg, hc0⟩ := HROW.out i p hp
      have ck : wr.cell? ⟨g, i, none⟩ = some (.pointer (some ⟨p.1, 0, none⟩)) := (hbel.cell (p := ⟨g, i, none⟩) hg).trans hc0
      have gl : g < wr.heap.size := Nat.lt_of_lt_of_le hg hbel.size
      have hik : i < kv := by omega
      obtain ⟨d0, d1, _, d3, d4, dl, _⟩ := hsl.cells
      obtain ⟨t1, t2⟩ := BD.out i
      have s1 := hl64.out s (List.mem_of_getElem? hs)
      have s2 : manyS s ≤ s.T.length := manyT_le _
      obtain ⟨n1, n2⟩ := takenN_snoc hs
      have N1 := Lib.hid n1; have N2 := Lib.hid n2
      clear hc0 hsl hs hp n1 n2
      generalize manyS s = a at *
      generalize s.T.length = l at *
      generalize takenN (c.C.take i) = ta at *
      generalize roomN (c.C.take i) = ro at *
      go_wp2_with fail
      go_quiet (fail)
      go_wp2
      go_round
      case rel => exact ⟨i + 1, by omega, by rw [N1.out]; go_num, by rw [N2.out]; go_num, by go_num, BW.out _ (by repeat (first | exact Below.refl _ _ | refine Below.drew ?_ | refine below_drewN ?_ _ | refine Below.trans ?_ (Below.mono (by assumption) (by first | omega | (simp; omega) | (simp; done))) | refine Below.alloc ?_ (by first | omega | (simp; omega) | (simp; done)) _ | refine Below.setCell ?_ (by first | omega | (simp; omega) | (simp; done)) _))⟩
      case measure => simp [intOf]; omega
    · obtain rfl : i = n := by omega
      rw [ALL.out]
      go_wp2
      go_ret2
      exact ⟨rfl, hbel⟩
end
set_option maxHeartbeats 2000000 in
set_option maxRecDepth 100000 in
theorem cached_yes {B : Nat} {ev : Nat → Addr} (w : World) (hE : Errs B ev w) :
    Calls Tryz.prog 35 #[] w fun e w' => e = .returned (.bool true) ∧ Below w.heap.size w w' := by
  have hB := hE.size
  have eb := eqO; have gb := guardO
  have HE := Lib.hid hE
  clear hE
  go_enter Tryz.func35, Tryz.ntmps35
  go_wp2_with fail
  refine (one_ok (X := []) 1 w (fun x hx => by cases hx)).mono ?_
  rintro e w1 ⟨vP, vN, rfl, hcfg, hb1⟩
  have z1 := hb1.size
  have HC := Lib.hid hcfg
  clear hcfg
  go_wp2_with fail
  refine (oneZone vP vN 1 w1 (HE.out.z.go hb1).c HC.out (by omega) (by omega)).mono ?_
  rintro e w2 ⟨pz, x, rfl, hz, hpz, hn, hF, hT, hb2⟩
  have z2 := hb2.size
  have hI := (hz.b.bud x (by simp)).2
  obtain ⟨t1, t2⟩ := cached_take (by simpa using hz.ord) hI hF
  have F0 := FullI.start (pages := 1) (e := 30) hI (by omega) (by omega) hF
  have T1 := Lib.hid t1; have T2 := Lib.hid t2; have HF0 := Lib.hid F0; have HZ := Lib.hid hz
  have B12 := Lib.hid (hb1.trans (hb2.mono z1))
  clear hz hI hF hT hn t1 t2 F0 hb1 hb2
  go_wp2_with fail
  refine (show Calls Tryz.prog 31 #[.pointer (some ⟨pz, 0, none⟩), .int .i64 30] w2 _ from snew_ok pz 30 w2 (by omega) (by omega)).mono ?_
  rintro e w3 ⟨rfl, hw3⟩
  have C0 := CS.new HZ.out (by simp) z2 30
  have b3 : Below w2.heap.size w2 w3 := by rw [hw3]; exact (by repeat (first | exact Below.refl _ _ | refine Below.drew ?_ | refine below_drewN ?_ _ | refine Below.trans ?_ (Below.mono (by assumption) (by first | omega | (simp; omega) | (simp; done))) | refine Below.alloc ?_ (by first | omega | (simp; omega) | (simp; done)) _ | refine Below.setCell ?_ (by first | omega | (simp; omega) | (simp; done)) _))
  rw [← hw3] at C0
  have z3 := b3.size
  have B13 := Lib.hid (B12.out.trans (b3.mono (by omega)))
  have E3 := HE.out.go B13.out
  have EZ3 := E3.z.up (B' := w1.heap.size) (by omega) (by omega)
  have S1 := stake_any 0 true EZ3 C0 HF0.out.inv
  rw [T1.out] at S1
  have HS1 := Lib.hid S1; have HC0 := Lib.hid C0; have HEZ := Lib.hid EZ3
  clear S1 C0 hw3 E3 EZ3 b3
  go_wp2_with fail
  refine HS1.out.mono ?_
  rintro e w4 ⟨he, X1, v1, A1, C1, K1, _, _, _⟩
  simp only [obV, errV] at he
  subst he
  have b4 := HC0.out.belowK (by omega) K1
  have z4 := b4.size
  have b4' : Below w4.heap.size w4 (w4.alloc (.cells #[.int .i64 0, .int .i64 0] 72)) := (by repeat (first | exact Below.refl _ _ | refine Below.drew ?_ | refine below_drewN ?_ _ | refine Below.trans ?_ (Below.mono (by assumption) (by first | omega | (simp; omega) | (simp; done))) | refine Below.alloc ?_ (by first | omega | (simp; omega) | (simp; done)) _ | refine Below.setCell ?_ (by first | omega | (simp; omega) | (simp; done)) _))
  have C1' := C1.below b4'
  have F1 := (HF0.out.take (mn := 0) (O := [[0]]) (by simpa using HZ.out.ord) (by decide)).2.2
  rw [T1.out] at F1
  have B4 := Lib.hid (b4.trans (b4'.mono (by omega)))
  have LA := Lib.hid (show LocN (w4.alloc (.cells #[.int .i64 0, .int .i64 0] 72)) w4.heap.size [.int .i64 0, .int .i64 0] from LocN.mk_ w4 [.int .i64 0, .int .i64 0] 72 rfl)
  have N1 : Hid (w4.heap.size ∉ cay w2.heap.size v1 A1 ++ ys [tookN 0 (0, 0) x]) := fun q => by
    rcases List.mem_append.1 q with q | q
    · have := (C1.ch.lim _ q).2; omega
    · have := (C1.z.b.lim _ q).2; omega
  have EZ4 := HEZ.out.below B4.out
  have S2 := stake_any 0 true EZ4 C1' F1.inv
  rw [T2.out] at S2
  have HS2 := Lib.hid S2; have HC1 := Lib.hid C1'; have HF1 := Lib.hid F1; have HE4 := Lib.hid EZ4
  clear S2 C1 C1' K1 b4 b4' HS1 F1 EZ4
  go_wp2_with fail
  refine HS2.out.mono ?_
  rintro e w5 ⟨he, X2, v2, A2, C2, K2, _, _, Y2⟩
  simp only [obV, errV] at he
  subst he
  have b5 := HC1.out.belowK (by simp; omega) K2
  have z5 := K2.size
  simp at z5
  have b5' : Below w5.heap.size w5 (w5.alloc (.cells #[.int .i64 0, .int .i64 30] 72)) := (by repeat (first | exact Below.refl _ _ | refine Below.drew ?_ | refine below_drewN ?_ _ | refine Below.trans ?_ (Below.mono (by assumption) (by first | omega | (simp; omega) | (simp; done))) | refine Below.alloc ?_ (by first | omega | (simp; omega) | (simp; done)) _ | refine Below.setCell ?_ (by first | omega | (simp; omega) | (simp; done)) _))
  have C2' := C2.below b5'
  have F2 := (HF1.out.take (mn := 0) (O := [[0]]) (by simpa using HZ.out.ord) (by decide)).2.2
  rw [T2.out] at F2
  have B5 := Lib.hid (b5.trans (b5'.mono (by omega)))
  have LA5 := Lib.hid ((LA.out.keep K2 N1.out).go b5')
  have LB := Lib.hid (show LocN (w5.alloc (.cells #[.int .i64 0, .int .i64 30] 72)) w5.heap.size [.int .i64 0, .int .i64 30] from LocN.mk_ w5 [.int .i64 0, .int .i64 30] 72 rfl)
  have N2 : Hid (w5.heap.size ∉ cay w2.heap.size v2 A2 ++ ys [tookN 0 (0, 0) x]) := fun q => by
    rcases List.mem_append.1 q with q | q
    · have := (C2.ch.lim _ q).2; omega
    · have := (C2.z.b.lim _ q).2; omega
  have N2' : Hid (w4.heap.size ∉ cay w2.heap.size v2 A2 ++ ys [tookN 0 (0, 0) x]) := fun q => by
    rcases List.mem_append.1 q with q | q
    · rcases Y2 _ q with t | t
      · exact N1.out (List.mem_append_left _ t)
      · simp at t; omega
    · exact N1.out (List.mem_append_right _ q)
  have EZ5 := HE4.out.below B5.out
  have S3 := stake_any 0 true EZ5 C2' F2.inv
  rw [(FullI.stop (pages := 1) (mn := 0) (O := [[0]]) F2 (by simpa using HZ.out.ord)).1] at S3
  have HS3 := Lib.hid S3; have HC2 := Lib.hid C2'; have HE5 := Lib.hid EZ5
  clear S3 C2 C2' K2 b5 b5' HS2 F2 EZ5 Y2
  go_wp2_with fail
  refine HS3.out.mono ?_
  rintro e w6 ⟨he, X3, v3, A3, C3, K3, _, _, _⟩
  simp only [obV] at he
  have e5 : errV ev 5 = .iface 291 (.pointer (some (ev 5))) := rfl
  simp only [e5] at he
  subst he
  have b6 := HC2.out.belowK (by simp; omega) K3
  have z6 := K3.size
  simp at z6
  have b6' : Below w6.heap.size w6 (w6.alloc (.cells #[.int .i64 0, .int .i64 0] 72)) := (by repeat (first | exact Below.refl _ _ | refine Below.drew ?_ | refine below_drewN ?_ _ | refine Below.trans ?_ (Below.mono (by assumption) (by first | omega | (simp; omega) | (simp; done))) | refine Below.alloc ?_ (by first | omega | (simp; omega) | (simp; done)) _ | refine Below.setCell ?_ (by first | omega | (simp; omega) | (simp; done)) _))
  have LA6 := Lib.hid ((LA5.out.keep K3 N2'.out).go b6')
  have LB6 := Lib.hid ((LB.out.keep K3 N2.out).go b6')
  have B6 := Lib.hid (b6.trans (b6'.mono (by omega)))
  have BALL := Lib.hid (B13.out.trans (((B4.out.trans B5.out).trans B6.out).mono (by omega)))
  have CO := coded_at 5 5 _ (HE.out.go BALL.out) (by decide) (by decide)
  rw [e5] at CO
  have HCO := Lib.hid CO
  clear C3 K3 b6 b6' HS3 CO e5
  go_wp2_with fail
  refine HCO.out.mono ?_
  rintro e w7 ⟨rfl, hb7⟩
  have M := LA6.out.go hb7; have M' := LB6.out.go hb7
  have m0 := M.c 0 _ rfl; have m1 := M.c 1 _ rfl; have ml := M.lt; have n0 := M'.c 0 _ rfl; have n1 := M'.c 1 _ rfl; have nl := M'.lt
  clear M M' HCO
  go_wp2
  go_ret
  exact ⟨rfl, BALL.out.trans (hb7.mono (by simp; omega))⟩

set_option maxHeartbeats 4000000 in
set_option maxRecDepth 100000 in
theorem slabFull_walk {B : Nat} {ev : Nat → Addr} (pages size : Int) (w : World) (hE : Errs B ev w) :
    Calls Tryz.prog 7 #[.int .i64 pages, .int .i64 size] w fun e w' => e = .returned (.bool true) ∧ Below w.heap.size w w' := by
  have hB := hE.size
  have CA := Lib.hid (cached_yes w hE)
  have HE := Lib.hid hE
  clear hE
  by_cases p1 : pages < 1
  · have d1 : decide (pages < 1) = true := decide_eq_true p1
    go_enter Tryz.func7, Tryz.ntmps7
    go_wp2_with fail
    refine CA.out.mono ?_
    rintro e w1 ⟨rfl, hb1⟩
    go_wp2
    go_ret
    exact ⟨rfl, hb1⟩
  have d1 : decide (pages < 1) = false := decide_eq_false p1
  by_cases p2 : 20 < pages
  · have d2 : decide (20 < pages) = true := decide_eq_true p2
    go_enter Tryz.func7, Tryz.ntmps7
    go_wp2_with fail
    refine CA.out.mono ?_
    rintro e w1 ⟨rfl, hb1⟩
    go_wp2
    go_ret
    exact ⟨rfl, hb1⟩
  have d2 : decide (20 < pages) = false := decide_eq_false p2
  by_cases p3 : size < 1
  · have d3 : decide (size < 1) = true := decide_eq_true p3
    go_enter Tryz.func7, Tryz.ntmps7
    go_wp2_with fail
    refine CA.out.mono ?_
    rintro e w1 ⟨rfl, hb1⟩
    go_wp2
    go_ret
    exact ⟨rfl, hb1⟩
  have d3 : decide (size < 1) = false := decide_eq_false p3
  by_cases p4 : 64 < size
  · have d4 : decide (64 < size) = true := decide_eq_true p4
    go_enter Tryz.func7, Tryz.ntmps7
    go_wp2_with fail
    refine CA.out.mono ?_
    rintro e w1 ⟨rfl, hb1⟩
    go_wp2
    go_ret
    exact ⟨rfl, hb1⟩
  have d4 : decide (64 < size) = false := decide_eq_false p4
  obtain ⟨p, rfl⟩ : ∃ p : Nat, pages = p := ⟨pages.toNat, by omega⟩
  obtain ⟨e, rfl⟩ : ∃ e : Nat, size = e := ⟨size.toNat, by omega⟩
  have q1 : 1 ≤ p := by omega
  have q2 : p ≤ 20 := by omega
  have e1 : 1 ≤ e := by omega
  have e2 : e ≤ 64 := by omega
  clear p1 p2 p3 p4
  go_enter Tryz.func7, Tryz.ntmps7
  go_wp2_with fail
  refine CA.out.mono ?_
  rintro r w0 ⟨rfl, hb0⟩
  have z0 := hb0.size
  go_wp2_with fail
  refine (one_ok (X := []) p w0 (fun x hx => by cases hx)).mono ?_
  rintro r w1 ⟨vP, vN, rfl, hcfg, hb1⟩
  have z1 := hb1.size
  have HC := Lib.hid hcfg
  have B01 := Lib.hid (hb0.trans (hb1.mono z0))
  clear hcfg CA d1 d2 d3 d4
  go_wp2_with fail
  refine (oneZone vP vN p w1 (HE.out.z.go B01.out).c HC.out (by omega) (by omega)).mono ?_
  rintro r w2 ⟨pz, x, rfl, hz, hpz, hn, hF, hT, hb2⟩
  have z2 := hb2.size
  have hI := (hz.b.bud x (by simp)).2
  have HF0 := Lib.hid (FullI.start (pages := p) (e := e) hI e1 e2 hF)
  have HZ := Lib.hid hz
  have B02 := Lib.hid (B01.out.trans (hb2.mono (by omega)))
  clear hz hI hF hT hn hb1 hb2
  go_wp2_with fail
  refine (snew_ok pz e w2 e1 e2).mono ?_
  rintro r w3 ⟨rfl, hw3⟩
  have C0 := CS.new HZ.out (by simp) z2 e
  have b3 : Below w2.heap.size w2 w3 := by rw [hw3]; exact (by repeat (first | exact Below.refl _ _ | refine Below.drew ?_ | refine below_drewN ?_ _ | refine Below.trans ?_ (Below.mono (by assumption) (by first | omega | (simp; omega) | (simp; done))) | refine Below.alloc ?_ (by first | omega | (simp; omega) | (simp; done)) _ | refine Below.setCell ?_ (by first | omega | (simp; omega) | (simp; done)) _))
  rw [← hw3] at C0
  have z3 := b3.size
  have B03 := Lib.hid (B02.out.trans (b3.mono (by omega)))
  have HC0 := Lib.hid C0
  have en0 : ¬ ((e : Int) = 0) := by omega
  have en1 : ¬ (e = 0) := by omega
  have hq0 : (64 : Int) / (e : Int) = (roomE e : Int) := by unfold roomE; rw [Int.natCast_ediv]; rfl
  have hq : (64 : Int).tdiv (e : Int) = (roomE e : Int) := by rw [Int.tdiv_eq_ediv_of_nonneg (by omega)]; exact hq0
  have r64 : roomE e ≤ 64 := by unfold roomE; exact Nat.div_le_self _ _
  obtain ⟨M, hM⟩ : ∃ M, M = p * roomE e := ⟨_, rfl⟩
  have hM1 : (p : Int) * (roomE e : Int) = (M : Int) := by rw [hM]; simp
  have hM2 : M ≤ 1280 := by rw [hM]; exact Nat.mul_le_mul q2 r64
  have HM := Lib.hid hM
  have HEA : Hid (∀ W, Below w1.heap.size w3 W → Errs B ev W ∧ ErrZ w1.heap.size ev W) := fun W b => by
    have E := HE.out.go (B03.out.trans (b.mono (by omega)))
    have := b.size
    exact ⟨E, E.z.up (by omega) (by omega)⟩
  clear C0 hw3 b3 hM
  go_wp2_with fail
  go_loopw [10] (fun iv wr => ∃ (i : Nat) (X : List Nat) (v : Value) (A : SA) (c : Ca), i ≤ M ∧ iv = .int .i64 i ∧ Hid (CS w1.heap.size wr w2.heap.size pz 0 0 0 [[0]] e X v A c) ∧ Hid (FullI p e i c) ∧ Below w1.heap.size w3 wr) (fun iv _ => M - (intOf iv).toNat)
  case atStart => exact ⟨0, _, _, _, _, by omega, by go_num, HC0, HF0, Below.refl _ _⟩
  case round =>
    obtain ⟨i, X, v, A, c, hi, rfl, HCR, HFR, hbel⟩ := hrel
    have zr := hbel.size
    have hO : OrdZ [[0]] 1 := by simpa using HZ.out.ord
    by_cases hlt : i < M
    · obtain ⟨t1, t2, t3⟩ := HFR.out.take (mn := 0) (O := [[0]]) hO (by rw [← HM.out]; exact hlt)
      have ST := stake_any 0 true (HEA.out wr hbel).2 HCR.out HFR.out.inv
      revert t1 t2 t3 ST
      obtain ⟨⟨c', q, o1, o2⟩, hr⟩ : ∃ r, r = takeC 0 [[0]] e c 0 true := ⟨_, rfl⟩
      rw [← hr]
      clear hr
      rintro (t1 : q = 0) (t2 : o1 = 0) t3 ST
      subst t1 t2
      have HST := Lib.hid ST; have HF' := Lib.hid t3
      clear ST t3 hO
      go_wp2_with fail
      refine HST.out.mono ?_
      rintro r w5 ⟨he, X', v', A', C', K', _, _, _⟩
      simp only [obV, errV] at he
      subst he
      have b5 := HCR.out.belowK (by omega) K'
      have z5 := b5.size
      have b5' : Below w5.heap.size w5 (w5.alloc (.cells #[.int .i64 0, .int .i64 o2] 72)) := (by repeat (first | exact Below.refl _ _ | refine Below.drew ?_ | refine below_drewN ?_ _ | refine Below.trans ?_ (Below.mono (by assumption) (by first | omega | (simp; omega) | (simp; done))) | refine Below.alloc ?_ (by first | omega | (simp; omega) | (simp; done)) _ | refine Below.setCell ?_ (by first | omega | (simp; omega) | (simp; done)) _))
      have HC' := Lib.hid (C'.below b5')
      have B5 := Lib.hid (hbel.trans (b5.trans (b5'.mono (by omega))))
      clear C' K' b5 b5' HST
      go_wp2
      go_round
      case rel => exact ⟨i + 1, X', v', A', c', by omega, by go_num, HC', HF', B5.out⟩
      case measure => simp [intOf]; omega
    · obtain rfl : i = M := by omega
      have hFI := HFR.out
      rw [HM.out] at hFI
      obtain ⟨t1, t2, t3, x', t4, t5⟩ := hFI.stop (mn := 0) hO
      have ST := stake_any 0 true (HEA.out wr hbel).2 HCR.out HFR.out.inv
      rw [t1] at ST
      rw [← HM.out] at t2 t3
      have HST := Lib.hid ST; have T2 := Lib.hid t2; have T3 := Lib.hid t3; have T4 := Lib.hid t4; have T5 := Lib.hid t5
      clear ST t1 t2 t3 t4 t5 hFI hO
      go_wp2_with fail
      refine HST.out.mono ?_
      rintro r w5 ⟨he, X', v', A', C', K', _, _, _⟩
      have e5 : errV ev 5 = .iface 291 (.pointer (some (ev 5))) := rfl
      simp only [obV, e5] at he
      subst he
      have b5 := HCR.out.belowK (by omega) K'
      have z5 := b5.size
      have CO := count_ok C' HFR.out.inv
      simp only [T2.out, T3.out] at CO
      have HCO := Lib.hid CO; have HC' := Lib.hid C'
      have B5 := Lib.hid (hbel.trans b5)
      clear C' K' b5 HST CO
      go_wp2_with fail
      refine HCO.out.mono ?_
      rintro r w6 ⟨rfl, hb6⟩
      have z6 := hb6.size
      have FR := zfree_ok pz 0 0 0 [[0]] c.L 0 x' w6 (HC'.out.below hb6).z.toB (by rw [T4.out]; rfl)
      rw [T5.out] at FR
      have HFR2 := Lib.hid FR
      have B6 := Lib.hid (B5.out.trans (hb6.mono (by omega)))
      clear FR hb6 HCO
      go_wp2_with fail
      refine HFR2.out.mono ?_
      rintro r w7 ⟨rfl, hb7⟩
      have z7 := hb7.size
      have B7 := Lib.hid (B6.out.trans (hb7.mono (by omega)))
      have CD := coded_at 5 5 _ (HEA.out w7 B7.out).1 (by decide) (by decide)
      rw [e5] at CD
      have HCD := Lib.hid CD
      clear CD hb7 HFR2 e5
      go_wp2_with fail
      refine HCD.out.mono ?_
      rintro r w8 ⟨rfl, hb8⟩
      go_wp2
      go_ret
      exact ⟨rfl, B03.out.trans ((B7.out.trans (hb8.mono (by omega))).mono (by omega))⟩
end Go.Proofs.YtcokmiidgdmdlaaGreatDoor
