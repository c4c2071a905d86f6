/- Lemmas and contracts for the claim's last text: STake, SArith, SFind. -/
import Derived.IntWalk
import Derived.Test.YtcokmiidgdmdlaaGreatDoorMo05
import Derived.Test.YtcokmiidgdmdlaaGreatDoorMo09
namespace Go.Proofs.YtcokmiidgdmdlaaGreatDoor
open Go.RowKit Go.Maps
set_option linter.unusedSimpArgs false
set_option linter.unusedVariables false
attribute [local go_sem ↓] Go.wp_at_zero Go.wp_at_succ

theorem bestS_no {v : Int} {C : List Sl} {i : Nat} {s : Sl} (hs : C[i]? = some s) (h : ¬ (s.nd = v ∧ manyS s < s.T.length)) : bestS v C (i + 1) = bestS v C i := by
  show (match C[i]? with | none => _ | some s => _) = _
  rw [hs]; simp only [if_neg h]
theorem bestS_new {v : Int} {C : List Sl} {i : Nat} {s : Sl} (hs : C[i]? = some s) (h : s.nd = v ∧ manyS s < s.T.length) (hb : bestS v C i = none) : bestS v C (i + 1) = some i := by
  show (match C[i]? with | none => _ | some s => _) = _
  rw [hs]; simp only [if_pos h, hb]
theorem bestS_more {v : Int} {C : List Sl} {i m : Nat} {s z : Sl} (hs : C[i]? = some s) (h : s.nd = v ∧ manyS s < s.T.length) (hb : bestS v C i = some m) (hz : C[m]? = some z) : bestS v C (i + 1) = if manyS z < manyS s then some i else some m := by
  show (match C[i]? with | none => _ | some s => _) = _
  rw [hs]; simp only [if_pos h, hb, manyAt_of hz]
/-- the best slab so far, as a value -/
def bestV (A : SA) (b : Option Nat) : Value := match b with
  | none => .pointer none
  | some m => match A[m]? with | some p => .pointer (some ⟨p.1, 0, none⟩) | none => .pointer none
theorem bestV_some {A : SA} {m : Nat} {p : Nat × Nat} (h : A[m]? = some p) : bestV A (some m) = .pointer (some ⟨p.1, 0, none⟩) := by unfold bestV; simp [h]
theorem ins_set (C : List Sl) (s t : Sl) (h1 : t.nd = s.nd) (h2 : t.pg = s.pg) : (insS C s).set (posS s.nd s.pg C) t = insS C t := by
  unfold insS
  have hl : (C.take (posS s.nd s.pg C)).length = posS s.nd s.pg C := by rw [List.length_take]; have := posS_le s.nd s.pg C; omega
  rw [List.set_append_right _ _ (by omega), hl, Nat.sub_self, h1, h2]; rfl
theorem ins_at (C : List Sl) (s : Sl) : (insS C s)[posS s.nd s.pg C]? = some s := by
  unfold insS
  rw [get_ins (posS_le _ _ _)]; simp

section
variable {B : Nat} {ev : Nat → Addr} {pc pz e : Nat} {mn lw hi : Int} {O : List (List Int)} {X Xt : List Nat} {vs vt : Value} {A At : SA} {c ct : Ca} {w wt : World} {r : Ca × Nat × Ob} {m : Nat} {s : Sl} {p : Nat × Nat}
/-- what a take of a cache comes to -/
def StkPost (B : Nat) (ev : Nat → Addr) (pc pz : Nat) (mn lw hi : Int) (O : List (List Int)) (e : Nat) (X : List Nat) (vs : Value) (A : SA) (c : Ca) (w : World) (r : Ca × Nat × Ob) (en : Ending) (w' : World) : Prop :=
  en = .returned (.tuple #[obV r.2.2, errV ev r.2.1]) ∧ ∃ X' v' A', CS B w' pc pz mn lw hi O e X' v' A' r.1 ∧ Keep (cay pc vs A ++ ys c.L) w w' ∧ (∀ x ∈ X, x ∈ X') ∧ (∀ x ∈ X', x ∈ X ∨ w.heap.size ≤ x) ∧ ∀ y ∈ cay pc v' A', y ∈ cay pc vs A ∨ w.heap.size ≤ y
/-- a slab with room is found or made -/
structure TkS (B : Nat) (w wt : World) (pc pz : Nat) (mn lw hi : Int) (O : List (List Int)) (e : Nat) (X : List Nat) (vs : Value) (A : SA) (c : Ca) (r : Ca × Nat × Ob) (Xt : List Nat) (vt : Value) (At : SA) (ct : Ca) (m : Nat) (s : Sl) (p : Nat × Nat) : Prop where
  cs : CS B wt pc pz mn lw hi O e Xt vt At ct
  hs : ct.C[m]? = some s
  hp : At[m]? = some p
  hm : manyT s.T < s.T.length
  hl : s.T.length ≤ 64
  rr : r = (⟨ct.L, ct.C.set m (useS s (freeAt s.T) true)⟩, 0, obOf e s (freeAt s.T))
  kk : Keep (cay pc vs A ++ ys c.L) w wt
  x1 : ∀ x ∈ X, x ∈ Xt
  x2 : ∀ x ∈ Xt, x ∈ X ∨ w.heap.size ≤ x
  y1 : ∀ y ∈ cay pc vt At, y ∈ cay pc vs A ∨ w.heap.size ≤ y
  t1 : w.heap.size ∈ Xt
  t2 : w.heap.size ∉ cay pc vt At
  t3 : w.heap.size ∉ ys ct.L
  lr : LocN wt w.heap.size [.int .i64 0, .int .i64 0]
theorem TkS.fin (h : TkS B w wt pc pz mn lw hi O e X vs A c r Xt vt At ct m s p) {W W' : World} (hW : W = (wt.setCell ⟨p.2, freeAt s.T, none⟩ (.bool true)).setCell ⟨p.1, 4, none⟩ (.int .i64 (manyS (useS s (freeAt s.T) true)))) (k : Keep [w.heap.size] W W') :
    StkPost B ev pc pz mn lw hi O e X vs A c w r (.returned (.tuple #[obV r.2.2, .nilIface])) W' := by
  obtain ⟨m1, m2, m3⟩ := h.cs.slab h.hp
  obtain ⟨s1, s2⟩ := SlabB.put (k := freeAt s.T) true (h.cs.ch.sl m p s h.hp h.hs) m3 (freeAt_spec h.hm).1
  rw [← hW] at s1 s2
  have c1 := h.cs.use h.hp s1 s2
  have c2 := c1.keep k (fun x hx => by
    simp at hx; subst hx
    exact ⟨h.t2, .inl ⟨h.t1, h.t3⟩⟩)
  have e2 : r.2.1 = 0 := by rw [h.rr]
  have e1 : r.1 = ⟨ct.L, ct.C.set m (useS s (freeAt s.T) true)⟩ := by rw [h.rr]
  refine ⟨by rw [e2]; rfl, Xt, vt, At, by rw [e1]; exact c2, ?_, h.x1, h.x2, h.y1⟩
  refine (h.kk.trans s2 (fun x hx => ?_)).trans k (fun x hx => by simp at hx; subst hx; exact .inr (Nat.le_refl _))
  simp at hx
  rcases hx with rfl | rfl
  · exact (h.y1 _ m1).imp (fun q => List.mem_append_left _ q) id
  · exact (h.y1 _ m2).imp (fun q => List.mem_append_left _ q) id

set_option maxHeartbeats 2000000 in
theorem stake_bad (v : Int) (u : Bool) (hE : ErrZ B ev w) (h : CS B w pc pz mn lw hi O e X vs A c) (hv : v < 0 ∨ (c.L.length : Int) ≤ v) :
    Calls Tryz.prog 36 #[.pointer (some ⟨pc, 0, none⟩), .int .i64 v, .bool u] w (StkPost B ev pc pz mn lw hi O e X vs A c w (takeC mn O e c v u)) := by
  have et : takeC mn O e c v u = (c, 2, (0, 0)) := by unfold takeC; rw [if_pos hv]
  rw [et]
  have b1 : Below w.heap.size w (w.alloc (.cells #[.int .i64 0, .int .i64 0] 72)) := (by repeat (first | exact Below.refl _ _ | refine Below.drew ?_ | refine below_drewN ?_ _ | refine Below.trans ?_ (Below.mono (by assumption) (by first | omega | (simp; omega) | (simp; done))) | refine Below.alloc ?_ (by first | omega | (simp; omega) | (simp; done)) _ | refine Below.setCell ?_ (by first | omega | (simp; omega) | (simp; done)) _))
  have L1 := Lib.hid (LocN.mk_ w [.int .i64 0, .int .i64 0] 72 rfl)
  have NO := Lib.hid (cnode_err (hE.go b1).c (h.below b1) v hv)
  have e1 : errV ev 2 = .iface 291 (.pointer (some (ev 2))) := rfl
  have FIN : Hid (∀ W, Below w.heap.size w W → StkPost B ev pc pz mn lw hi O e X vs A c w (c, 2, (0, 0)) (.returned (.tuple #[.agg #[.int .i64 0, .int .i64 0], .iface 291 (.pointer (some (ev 2)))])) W) := fun W b => ⟨rfl, X, vs, A, h.below b, Keep.of b, fun _ q => q, fun _ q => .inl q, fun _ q => .inl q⟩
  rw [e1] at NO
  clear h hv hE e1 b1 et
  go_enter Tryz.func36, Tryz.ntmps36
  go_wp2_with fail
  refine NO.out.mono ?_
  rintro r w1 ⟨rfl, hb1⟩
  have M := L1.out.go hb1
  have m0 := M.c 0 _ rfl; have m1 := M.c 1 _ rfl; have f0 := M.f 0 (by simp); have f1 := M.f 1 (by simp); have ml := M.lt
  have HM := Lib.hid (M.store2 (.int .i64 0) (.int .i64 0))
  clear M NO L1
  go_wp2
  have x0 := HM.out.c 0 _ rfl; have x1 := HM.out.c 1 _ rfl
  exact bodyPost_ret (v := .tuple #[.agg #[.int .i64 0, .int .i64 0], .iface 291 (.pointer (some (ev 2)))]) (by simp [x0, x1, results, Tryz.results36, go_sem]) rfl (FIN.out _ (by repeat (first | exact Below.refl _ _ | refine Below.drew ?_ | refine below_drewN ?_ _ | refine Below.trans ?_ (Below.mono (by assumption) (by first | omega | (simp; omega) | (simp; done))) | refine Below.alloc ?_ (by first | omega | (simp; omega) | (simp; done)) _ | refine Below.setCell ?_ (by first | omega | (simp; omega) | (simp; done)) _)))

theorem takeZ_zero {mn : Int} {O : List (List Int)} {L : List Nd} {v : Nat} {u : Bool} (hO : OrdZ O L.length) (hv : v < L.length) : (takeZ mn O L v 0 u).2.2.2.2 = 0 := by
  obtain ⟨D, hD, hl, hm, hc⟩ := takeZ_cases (mn := mn) (u := u) (k := 0) (L := L) (v := (v : Int)) hO (by omega)
  rcases hc with ⟨hp, e⟩ | ⟨j, y, b, hp, j0, j1, hx, hk, hb, e⟩
  · rw [e]
  · rw [e]
theorem TkS.rng (h : TkS B w wt pc pz mn lw hi O e X vs A c r Xt vt At ct m s p) (hI : InvC e r.1) : 0 ≤ s.pg ∧ s.pg < 256 := by
  rw [h.rr] at hI
  have hl := (List.getElem?_eq_some_iff.1 h.hs).1
  have := hI.rng (s := useS s (freeAt s.T) true) (List.mem_of_getElem? (List.getElem?_set_self (by simpa using hl)))
  exact ⟨this.2.2.1, this.2.2.2⟩

set_option maxHeartbeats 8000000 in
set_option maxRecDepth 100000 in
theorem stake_main (v : Nat) (u : Bool) (hE : ErrZ B ev w) (h : CS B w pc pz mn lw hi O e X vs A c) (hI : InvC e c) (hB : B ≤ w.heap.size) (hv : v < c.L.length) :
    Calls Tryz.prog 36 #[.pointer (some ⟨pc, 0, none⟩), .int .i64 v, .bool u] w (StkPost B ev pc pz mn lw hi O e X vs A c w (takeC mn O e c v u)) := by
  have hvn : ¬ ((v : Int) < 0 ∨ (c.L.length : Int) ≤ (v : Int)) := by omega
  have e1 := hI.e1; have e2 := hI.e2
  have few := hI.few
  have HIN := Lib.hid (takeC_inv (mn := mn) (v := (v : Int)) (u := u) h.z.ord hI)
  have HTC : Hid (takeC mn O e c v u = match bestS v c.C c.C.length with
    | some i => match c.C[i]? with
      | none => (c, 2, (0, 0))
      | some s => (⟨c.L, c.C.set i (useS s (freeAt s.T) true)⟩, 0, obOf e s (freeAt s.T))
    | none => if (takeZ mn O c.L v 0 u).2.1 = 0 then
        (⟨(takeZ mn O c.L v 0 u).1, insS c.C (useS ⟨(takeZ mn O c.L v 0 u).2.2.1, (takeZ mn O c.L v 0 u).2.2.2.1, noneT e⟩ 0 true)⟩, 0, ((takeZ mn O c.L v 0 u).2.2.1, (takeZ mn O c.L v 0 u).2.2.2.1 * 64))
      else (⟨(takeZ mn O c.L v 0 u).1, c.C⟩, (takeZ mn O c.L v 0 u).2.1, (0, 0))) := by
    show _ = _
    unfold takeC
    rw [if_neg hvn]
    rfl
  obtain ⟨R, hR⟩ : ∃ R, R = takeC mn O e c v u := ⟨_, rfl⟩
  rw [← hR] at HTC HIN ⊢
  clear hR
  have TZ0 := Lib.hid (takeZ_zero (mn := mn) (u := u) h.z.ord hv)
  have b1 : Below w.heap.size w (w.alloc (.cells #[.int .i64 0, .int .i64 0] 72)) := (by repeat (first | exact Below.refl _ _ | refine Below.drew ?_ | refine below_drewN ?_ _ | refine Below.trans ?_ (Below.mono (by assumption) (by first | omega | (simp; omega) | (simp; done))) | refine Below.alloc ?_ (by first | omega | (simp; omega) | (simp; done)) _ | refine Below.setCell ?_ (by first | omega | (simp; omega) | (simp; done)) _))
  have L1 : LocN (w.alloc (.cells #[.int .i64 0, .int .i64 0] 72)) w.heap.size [.int .i64 0, .int .i64 0] := LocN.mk_ w [.int .i64 0, .int .i64 0] 72 rfl
  have h1 : CS B (w.alloc (.cells #[.int .i64 0, .int .i64 0] 72)) pc pz mn lw hi O e (w.heap.size :: X) vs A c := (h.more (fun x hx => List.mem_cons_of_mem _ hx) (fun y hy => by
    rcases List.mem_cons.1 hy with rfl | q
    · exact .inr (Nat.le_refl _)
    · exact .inl q)).below b1
  have E1 := hE.go b1
  have NC : Hid (w.heap.size ∉ cay pc vs A) := fun q => by have := (h.ch.lim _ q).2; omega
  have NY : Hid (w.heap.size ∉ ys c.L) := fun q => by have := (h.z.b.lim _ q).2; omega
  obtain ⟨W1, hW1⟩ : ∃ W1, W1 = w.alloc (.cells #[.int .i64 0, .int .i64 0] 72) := ⟨_, rfl⟩
  rw [← hW1] at b1 L1 h1 E1
  obtain ⟨qv, kv, evs, kv1, kv2, hrow⟩ := h1.ch.form
  subst evs
  have NO := Lib.hid (cnode_ok h1 v hv)
  have HROW := Lib.hid hrow
  have H1 := Lib.hid h1; have HL1 := Lib.hid L1; have HE1 := Lib.hid E1; have HB1 := Lib.hid b1; have HI := Lib.hid hI
  have z01 : w.heap.size < W1.heap.size := L1.lt
  clear h hE L1 h1 E1 b1 hrow hI hvn
  go_enter Tryz.func36, Tryz.ntmps36
  go_wp2_with fail
  rw [← hW1]
  clear hW1
  refine NO.out.mono ?_
  rintro r w1 ⟨rfl, hb1⟩
  have HC1 := Lib.hid (H1.out.below hb1)
  have c0 := HC1.out.ch.c.c 0 _ rfl; have c1 := HC1.out.ch.c.c 1 _ rfl; have c2 := HC1.out.ch.c.c 2 _ rfl; have cl := HC1.out.ch.c.lt
  have HLR := Lib.hid (HL1.out.go hb1)
  have HE2 := Lib.hid (HE1.out.go hb1)
  have HBW := Lib.hid (show Below w.heap.size w w1 from HB1.out.trans (hb1.mono (by omega)))
  have HROW1 : Hid (∀ (j : Nat) (p : Nat × Nat), A[j]? = some p → ∃ g, qv = some ⟨g, 0, none⟩ ∧ g < w1.heap.size ∧ w1.cell? ⟨g, j, none⟩ = some (.pointer (some ⟨p.1, 0, none⟩))) := fun j p hj => by
    obtain ⟨g, a1, a2, a3⟩ := HROW.out j p hj
    exact ⟨g, a1, Nat.lt_of_lt_of_le a2 hb1.size, (hb1.cell (p := ⟨g, j, none⟩) a2).trans a3⟩
  have z11 := hb1.size
  obtain ⟨n, hn⟩ : ∃ n, n = c.C.length := ⟨_, rfl⟩
  have EN := Lib.hid hn
  rw [← hn] at c2 few kv1
  unfold maxLen at kv2
  clear NO HROW H1 HL1 HE1 HB1 hb1 hn
  go_wp2_with fail
  go_loopw [9, 27] (fun bv iv wr => ∃ i : Nat, i ≤ n ∧ iv = .int .i64 i ∧ bv = bestV A (bestS v c.C i) ∧ Below w1.heap.size w1 wr) (fun _ iv _ => n - (intOf iv).toNat)
  case atStart => exact ⟨0, by omega, by go_num, rfl, (by repeat (first | exact Below.refl _ _ | refine Below.drew ?_ | refine below_drewN ?_ _ | refine Below.trans ?_ (Below.mono (by assumption) (by first | omega | (simp; omega) | (simp; done))) | refine Below.alloc ?_ (by first | omega | (simp; omega) | (simp; done)) _ | refine Below.setCell ?_ (by first | omega | (simp; omega) | (simp; done)) _))⟩
  case round =>
    obtain ⟨i, hile, rfl, hbv, hbel⟩ := hrel
    have BW : Hid (∀ W, Below wr.heap.size wr W → Below w1.heap.size w1 W) := fun W b => hbel.trans (b.mono hbel.size)
    have HCR := Lib.hid (HC1.out.below hbel)
    by_cases hin : i < n
    · obtain ⟨s, hs⟩ : ∃ s, c.C[i]? = some s := ⟨c.C[i]'(by rw [← EN.out]; exact hin), List.getElem?_eq_getElem _⟩
      obtain ⟨p, hp, hsl, _⟩ := HCR.out.ch.at hs
      obtain ⟨g, rfl, hg, hc0⟩ := HROW1.out i p hp
      have ck : wr.cell? ⟨g, i, none⟩ = some (.pointer (some ⟨p.1, 0, none⟩)) := (hbel.cell (p := ⟨g, i, none⟩) hg).trans hc0
      have gl : g < wr.heap.size := Nat.lt_of_lt_of_le hg hbel.size
      have hik : i < kv := by omega
      obtain ⟨d0, d1, _, d3, d4, dl, _⟩ := hsl.cells
      have BV := Lib.hid (bestV_some hp)
      clear hc0 hsl
      by_cases h1 : s.nd = v
      · have b1 : (s.nd == (v : Int)) = true := by simp [h1]
        have b1' : decide (s.nd = (v : Int)) = true := by simp [h1]
        by_cases h2 : manyS s < s.T.length
        · have b2 : decide (manyS s < s.T.length) = true := decide_eq_true h2
          have b2' : decide ((manyS s : Int) < (s.T.length : Int)) = true := decide_eq_true (by omega)
          cases hb : bestS v c.C i with
          | none =>
            have EQ := Lib.hid (bestS_new hs ⟨h1, h2⟩ hb)
            rw [hb] at hbv
            simp only [bestV] at hbv
            subst hbv
            clear hs hp h1 hb
            generalize manyS s = a at *
            generalize s.T.length = l at *
            go_wp2_with fail
            go_quiet (fail)
            go_wp2
            go_round
            case rel => exact ⟨i + 1, by omega, by go_num, (by rw [EQ.out, BV.out]), BW.out _ (by repeat (first | exact Below.refl _ _ | refine Below.drew ?_ | refine below_drewN ?_ _ | refine Below.trans ?_ (Below.mono (by assumption) (by first | omega | (simp; omega) | (simp; done))) | refine Below.alloc ?_ (by first | omega | (simp; omega) | (simp; done)) _ | refine Below.setCell ?_ (by first | omega | (simp; omega) | (simp; done)) _))⟩
            case measure => simp [intOf]; omega
          | some m =>
            obtain ⟨_, z, hz, _, _⟩ := bestS_some hb
            obtain ⟨y, hy, hyl, _⟩ := HCR.out.ch.at hz
            obtain ⟨x0, x1, _, x3, x4, xl, _⟩ := hyl.cells
            have BY := Lib.hid (bestV_some hy)
            have EQ := Lib.hid (bestS_more hs ⟨h1, h2⟩ hb hz)
            rw [hb, bestV_some hy] at hbv
            subst hbv
            by_cases h3 : manyS z < manyS s
            · have b3 : decide (manyS z < manyS s) = true := decide_eq_true h3
              have b3' : decide ((manyS z : Int) < (manyS s : Int)) = true := decide_eq_true (by omega)
              have EQ2 := Lib.hid (show bestS v c.C (i + 1) = some i by rw [EQ.out, if_pos h3])
              clear hs hp h1 hb hz hy hyl EQ
              generalize manyS s = a at *
              generalize s.T.length = l at *
              generalize manyS z = a' at *
              go_wp2_with fail
              go_quiet (fail)
              go_wp2
              go_round
              case rel => exact ⟨i + 1, by omega, by go_num, (by rw [EQ2.out, BV.out]), BW.out _ (by repeat (first | exact Below.refl _ _ | refine Below.drew ?_ | refine below_drewN ?_ _ | refine Below.trans ?_ (Below.mono (by assumption) (by first | omega | (simp; omega) | (simp; done))) | refine Below.alloc ?_ (by first | omega | (simp; omega) | (simp; done)) _ | refine Below.setCell ?_ (by first | omega | (simp; omega) | (simp; done)) _))⟩
              case measure => simp [intOf]; omega
            · have b3 : decide (manyS z < manyS s) = false := decide_eq_false h3
              have b3' : decide ((manyS z : Int) < (manyS s : Int)) = false := decide_eq_false (by omega)
              have EQ2 := Lib.hid (show bestS v c.C (i + 1) = some m by rw [EQ.out, if_neg h3])
              clear hs hp h1 hb hz hy hyl EQ h3
              generalize manyS s = a at *
              generalize s.T.length = l at *
              generalize manyS z = a' at *
              go_wp2_with fail
              go_quiet (fail)
              go_wp2
              go_round
              case rel => exact ⟨i + 1, by omega, by go_num, (by rw [EQ2.out, BY.out]), BW.out _ (by repeat (first | exact Below.refl _ _ | refine Below.drew ?_ | refine below_drewN ?_ _ | refine Below.trans ?_ (Below.mono (by assumption) (by first | omega | (simp; omega) | (simp; done))) | refine Below.alloc ?_ (by first | omega | (simp; omega) | (simp; done)) _ | refine Below.setCell ?_ (by first | omega | (simp; omega) | (simp; done)) _))⟩
              case measure => simp [intOf]; omega
        · have b2 : decide (manyS s < s.T.length) = false := decide_eq_false h2
          have b2' : decide ((manyS s : Int) < (s.T.length : Int)) = false := decide_eq_false (by omega)
          have EQ := Lib.hid (bestS_no (v := (v : Int)) hs (fun q => h2 q.2))
          have HBV := Lib.hid hbv
          clear hs hp h1 h2 hbv
          generalize manyS s = a at *
          generalize s.T.length = l at *
          go_wp2_with fail
          go_quiet (fail)
          go_wp2
          go_round
          case rel => exact ⟨i + 1, by omega, by go_num, (by rw [EQ.out]; exact HBV.out), BW.out _ (by repeat (first | exact Below.refl _ _ | refine Below.drew ?_ | refine below_drewN ?_ _ | refine Below.trans ?_ (Below.mono (by assumption) (by first | omega | (simp; omega) | (simp; done))) | refine Below.alloc ?_ (by first | omega | (simp; omega) | (simp; done)) _ | refine Below.setCell ?_ (by first | omega | (simp; omega) | (simp; done)) _))⟩
          case measure => simp [intOf]; omega
      · have b1 : (s.nd == (v : Int)) = false := by simp [h1]
        have b1' : decide (s.nd = (v : Int)) = false := by simp [h1]
        have EQ := Lib.hid (bestS_no (v := (v : Int)) hs (fun q => h1 q.1))
        have HBV := Lib.hid hbv
        clear hs hp h1 hbv
        go_wp2_with fail
        go_quiet (fail)
        go_wp2
        go_round
        case rel => exact ⟨i + 1, by omega, by go_num, (by rw [EQ.out]; exact HBV.out), BW.out _ (by repeat (first | exact Below.refl _ _ | refine Below.drew ?_ | refine below_drewN ?_ _ | refine Below.trans ?_ (Below.mono (by assumption) (by first | omega | (simp; omega) | (simp; done))) | refine Below.alloc ?_ (by first | omega | (simp; omega) | (simp; done)) _ | refine Below.setCell ?_ (by first | omega | (simp; omega) | (simp; done)) _))⟩
        case measure => simp [intOf]; omega
    · obtain rfl : i = n := by omega
      have HKR := Lib.hid (Keep.of (S := cay pc (.slice qv c.C.length kv) A ++ ys c.L) (show Below w.heap.size w wr from HBW.out.trans (hbel.mono (by have := HBW.out.size; omega))))
      have HLW := Lib.hid (HLR.out.go hbel)
      cases hb : bestS v c.C i with
      | some m =>
        obtain ⟨_, s, hs, hnd, hm⟩ := bestS_some hb
        obtain ⟨p, hp, _, _⟩ := HCR.out.ch.at hs
        rw [hb, bestV_some hp] at hbv
        subst hbv
        have rr : R = (⟨c.L, c.C.set m (useS s (freeAt s.T) true)⟩, 0, obOf e s (freeAt s.T)) := by
          have := HTC.out; rw [← EN.out, hb] at this; simpa [hs] using this
        have hl64 : s.T.length ≤ 64 := by rw [HI.out.len s (HI.out.get hs)]; unfold roomE; exact Nat.div_le_self _ _
        have TS := Lib.hid (show TkS B w wr pc pz mn lw hi O e X (.slice qv c.C.length kv) A c R (w.heap.size :: X) (.slice qv c.C.length kv) A c m s p from ⟨HCR.out, hs, hp, hm, hl64, rr, HKR.out, fun x hx => List.mem_cons_of_mem _ hx, fun x hx => by
          rcases List.mem_cons.1 hx with rfl | q
          · exact .inr (Nat.le_refl _)
          · exact .inl q, fun y hy => .inl hy, List.mem_cons_self .., NC.out, NY.out, HLW.out⟩)
        clear hb hs hp rr hm hnd
        obtain ⟨wt, ewt⟩ : ∃ wt, wt = wr := ⟨_, rfl⟩
        subst ewt
        obtain ⟨f1, f2, _⟩ := freeAt_spec TS.out.hm
        have SLB := TS.out.cs.ch.sl m p s TS.out.hp TS.out.hs
        obtain ⟨d0, d1, _, d3, d4, dl, dl2⟩ := SLB.cells
        obtain ⟨k, hk⟩ : ∃ k, k = freeAt s.T := ⟨_, rfl⟩
        rw [← hk] at f1 f2
        have l64 := TS.out.hl
        have hml := manyT_le s.T
        have IX := Lib.hid (index_bool (X := []) s.T p.2 k wt SLB.2 hk.symm TS.out.hm TS.out.hl)
        have fz : wt.frozen? ⟨p.2, k, none⟩ = false := SLB.2.f k (by rw [bools_length]; omega)
        have fz4 : wt.frozen? ⟨p.1, 4, none⟩ = false := SLB.1.f 4 (by simp [slabCells])
        have ck : wt.cell? ⟨p.2, k, none⟩ = some (.bool false) := SLB.2.c k _ (bools_get f2)
        have ne12 : ¬ (p.1 = p.2) := (TS.out.cs.slab TS.out.hp).2.2
        have ne21 : ¬ (p.2 = p.1) := fun q => ne12 q.symm
        have HK := Lib.hid hk
        have hms : manyS s ≤ 64 := by have : manyS s = manyT s.T := rfl; omega
        have HMS : ((manyS (useS s k true) : Nat) : Int) = (manyS s : Int) + 1 := by
          have h0 := manyT_set f2 true
          have h1 : manyS (useS s k true) = manyT (s.T.set k true) := rfl
          have h2 : manyS s = manyT s.T := rfl
          simp at h0
          omega
        have HSP := Lib.hid (SlabB.put (k := k) true SLB ne12 f1)
        rw [HMS] at HSP
        obtain ⟨g0, g1⟩ := TS.out.rng HIN.out
        have ke0 : (0 : Int) ≤ (k : Int) * (e : Int) := Int.mul_nonneg (by omega) (by omega)
        have ke1 : (k : Int) * (e : Int) ≤ 4096 := by
          have := Nat.mul_le_mul (show k ≤ 64 by omega) e2
          have h2 : ((k * e : Nat) : Int) ≤ ((64 * 64 : Nat) : Int) := by omega
          simpa using h2
        have ro : obV R.2.2 = .agg #[.int .i64 s.nd, .int .i64 (s.pg * 64 + (k : Int) * (e : Int))] := by rw [TS.out.rr, ← HK.out]; rfl
        have RO := Lib.hid ro
        have HMS' := Lib.hid HMS
        clear SLB hk f2 HMS ro
        go_wp2_with fail
        refine IX.out.mono ?_
        rintro r2 w2 ⟨rfl, rfl⟩
        go_wp2_with fail
        obtain ⟨W, hW⟩ : ∃ W, W = (wt.setCell ⟨p.2, k, none⟩ (.bool true)).setCell ⟨p.1, 4, none⟩ (.int .i64 ((manyS s : Int) + 1)) := ⟨_, rfl⟩
        rw [← hW]
        have hW' := Lib.hid (show W = (wt.setCell ⟨p.2, freeAt s.T, none⟩ (.bool true)).setCell ⟨p.1, 4, none⟩ (.int .i64 (manyS (useS s (freeAt s.T) true))) by rw [← HK.out, HMS'.out]; exact hW)
        have SP := HSP.out
        rw [← hW] at SP
        obtain ⟨a0, a1, _, _, _, al, _⟩ := SP.1.cells
        have LC := (TS.out.cs.use TS.out.hp SP.1 SP.2).ch.c
        have q1 := LC.c 1 _ rfl; have ql := LC.lt
        have LRW : LocN W w.heap.size [.int .i64 0, .int .i64 0] := TS.out.lr.keep SP.2 (fun q => by
          have m := TS.out.cs.slab TS.out.hp
          simp at q
          rcases q with q | q
          · exact TS.out.t2 (q ▸ m.1)
          · exact TS.out.t2 (q ▸ m.2.1))
        have v0 := LRW.c 0 _ rfl; have v1 := LRW.c 1 _ rfl; have vf0 := LRW.f 0 (by simp); have vf1 := LRW.f 1 (by simp); have vl := LRW.lt; have n0 := LRW.drewL.c 0 _ rfl; have n1 := LRW.drewL.c 1 _ rfl; have nf0 := LRW.drewL.f 0 (by simp); have nf1 := LRW.drewL.f 1 (by simp)
        have HRW := Lib.hid (LRW.store2 (.int .i64 s.nd) (.int .i64 (s.pg * 64 + (k : Int) * (e : Int))))
        have HRX := Lib.hid (LRW.store 0 (.int .i64 s.nd) (by simp))
        clear d0 d1 d3 d4 ck fz fz4 hW SP LC LRW HSP IX c0 c1 c2 cl
        simp only [useS] at a0 a1
        refine wp_tail 20 (by kernel_rfl) (by kernel_rfl) ?_
        simp only [List.take_succ_cons, List.take_zero, List.drop_succ_cons, List.drop_zero]
        repeat still_step
        refine wpStill_nil ?_
        go_wp2
        have x0 := HRW.out.c 0 _ rfl; have x1 := HRW.out.c 1 _ rfl; have y0 := HRX.out.c 0 _ rfl
        refine bodyPost_ret (v := .tuple #[.agg #[.int .i64 s.nd, .int .i64 (s.pg * 64 + (k : Int) * (e : Int))], .nilIface]) ?_ rfl ?_
        · simp [x0, x1, y0, results, Tryz.results36, go_sem]
        · rw [← RO.out]
          exact TS.out.fin hW'.out (((Keep.refl _ _).setCell (p := ⟨w.heap.size, 0, none⟩) (.inl (by simp)) _).setCell (p := ⟨w.heap.size, 1, none⟩) (.inl (by simp)) _).drew
      | none =>
        rw [hb] at hbv
        simp only [bestV] at hbv
        subst hbv
        obtain ⟨L', q, nd, pg, k, hz⟩ : ∃ L' q nd pg k, takeZ mn O c.L v 0 u = (L', q, (nd, pg, k)) := ⟨_, _, _, _, _, rfl⟩
        have rr := HTC.out
        rw [← EN.out, hb] at rr
        simp only [hz] at rr
        cases q with
        | succ q =>
          rw [if_neg (by omega)] at rr
          have GN := Lib.hid (cgrow_no (u := u) (v := (v : Int)) (HE2.out.go hbel) HCR.out L' q nd pg k hz)
          obtain ⟨vv, hvv⟩ : ∃ vv, vv = ev (q + 1) := ⟨_, rfl⟩
          have e1' : errV ev (q + 1) = .iface 291 (.pointer (some vv)) := by rw [hvv]; rfl
          have FIN : Hid (∀ W W', GrowNo B ev pc pz mn lw hi O e (w.heap.size :: X) (.slice qv c.C.length kv) A c wr L' (q + 1) (.returned (.tuple #[.pointer none, .iface 291 (.pointer (some vv))])) W → Keep [w.heap.size] W W' → StkPost B ev pc pz mn lw hi O e X (.slice qv c.C.length kv) A c w R (.returned (.tuple #[.agg #[.int .i64 0, .int .i64 0], .iface 291 (.pointer (some vv))])) W') := fun W W' hG hK => by
            obtain ⟨_, g2, g3⟩ := hG
            refine ⟨by rw [rr, ← e1']; rfl, w.heap.size :: X, _, A, ?_, ?_, fun x hx => List.mem_cons_of_mem _ hx, fun x hx => ?_, fun y hy => .inl hy⟩
            · rw [rr]
              exact g2.keep hK (fun x hx => by
                simp at hx; subst hx
                refine ⟨NC.out, .inl ⟨List.mem_cons_self .., ?_⟩⟩
                have sz := takeZ_same mn O c.L v 0 u
                rw [hz] at sz
                show w.heap.size ∉ ys L'
                rw [sz.ys]; exact NY.out)
            · exact (HKR.out.then (g3.mono (fun y q => List.mem_append_right _ q))).trans hK (fun x hx => by simp at hx; subst hx; exact .inr (Nat.le_refl _))
            · rcases List.mem_cons.1 hx with rfl | q
              · exact .inr (Nat.le_refl _)
              · exact .inl q
          have GN2 : Hid (Calls Tryz.prog 90 #[.pointer (some ⟨pc, 0, none⟩), .int .i64 v, .bool u] wr fun r' w' => r' = .returned (.tuple #[.pointer none, .iface 291 (.pointer (some vv))]) ∧ GrowNo B ev pc pz mn lw hi O e (w.heap.size :: X) (.slice qv c.C.length kv) A c wr L' (q + 1) r' w') := GN.out.mono fun r' w' hg => ⟨by rw [← e1']; exact hg.1, hg⟩
          have LRK : Hid (∀ W, Keep (ys c.L) wr W → LocN W w.heap.size [.int .i64 0, .int .i64 0]) := fun W k => HLW.out.keep k NY.out
          clear GN hz rr e1' hvv hb
          go_wp2_with fail
          refine GN2.out.mono ?_
          rintro r' w3 ⟨rfl, hG⟩
          have M := LRK.out w3 hG.2.2
          have m0 := M.c 0 _ rfl; have m1 := M.c 1 _ rfl; have f0 := M.f 0 (by simp); have f1 := M.f 1 (by simp); have ml := M.lt
          have HM := Lib.hid (M.store2 (.int .i64 0) (.int .i64 0))
          have HG := Lib.hid hG
          clear M hG
          go_wp2
          have x0 := HM.out.c 0 _ rfl; have x1 := HM.out.c 1 _ rfl
          exact bodyPost_ret (v := .tuple #[.agg #[.int .i64 0, .int .i64 0], .iface 291 (.pointer (some vv))]) (by simp [x0, x1, results, Tryz.results36, go_sem]) rfl (FIN.out _ _ HG.out (((Keep.refl _ _).setCell (p := ⟨w.heap.size, 0, none⟩) (.inl (by simp)) _).setCell (p := ⟨w.heap.size, 1, none⟩) (.inl (by simp)) _))
        | zero =>
          rw [if_pos rfl] at rr
          have hk := TZ0.out
          rw [hz] at hk
          simp only at hk
          subst hk
          have GY := Lib.hid (cgrow_yes (u := u) (v := (v : Int)) (HE2.out.go hbel) HCR.out HI.out (by have := HBW.out.size; have := hbel.size; omega) L' nd pg hz)
          have MKT : Hid (∀ p X' v' A' W, CS B W pc pz mn lw hi O e X' v' A' ⟨L', insS c.C ⟨nd, pg, noneT e⟩⟩ → A'[posS nd pg c.C]? = some p → Keep (cay pc (.slice qv c.C.length kv) A ++ ys c.L) wr W → (∀ x ∈ w.heap.size :: X, x ∈ X') → (∀ x ∈ X', x ∈ w.heap.size :: X ∨ wr.heap.size ≤ x) → (∀ y ∈ cay pc v' A', y ∈ cay pc (.slice qv c.C.length kv) A ∨ wr.heap.size ≤ y) → TkS B w W pc pz mn lw hi O e X (.slice qv c.C.length kv) A c R X' v' A' ⟨L', insS c.C ⟨nd, pg, noneT e⟩⟩ (posS nd pg c.C) ⟨nd, pg, noneT e⟩ p) := fun p X' v' A' W g1 g2 g3 g4 g5 g6 => by
            have zwr : w.heap.size < wr.heap.size := HLW.out.lt
            have f0 := freeAt_none e1 e2
            have nl : (noneT e).length = roomE e := by unfold noneT; simp
            have sz := takeZ_same mn O c.L v 0 u
            rw [hz] at sz
            refine ⟨g1, ins_at c.C ⟨nd, pg, noneT e⟩, g2, ?_, ?_, ?_, HKR.out.then g3, fun x hx => g4 x (List.mem_cons_of_mem _ hx), fun x hx => ?_, fun y hy => ?_, g4 _ (List.mem_cons_self ..), fun q => ?_, ?_, HLW.out.keep g3 (fun q => ?_)⟩
            · show manyT (noneT e) < (noneT e).length
              rw [manyT_none, nl]; exact roomE_pos e1 e2
            · show (noneT e).length ≤ 64
              rw [nl]; unfold roomE; exact Nat.div_le_self _ _
            · rw [rr]
              have h0 : freeAt (⟨nd, pg, noneT e⟩ : Sl).T = 0 := f0
              rw [h0]
              have h1 := ins_set c.C ⟨nd, pg, noneT e⟩ (useS ⟨nd, pg, noneT e⟩ 0 true) rfl rfl
              show _ = ((⟨L', (insS c.C ⟨nd, pg, noneT e⟩).set (posS nd pg c.C) (useS ⟨nd, pg, noneT e⟩ 0 true)⟩, 0, obOf e ⟨nd, pg, noneT e⟩ 0) : Ca × Nat × Ob)
              rw [show (insS c.C ⟨nd, pg, noneT e⟩).set (posS nd pg c.C) (useS ⟨nd, pg, noneT e⟩ 0 true) = insS c.C (useS ⟨nd, pg, noneT e⟩ 0 true) from h1]
              unfold obOf
              simp
            · rcases g5 x hx with q | q
              · rcases List.mem_cons.1 q with rfl | q
                · exact .inr (Nat.le_refl _)
                · exact .inl q
              · exact .inr (by omega)
            · exact (g6 y hy).imp id (fun q => by omega)
            · rcases g6 _ q with t | t
              · exact NC.out t
              · omega
            · show w.heap.size ∉ ys L'
              rw [sz.ys]; exact NY.out
            · rcases List.mem_append.1 q with t | t
              · exact NC.out t
              · exact NY.out t
          clear hz rr hb TZ0 HTC
          go_wp2_with fail
          refine GY.out.mono ?_
          rintro r' wt ⟨p, X', v', A', rfl, g1, g2, g3, g4, g5, g6⟩
          obtain ⟨m, hm⟩ : ∃ m, m = posS nd pg c.C := ⟨_, rfl⟩
          obtain ⟨s, hs⟩ : ∃ s : Sl, s = ⟨nd, pg, noneT e⟩ := ⟨_, rfl⟩
          have TS := MKT.out p X' v' A' wt g1 g2 g3 g4 g5 g6
          rw [← hm, ← hs] at TS
          obtain ⟨ct, hct⟩ : ∃ ct : Ca, ct = ⟨L', insS c.C s⟩ := ⟨_, rfl⟩
          rw [← hct] at TS
          have TS := Lib.hid TS
          clear g1 g2 g3 g4 g5 g6 MKT GY hm hs hct
          obtain ⟨f1, f2, _⟩ := freeAt_spec TS.out.hm
          have SLB := TS.out.cs.ch.sl m p s TS.out.hp TS.out.hs
          obtain ⟨d0, d1, _, d3, d4, dl, dl2⟩ := SLB.cells
          obtain ⟨k, hk⟩ : ∃ k, k = freeAt s.T := ⟨_, rfl⟩
          rw [← hk] at f1 f2
          have l64 := TS.out.hl
          have hml := manyT_le s.T
          have IX := Lib.hid (index_bool (X := []) s.T p.2 k wt SLB.2 hk.symm TS.out.hm TS.out.hl)
          have fz : wt.frozen? ⟨p.2, k, none⟩ = false := SLB.2.f k (by rw [bools_length]; omega)
          have fz4 : wt.frozen? ⟨p.1, 4, none⟩ = false := SLB.1.f 4 (by simp [slabCells])
          have ck : wt.cell? ⟨p.2, k, none⟩ = some (.bool false) := SLB.2.c k _ (bools_get f2)
          have ne12 : ¬ (p.1 = p.2) := (TS.out.cs.slab TS.out.hp).2.2
          have ne21 : ¬ (p.2 = p.1) := fun q => ne12 q.symm
          have HK := Lib.hid hk
          have hms : manyS s ≤ 64 := by have : manyS s = manyT s.T := rfl; omega
          have HMS : ((manyS (useS s k true) : Nat) : Int) = (manyS s : Int) + 1 := by
            have h0 := manyT_set f2 true
            have h1 : manyS (useS s k true) = manyT (s.T.set k true) := rfl
            have h2 : manyS s = manyT s.T := rfl
            simp at h0
            omega
          have HSP := Lib.hid (SlabB.put (k := k) true SLB ne12 f1)
          rw [HMS] at HSP
          obtain ⟨g0, g1⟩ := TS.out.rng HIN.out
          have ke0 : (0 : Int) ≤ (k : Int) * (e : Int) := Int.mul_nonneg (by omega) (by omega)
          have ke1 : (k : Int) * (e : Int) ≤ 4096 := by
            have := Nat.mul_le_mul (show k ≤ 64 by omega) e2
            have h2 : ((k * e : Nat) : Int) ≤ ((64 * 64 : Nat) : Int) := by omega
            simpa using h2
          have ro : obV R.2.2 = .agg #[.int .i64 s.nd, .int .i64 (s.pg * 64 + (k : Int) * (e : Int))] := by rw [TS.out.rr, ← HK.out]; rfl
          have RO := Lib.hid ro
          have HMS' := Lib.hid HMS
          clear SLB hk f2 HMS ro
          go_wp2_with fail
          refine IX.out.mono ?_
          rintro r2 w2 ⟨rfl, rfl⟩
          go_wp2_with fail
          obtain ⟨W, hW⟩ : ∃ W, W = (wt.setCell ⟨p.2, k, none⟩ (.bool true)).setCell ⟨p.1, 4, none⟩ (.int .i64 ((manyS s : Int) + 1)) := ⟨_, rfl⟩
          rw [← hW]
          have hW' := Lib.hid (show W = (wt.setCell ⟨p.2, freeAt s.T, none⟩ (.bool true)).setCell ⟨p.1, 4, none⟩ (.int .i64 (manyS (useS s (freeAt s.T) true))) by rw [← HK.out, HMS'.out]; exact hW)
          have SP := HSP.out
          rw [← hW] at SP
          obtain ⟨a0, a1, _, _, _, al, _⟩ := SP.1.cells
          have LC := (TS.out.cs.use TS.out.hp SP.1 SP.2).ch.c
          have q1 := LC.c 1 _ rfl; have ql := LC.lt
          have LRW : LocN W w.heap.size [.int .i64 0, .int .i64 0] := TS.out.lr.keep SP.2 (fun q => by
            have m := TS.out.cs.slab TS.out.hp
            simp at q
            rcases q with q | q
            · exact TS.out.t2 (q ▸ m.1)
            · exact TS.out.t2 (q ▸ m.2.1))
          have v0 := LRW.c 0 _ rfl; have v1 := LRW.c 1 _ rfl; have vf0 := LRW.f 0 (by simp); have vf1 := LRW.f 1 (by simp); have vl := LRW.lt; have n0 := LRW.drewL.c 0 _ rfl; have n1 := LRW.drewL.c 1 _ rfl; have nf0 := LRW.drewL.f 0 (by simp); have nf1 := LRW.drewL.f 1 (by simp)
          have HRW := Lib.hid (LRW.store2 (.int .i64 s.nd) (.int .i64 (s.pg * 64 + (k : Int) * (e : Int))))
          have HRX := Lib.hid (LRW.store 0 (.int .i64 s.nd) (by simp))
          clear d0 d1 d3 d4 ck fz fz4 hW SP LC LRW HSP IX c0 c1 c2 cl
          simp only [useS] at a0 a1
          refine wp_tail 20 (by kernel_rfl) (by kernel_rfl) ?_
          simp only [List.take_succ_cons, List.take_zero, List.drop_succ_cons, List.drop_zero]
          repeat still_step
          refine wpStill_nil ?_
          go_wp2
          have x0 := HRW.out.c 0 _ rfl; have x1 := HRW.out.c 1 _ rfl; have y0 := HRX.out.c 0 _ rfl
          refine bodyPost_ret (v := .tuple #[.agg #[.int .i64 s.nd, .int .i64 (s.pg * 64 + (k : Int) * (e : Int))], .nilIface]) ?_ rfl ?_
          · simp [x0, x1, y0, results, Tryz.results36, go_sem]
          · rw [← RO.out]
            exact TS.out.fin hW'.out (((Keep.refl _ _).setCell (p := ⟨w.heap.size, 0, none⟩) (.inl (by simp)) _).setCell (p := ⟨w.heap.size, 1, none⟩) (.inl (by simp)) _).drew
end
end Go.Proofs.YtcokmiidgdmdlaaGreatDoor

namespace Go.Proofs.YtcokmiidgdmdlaaGreatDoor
open Go.RowKit
set_option linter.unusedSimpArgs false
set_option linter.unusedVariables false

/-- how far behind a page's begin, in the program's numbers -/
def offW (oa pg : Int) : Int := IntKind.i64.wrap (oa - pg * 64)
theorem offW_of {oa pg : Int} (h1 : -9223372036854775808 ≤ oa) (h2 : oa ≤ 9223372036854775807) (h3 : 0 ≤ pg) (h4 : pg < 256) :
    (offW oa pg = oa - pg * 64) ∨ (oa - pg * 64 < 0 ∧ 9223372036854000000 ≤ offW oa pg ∧ offW oa pg ≤ 9223372036854775807) := by
  unfold offW
  rw [IntKind.wrap_i64]
  omega
theorem offW_fit (oa pg : Int) : -9223372036854775808 ≤ offW oa pg ∧ offW oa pg ≤ 9223372036854775807 := by
  unfold offW
  rw [IntKind.wrap_i64]
  omega
/-- the number of an object there -/
def numW (e : Nat) (oa pg : Int) : Nat := (offW oa pg / e).toNat
theorem hasS_W {e : Nat} (e1 : 1 ≤ e) (e2 : e ≤ 64) {n oa : Int} (h1 : -9223372036854775808 ≤ oa) (h2 : oa ≤ 9223372036854775807) {s : Sl} (h3 : 0 ≤ s.pg) (h4 : s.pg < 256) (hl : s.T.length ≤ 64) :
    hasS e (n, oa) s = (decide (s.nd = n) && decide (0 ≤ offW oa s.pg) && decide (offW oa s.pg % e = 0) && decide (numW e oa s.pg < s.T.length) && (s.T[numW e oa s.pg]? == some true)) := by
  have key : (s.T[numW e oa s.pg]? == some true) = (decide (numW e oa s.pg < s.T.length) && (s.T[numW e oa s.pg]? == some true)) := by
    by_cases hq : numW e oa s.pg < s.T.length
    · rw [decide_eq_true hq, Bool.true_and]
    · rw [decide_eq_false hq, Bool.false_and, List.getElem?_eq_none (by omega)]; rfl
  rcases offW_of h1 h2 h3 h4 with q | ⟨q1, q2, q3⟩
  · have hn : numW e oa s.pg = ((oa - s.pg * 64) / e).toNat := by unfold numW; rw [q]
    rw [Bool.and_assoc, ← key, q, hn]
    rfl
  · have big : ¬ numW e oa s.pg < s.T.length := by
      have : offW oa s.pg / e ≥ 9223372036854000000 / 64 := by
        calc (9223372036854000000 : Int) / 64 ≤ offW oa s.pg / 64 := by omega
          _ ≤ offW oa s.pg / e := by
            have he : (0 : Int) < e := by omega
            rw [Int.le_ediv_iff_mul_le he]
            have h64 : offW oa s.pg / 64 * (e : Int) ≤ offW oa s.pg / 64 * 64 := Int.mul_le_mul_of_nonneg_left (by omega) (by omega)
            omega
      unfold numW
      omega
    rw [decide_eq_false big]
    unfold hasS
    rw [decide_eq_false (show ¬ (0 : Int) ≤ (n, oa).2 - s.pg * 64 by simp only; omega)]
    simp
theorem kOf_W {e : Nat} (e1 : 1 ≤ e) (e2 : e ≤ 64) {n oa : Int} (h1 : -9223372036854775808 ≤ oa) (h2 : oa ≤ 9223372036854775807) {s : Sl} (h3 : 0 ≤ s.pg) (h4 : s.pg < 256) (hl : s.T.length ≤ 64) (h : hasS e (n, oa) s = true) : numW e oa s.pg = kOf e (n, oa) s := by
  rcases offW_of h1 h2 h3 h4 with q | ⟨q1, q2, q3⟩
  · unfold numW kOf; rw [q]
  · unfold hasS at h
    simp only [Bool.and_eq_true, decide_eq_true_eq] at h
    omega
theorem quo_W {e : Nat} (e1 : 1 ≤ e) {oa pg : Int} (h : 0 ≤ offW oa pg) : (offW oa pg).tdiv (e : Int) = (numW e oa pg : Int) ∧ (offW oa pg).tmod (e : Int) = offW oa pg % e := by
  have hd : 0 ≤ offW oa pg / (e : Int) := Int.ediv_nonneg h (by omega)
  refine ⟨?_, Int.tmod_eq_emod_of_nonneg h⟩
  unfold numW
  rw [Int.tdiv_eq_ediv_of_nonneg h, Int.toNat_of_nonneg hd]
end Go.Proofs.YtcokmiidgdmdlaaGreatDoor

namespace Go.Proofs.YtcokmiidgdmdlaaGreatDoor
open Go.RowKit Go.Maps
set_option linter.unusedSimpArgs false
set_option linter.unusedVariables false
attribute [local go_sem ↓] Go.wp_at_zero Go.wp_at_succ

section
variable {B : Nat} {ev : Nat → Addr} {pc pz e : Nat} {mn lw hi : Int} {O : List (List Int)} {X : List Nat} {vs : Value} {A : SA} {c : Ca} {w : World}
set_option maxHeartbeats 8000000 in
set_option maxRecDepth 100000 in
theorem find_walk (n oa : Int) (h : CS B w pc pz mn lw hi O e X vs A c) (hI : InvC e c) (o1 : -9223372036854775808 ≤ oa) (o2 : oa ≤ 9223372036854775807) (m : Nat) (hm : m ≤ c.C.length) (hno : ∀ j s, j < m → c.C[j]? = some s → hasS e (n, oa) s = false) (res : Value) (k : Nat)
    (hres : (m = c.C.length ∧ res = .pointer none ∧ k = 0) ∨ (∃ s p, c.C[m]? = some s ∧ A[m]? = some p ∧ hasS e (n, oa) s = true ∧ res = .pointer (some ⟨p.1, 0, none⟩) ∧ k = kOf e (n, oa) s)) :
    Calls Tryz.prog 92 #[.pointer (some ⟨pc, 0, none⟩), .agg #[.int .i64 n, .int .i64 oa]] w fun r w' => r = .returned (.tuple #[res, .int .i64 k]) ∧ Below w.heap.size w w' := by
  obtain ⟨qv, kv, evs, kv1, kv2, hrow⟩ := h.ch.form
  subst evs
  have e1 := hI.e1; have e2 := hI.e2
  have few := hI.few
  have HIN := Lib.hid hI
  have b0 : Below w.heap.size w (w.alloc (.cells #[.int .i64 n, .int .i64 oa] 72)) := (by repeat (first | exact Below.refl _ _ | refine Below.drew ?_ | refine below_drewN ?_ _ | refine Below.trans ?_ (Below.mono (by assumption) (by first | omega | (simp; omega) | (simp; done))) | refine Below.alloc ?_ (by first | omega | (simp; omega) | (simp; done)) _ | refine Below.setCell ?_ (by first | omega | (simp; omega) | (simp; done)) _))
  have HL := Lib.hid (show LocN (w.alloc (.cells #[.int .i64 n, .int .i64 oa] 72)) w.heap.size [.int .i64 n, .int .i64 oa] from LocN.mk_ w [.int .i64 n, .int .i64 oa] 72 rfl)
  have HROW := Lib.hid hrow; have HC := Lib.hid h.ch; have HB0 := Lib.hid b0
  have HNOO := Lib.hid hno; have HRES := Lib.hid hres
  have c1 := h.ch.c.c 1 _ rfl; have c2 := h.ch.c.c 2 _ rfl; have cl := h.ch.c.lt
  obtain ⟨nn, hnn⟩ : ∃ nn, nn = c.C.length := ⟨_, rfl⟩
  have EN := Lib.hid hnn
  rw [← hnn] at c2 few kv1 hm
  unfold maxLen at kv2
  have en0 : ¬ ((e : Int) = 0) := by omega
  have en1 : ¬ (e = 0) := by omega
  clear h hI hrow hnn b0 hno hres
  go_enter Tryz.func92, Tryz.ntmps92
  go_wp2_with fail
  go_loopw [14] (fun iv wr => ∃ i : Nat, i ≤ m ∧ iv = .int .i64 i ∧ Below w.heap.size (w.alloc (.cells #[.int .i64 n, .int .i64 oa] 72)) wr ∧ Below w.heap.size w wr ∧ Hid (LocN wr w.heap.size [.int .i64 n, .int .i64 oa])) (fun iv _ => nn - (intOf iv).toNat)
  case atStart => exact ⟨0, by omega, by go_num, Below.refl _ _, HB0.out, HL⟩
  case round =>
    obtain ⟨i, hile, rfl, hbel0, hbel, HLr⟩ := hrel
    have BW : Hid (∀ W, Below wr.heap.size wr W → Below w.heap.size (w.alloc (.cells #[.int .i64 n, .int .i64 oa] 72)) W ∧ Below w.heap.size w W ∧ Hid (LocN W w.heap.size [.int .i64 n, .int .i64 oa])) := fun W b => ⟨hbel0.trans (b.mono hbel.size), hbel.trans (b.mono hbel.size), HLr.out.go b⟩
    have m0 := HLr.out.c 0 _ rfl; have m1 := HLr.out.c 1 _ rfl; have ml := HLr.out.lt
    have g1 : wr.cell? ⟨pc, 1, none⟩ = some (.int .i64 e) := (hbel.cell (p := ⟨pc, 1, none⟩) cl).trans c1
    have gl0 : pc < wr.heap.size := Nat.lt_of_lt_of_le cl hbel.size
    by_cases hin : i < nn
    · obtain ⟨s, hs⟩ : ∃ s, c.C[i]? = some s := ⟨c.C[i]'(by rw [← EN.out]; exact hin), List.getElem?_eq_getElem _⟩
      obtain ⟨p, hp, hsl, _⟩ := (HC.out.below hbel).at hs
      obtain ⟨g, rfl, hg, hc0⟩ := HROW.out i p hp
      have ck : wr.cell? ⟨g, i, none⟩ = some (.pointer (some ⟨p.1, 0, none⟩)) := (hbel.cell (p := ⟨g, i, none⟩) hg).trans hc0
      have gl : g < wr.heap.size := Nat.lt_of_lt_of_le hg hbel.size
      have hik : i < kv := by omega
      obtain ⟨d0, d1, _, d3, d4, dl, dl2⟩ := hsl.cells
      have hsm := List.mem_of_getElem? hs
      obtain ⟨r1, r2, r3, r4⟩ := HIN.out.rng hsm
      have hl64 : s.T.length ≤ 64 := by rw [HIN.out.len s hsm]; unfold roomE; exact Nat.div_le_self _ _
      have hW := hasS_W e1 e2 (n := n) o1 o2 r3 r4 hl64
      obtain ⟨f1, f2⟩ := offW_fit oa s.pg
      have qW := fun h => quo_W (oa := oa) (pg := s.pg) e1 h
      have KW := Lib.hid (kOf_W (n := n) e1 e2 o1 o2 r3 r4 hl64)
      have TB := Lib.hid (fun (j : Nat) (b : Bool) (hj : s.T[j]? = some b) => hsl.2.c j _ (bools_get hj))
      have hd : wrap64 (oa - s.pg * 64) = offW oa s.pg := by unfold offW; rw [IntWalk.i64_left]
      have qb : offW oa s.pg / (e : Int) ≤ 9223372036854775807 ∨ offW oa s.pg < 0 := by
        by_cases q : offW oa s.pg < 0
        · exact .inr q
        · left
          have : offW oa s.pg / (e : Int) ≤ offW oa s.pg := Int.ediv_le_self _ (by omega)
          omega
      have NO : hasS e (n, oa) s = false → i + 1 ≤ m := fun hf => by
        rcases Nat.lt_or_ge i m with q | q
        · exact q
        · exfalso
          obtain rfl : i = m := by omega
          rcases HRES.out with ⟨t, _⟩ | ⟨s', p', t1, _, t2, _⟩
          · have := EN.out; omega
          · rw [hs] at t1; obtain rfl := Option.some.inj t1
            rw [hf] at t2; cases t2
      have YES : hasS e (n, oa) s = true → res = .pointer (some ⟨p.1, 0, none⟩) ∧ k = kOf e (n, oa) s := fun ht => by
        rcases Nat.lt_or_ge i m with q | q
        · have := HNOO.out i s q hs
          rw [ht] at this; cases this
        · obtain rfl : i = m := by omega
          rcases HRES.out with ⟨t, _⟩ | ⟨s', p', t1, t3, _, t4, t5⟩
          · have := EN.out; omega
          · rw [hs] at t1; obtain rfl := Option.some.inj t1
            rw [hp] at t3; obtain rfl := Option.some.inj t3
            exact ⟨t4, t5⟩
      clear hc0
      by_cases h1 : s.nd = n
      · have b1 : (s.nd == n) = true := by simp [h1]
        have b1' : decide (s.nd = n) = true := by simp [h1]
        by_cases h2 : 0 ≤ offW oa s.pg
        · have b2 : decide (0 ≤ offW oa s.pg) = true := decide_eq_true h2
          obtain ⟨v1, v2⟩ := qW h2
          have m1' : 0 ≤ offW oa s.pg % (e : Int) := Int.emod_nonneg _ (by omega)
          have m2' : offW oa s.pg % (e : Int) < e := Int.emod_lt_of_pos _ (by omega)
          have qn : (numW e oa s.pg : Int) = offW oa s.pg / (e : Int) := by rw [← v1, Int.tdiv_eq_ediv_of_nonneg h2]
          have nb : (numW e oa s.pg : Int) ≤ 9223372036854775807 := by rw [qn]; omega
          have qn' := qn.symm
          clear qn
          have hwq : IntKind.i64.wrap ((numW e oa s.pg : Nat) : Int) = (numW e oa s.pg : Int) := IntWalk.i64_in _ (by omega)
          by_cases h3 : offW oa s.pg % (e : Int) = 0
          · have b3 : decide (offW oa s.pg % (e : Int) = 0) = true := decide_eq_true h3
            by_cases h4 : numW e oa s.pg < s.T.length
            · have b4 : decide (numW e oa s.pg < s.T.length) = true := decide_eq_true h4
              have b4' : decide ((numW e oa s.pg : Int) < (s.T.length : Int)) = true := decide_eq_true (by omega)
              obtain ⟨bt, hbt⟩ : ∃ bt, s.T[numW e oa s.pg]? = some bt := ⟨s.T[numW e oa s.pg], List.getElem?_eq_getElem h4⟩
              have ct := TB.out _ _ hbt
              have hW5 : hasS e (n, oa) s = bt := by rw [hW, b1', b2, b3, b4, hbt]; cases bt <;> rfl
              cases bt with
              | true =>
                obtain ⟨y1, y2⟩ := YES hW5
                have y3 := KW.out hW5
                rw [← y3] at y2
                clear y3
                clear hW NO YES KW qW hs hp hsl hbt qb HNOO HRES hsm
                generalize hdd : offW oa s.pg = d at *
                generalize numW e oa s.pg = q at *
                generalize d % (e : Int) = rr at *
                generalize s.T.length = l at *
                subst y1 y2
                go_wp2_with fail
                go_quiet (fail)
                go_wp2_with fail
                go_quiet (fail)
                go_wp2_with fail
                go_quiet (fail)
                go_wp2
                go_ret2
                exact ⟨rfl, (BW.out _ (by repeat (first | exact Below.refl _ _ | refine Below.drew ?_ | refine below_drewN ?_ _ | refine Below.trans ?_ (Below.mono (by assumption) (by first | omega | (simp; omega) | (simp; done))) | refine Below.alloc ?_ (by first | omega | (simp; omega) | (simp; done)) _ | refine Below.setCell ?_ (by first | omega | (simp; omega) | (simp; done)) _))).2.1⟩
              | false =>
                have HNO := Lib.hid (NO hW5)
                clear hW NO YES KW qW hbt qb HNOO HRES hsm
                generalize hdd : offW oa s.pg = d at *
                generalize numW e oa s.pg = q at *
                generalize d % (e : Int) = rr at *
                generalize s.T.length = l at *
                clear hs hp hsl
                go_wp2_with fail
                go_quiet (fail)
                go_wp2_with fail
                go_quiet (fail)
                go_wp2
                go_round
                case rel => exact ⟨i + 1, HNO.out, by go_num, BW.out _ (by repeat (first | exact Below.refl _ _ | refine Below.drew ?_ | refine below_drewN ?_ _ | refine Below.trans ?_ (Below.mono (by assumption) (by first | omega | (simp; omega) | (simp; done))) | refine Below.alloc ?_ (by first | omega | (simp; omega) | (simp; done)) _ | refine Below.setCell ?_ (by first | omega | (simp; omega) | (simp; done)) _))⟩
                case measure => simp [intOf]; omega
            · have b4 : decide (numW e oa s.pg < s.T.length) = false := decide_eq_false h4
              have b4' : decide ((numW e oa s.pg : Int) < (s.T.length : Int)) = false := decide_eq_false (by omega)
              have HNO := Lib.hid (NO (by rw [hW, b4]; simp))
              clear hW NO YES KW qW qb HNOO HRES hsm
              generalize hdd : offW oa s.pg = d at *
              generalize numW e oa s.pg = q at *
              generalize d % (e : Int) = rr at *
              generalize s.T.length = l at *
              clear hs hp hsl
              go_wp2_with fail
              go_quiet (fail)
              go_wp2_with fail
              go_quiet (fail)
              go_wp2
              go_round
              case rel => exact ⟨i + 1, HNO.out, by go_num, BW.out _ (by repeat (first | exact Below.refl _ _ | refine Below.drew ?_ | refine below_drewN ?_ _ | refine Below.trans ?_ (Below.mono (by assumption) (by first | omega | (simp; omega) | (simp; done))) | refine Below.alloc ?_ (by first | omega | (simp; omega) | (simp; done)) _ | refine Below.setCell ?_ (by first | omega | (simp; omega) | (simp; done)) _))⟩
              case measure => simp [intOf]; omega
          · have b3 : decide (offW oa s.pg % (e : Int) = 0) = false := decide_eq_false h3
            have b3' : (offW oa s.pg % (e : Int) == 0) = false := by simpa using h3
            have HNO := Lib.hid (NO (by rw [hW, b3]; simp))
            clear hW NO YES KW qW qb HNOO HRES hsm v1 qn' nb hwq
            generalize hdd : offW oa s.pg = d at *
            generalize d % (e : Int) = rr at *
            clear hs hp hsl
            go_wp2_with fail
            go_quiet (fail)
            go_wp2_with fail
            go_quiet (fail)
            go_wp2
            go_round
            case rel => exact ⟨i + 1, HNO.out, by go_num, BW.out _ (by repeat (first | exact Below.refl _ _ | refine Below.drew ?_ | refine below_drewN ?_ _ | refine Below.trans ?_ (Below.mono (by assumption) (by first | omega | (simp; omega) | (simp; done))) | refine Below.alloc ?_ (by first | omega | (simp; omega) | (simp; done)) _ | refine Below.setCell ?_ (by first | omega | (simp; omega) | (simp; done)) _))⟩
            case measure => simp [intOf]; omega
        · have b2 : decide (0 ≤ offW oa s.pg) = false := decide_eq_false h2
          have HNO := Lib.hid (NO (by rw [hW, b2]; simp))
          clear hW NO YES KW qW qb HNOO HRES hsm
          generalize hdd : offW oa s.pg = d at *
          clear hs hp hsl
          go_wp2_with fail
          go_quiet (fail)
          go_wp2_with fail
          go_quiet (fail)
          go_wp2
          go_round
          case rel => exact ⟨i + 1, HNO.out, by go_num, BW.out _ (by repeat (first | exact Below.refl _ _ | refine Below.drew ?_ | refine below_drewN ?_ _ | refine Below.trans ?_ (Below.mono (by assumption) (by first | omega | (simp; omega) | (simp; done))) | refine Below.alloc ?_ (by first | omega | (simp; omega) | (simp; done)) _ | refine Below.setCell ?_ (by first | omega | (simp; omega) | (simp; done)) _))⟩
          case measure => simp [intOf]; omega
      · have b1 : (s.nd == n) = false := by simp [h1]
        have b1' : decide (s.nd = n) = false := by simp [h1]
        have HNO := Lib.hid (NO (by rw [hW, b1']; simp))
        clear hW NO YES KW qW qb HNOO HRES hsm
        generalize hdd : offW oa s.pg = d at *
        clear hs hp hsl
        go_wp2_with fail
        go_quiet (fail)
        go_wp2_with fail
        go_quiet (fail)
        go_wp2
        go_round
        case rel => exact ⟨i + 1, HNO.out, by go_num, BW.out _ (by repeat (first | exact Below.refl _ _ | refine Below.drew ?_ | refine below_drewN ?_ _ | refine Below.trans ?_ (Below.mono (by assumption) (by first | omega | (simp; omega) | (simp; done))) | refine Below.alloc ?_ (by first | omega | (simp; omega) | (simp; done)) _ | refine Below.setCell ?_ (by first | omega | (simp; omega) | (simp; done)) _))⟩
        case measure => simp [intOf]; omega
    · have RS : res = .pointer none ∧ k = 0 := by
        rcases HRES.out with ⟨_, t1, t2⟩ | ⟨s', p', t1, _⟩
        · exact ⟨t1, t2⟩
        · have := (List.getElem?_eq_some_iff.1 t1).1
          have := EN.out; omega
      obtain ⟨rfl, rfl⟩ := RS
      obtain rfl : i = nn := by omega
      go_wp2
      go_ret2
      exact ⟨rfl, (BW.out _ (Below.refl _ _)).2.1⟩
theorem find_some (n oa : Int) (h : CS B w pc pz mn lw hi O e X vs A c) (hI : InvC e c) (o1 : -9223372036854775808 ≤ oa) (o2 : oa ≤ 9223372036854775807) {i : Nat} (hf : findS e (n, oa) c.C = some i) {s : Sl} {p : Nat × Nat} (hs : c.C[i]? = some s) (hp : A[i]? = some p) :
    Calls Tryz.prog 92 #[.pointer (some ⟨pc, 0, none⟩), .agg #[.int .i64 n, .int .i64 oa]] w fun r w' => r = .returned (.tuple #[.pointer (some ⟨p.1, 0, none⟩), .int .i64 (kOf e (n, oa) s)]) ∧ Below w.heap.size w w' := by
  obtain ⟨z, hz, hh, hn⟩ := findS_some hf
  rw [hs] at hz; obtain rfl := Option.some.inj hz
  exact find_walk n oa h hI o1 o2 i (Nat.le_of_lt (List.getElem?_eq_some_iff.1 hs).1) hn _ _ (.inr ⟨s, p, hs, hp, hh, rfl, rfl⟩)
theorem find_none (n oa : Int) (h : CS B w pc pz mn lw hi O e X vs A c) (hI : InvC e c) (o1 : -9223372036854775808 ≤ oa) (o2 : oa ≤ 9223372036854775807) (hf : findS e (n, oa) c.C = none) :
    Calls Tryz.prog 92 #[.pointer (some ⟨pc, 0, none⟩), .agg #[.int .i64 n, .int .i64 oa]] w fun r w' => r = .returned (.tuple #[.pointer none, .int .i64 (0 : Nat)]) ∧ Below w.heap.size w w' :=
  find_walk n oa h hI o1 o2 c.C.length (Nat.le_refl _) (fun j s _ hs => findS_none hf s (List.mem_of_getElem? hs)) _ _ (.inl ⟨rfl, rfl, rfl⟩)

set_option maxHeartbeats 2000000 in
theorem sgive_yes (n oa : Int) (h : CS B w pc pz mn lw hi O e X vs A c) (hI : InvC e c) (o1 : -9223372036854775808 ≤ oa) (o2 : oa ≤ 9223372036854775807) {i : Nat} (hf : findS e (n, oa) c.C = some i) :
    Calls Tryz.prog 39 #[.pointer (some ⟨pc, 0, none⟩), .agg #[.int .i64 n, .int .i64 oa]] w fun r w' => r = .returned .nilIface ∧ CS B w' pc pz mn lw hi O e X vs A (giveC e c (n, oa)).1 ∧ Keep (cay pc vs A) w w' := by
  obtain ⟨s, hs, hh, hn⟩ := findS_some hf
  have hg : (giveC e c (n, oa)).1 = ⟨c.L, c.C.set i (useS s (kOf e (n, oa) s) false)⟩ := by unfold giveC; rw [hf]; simp only [hs]
  rw [hg]
  obtain ⟨p, hp, _, _⟩ := h.ch.at hs
  have b0 : Below w.heap.size w (w.alloc (.cells #[.int .i64 n, .int .i64 oa] 72)) := (by repeat (first | exact Below.refl _ _ | refine Below.drew ?_ | refine below_drewN ?_ _ | refine Below.trans ?_ (Below.mono (by assumption) (by first | omega | (simp; omega) | (simp; done))) | refine Below.alloc ?_ (by first | omega | (simp; omega) | (simp; done)) _ | refine Below.setCell ?_ (by first | omega | (simp; omega) | (simp; done)) _))
  have FS := Lib.hid (find_some n oa (h.below b0) hI o1 o2 hf hs hp)
  obtain ⟨k, hk⟩ : ∃ k, k = kOf e (n, oa) s := ⟨_, rfl⟩
  have kt := ((hasS_iff hI.e1).1 hh).1
  rw [← hk] at FS kt ⊢
  have klt := (List.getElem?_eq_some_iff.1 kt).1
  have hl64 : s.T.length ≤ 64 := by rw [hI.len s (List.mem_of_getElem? hs)]; unfold roomE; exact Nat.div_le_self _ _
  have HB0 := Lib.hid b0
  have HH := Lib.hid h; have HP := Lib.hid hp; have HS := Lib.hid hs
  have hms : manyS s ≤ 64 := Nat.le_trans (manyT_le s.T) hl64
  have hm1 : 1 ≤ manyS s := manyT_pos kt
  have HMS : ((manyS (useS s k false) : Nat) : Int) = (manyS s : Int) - 1 := by
    have h0 := manyT_set kt false
    have h1 : manyS (useS s k false) = manyT (s.T.set k false) := rfl
    have h2 : manyS s = manyT s.T := rfl
    simp at h0
    omega
  have ne12 : ¬ (p.1 = p.2) := (h.slab hp).2.2
  have ne21 : ¬ (p.2 = p.1) := fun q => ne12 q.symm
  have HMS' := Lib.hid HMS
  have HKT := Lib.hid kt
  clear h hI hf hh hn hg hp hs b0 hk kt HMS
  go_enter Tryz.func39, Tryz.ntmps39
  go_wp2_with fail
  refine FS.out.mono ?_
  rintro r w1 ⟨rfl, hb1⟩
  have B1 := Lib.hid (HB0.out.trans (hb1.mono (by simp)))
  have SLB := (HH.out.below B1.out).ch.sl i p s HP.out HS.out
  obtain ⟨d0, d1, _, d3, d4, dl, dl2⟩ := SLB.cells
  have fz : w1.frozen? ⟨p.2, k, none⟩ = false := SLB.2.f k (by rw [bools_length]; omega)
  have fz4 : w1.frozen? ⟨p.1, 4, none⟩ = false := SLB.1.f 4 (by simp [slabCells])
  have ck : w1.cell? ⟨p.2, k, none⟩ = some (.bool true) := SLB.2.c k _ (bools_get HKT.out)
  have HSP := Lib.hid (SlabB.put (k := k) false SLB ne12 klt)
  rw [HMS'.out] at HSP
  clear SLB FS hb1
  go_wp2
  go_ret
  refine ⟨rfl, (HH.out.below B1.out).use HP.out HSP.out.1 HSP.out.2, (Keep.of B1.out).then (HSP.out.2.mono fun y hy => ?_)⟩
  have m := HH.out.slab HP.out
  simp at hy
  rcases hy with rfl | rfl
  · exact m.1
  · exact m.2.1
end
end Go.Proofs.YtcokmiidgdmdlaaGreatDoor
