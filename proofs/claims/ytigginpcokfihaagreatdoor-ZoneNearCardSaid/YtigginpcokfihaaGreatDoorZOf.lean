/- The law's ConfigOf by its contract: a copy of a config. -/
import Derived.Test.YtigginpcokfihaaGreatDoorZChk
import Derived.Deep.RegionLaw
import Derived.Deep.DrawnRows
namespace Go.Proofs.YtigginpcokfihaaGreatDoor
open Go.RowKit
set_option linter.unusedSimpArgs false
set_option linter.unusedVariables false

theorem elInt : El 22 3 (.int .i64 0) 8 := ⟨Tryz.underlying22, by kernel_rfl, rfl, by omega⟩
theorem elRow : El 23 22 (.slice none 0 0) 24 := ⟨Tryz.underlying23, by kernel_rfl, rfl, by omega⟩
/-- rows that have been collected so far -/
def RowsTo (X : List Nat) (w : World) (us : List Value) (N : List (List Int)) : Prop := ∀ (j : Nat) (u : Value) (xs : List Int), us[j]? = some u → N[j]? = some xs → RowV X w u (ints xs)

theorem row_step {v v2 : Value} {Z S : List Nat} {w w' : World} {u : Value} {us : List Value} (h : RowV (ownX v ++ Z) w u us) (K : Keep S w w') (hS : ∀ s ∈ S, s ∈ ownX v ++ Z ∨ w.heap.size ≤ s) (ho : ∀ y ∈ ownX v2, y ∈ ownX v ∨ w.heap.size ≤ y) : RowV (ownX v2 ++ Z) w' u us := by
  have h1 := h.more (Y := ownX v2 ++ (ownX v ++ Z)) (fun y hy => by
    rcases List.mem_append.1 hy with hy | hy
    · rcases ho y hy with r | r
      · exact .inl (List.mem_append_left _ r)
      · exact .inr r
    · exact .inl hy)
  refine (h1.keep K fun s hs => ?_).sub fun x hx => ?_
  · rcases hS s hs with r | r
    · exact .inl (List.mem_append_right _ r)
    · exact .inr r
  · rcases List.mem_append.1 hx with r | r
    · exact List.mem_append_left _ r
    · exact List.mem_append_right _ (List.mem_append_right _ r)
theorem rowsTo_snoc {v v2 : Value} {Z S : List Nat} {w w' : World} {us : List Value} {N : List (List Int)} (h : RowsTo (ownX v ++ Z) w us N) (K : Keep S w w') (hS : ∀ s ∈ S, s ∈ ownX v ++ Z ∨ w.heap.size ≤ s) (ho : ∀ y ∈ ownX v2, y ∈ ownX v ∨ w.heap.size ≤ y)
    {u : Value} {xs : List Int} (hx : N[us.length]? = some xs) (hu : RowV (ownX v2 ++ Z) w' u (ints xs)) : RowsTo (ownX v2 ++ Z) w' (us ++ [u]) N := by
  intro j u' xs' hj hxs
  by_cases e : j < us.length
  · rw [List.getElem?_append_left e] at hj
    exact row_step (h j u' xs' hj hxs) K hS ho
  · have hl := (List.getElem?_eq_some_iff.1 hj).1
    simp at hl
    have e2 : j = us.length := by omega
    subst e2
    rw [List.getElem?_append_right (Nat.le_refl _)] at hj
    simp at hj
    rw [hx] at hxs
    injection hxs with hxs
    subst hj hxs
    exact hu

set_option maxHeartbeats 4000000 in
set_option maxRecDepth 100000 in
theorem configOf_aux {X : List Nat} (vP vN : Value) (P : List Int) (N : List (List Int)) (mn lw hi : Int) (w : World) (h : Cfg [] w vP vN P N) (hX : ∀ x ∈ X, x < w.heap.size + 2) (hX1 : w.heap.size + 1 ∈ X) (hP : P.length ≤ 20) (hN : N.length ≤ 20) (hNN : ∀ (j : Nat) (xs : List Int), N[j]? = some xs → xs.length ≤ 20) :
    Calls Tryz.prog 9 #[.agg #[vP, vN, .int .i64 mn, .int .i64 lw, .int .i64 hi]] w fun e w' => ∃ vP' vN', e = .returned (.agg #[vP', vN', .int .i64 mn, .int .i64 lw, .int .i64 hi]) ∧ Cfg X w' vP' vN' P N ∧ Below w.heap.size w w' := by
  obtain ⟨p, cap, rfl, hcp, hmx, _⟩ := h.p.int
  obtain ⟨q, k, rfl, hck, hkm, hc⟩ := h.n.form
  have C := Lib.hid hc
  have SP := Lib.hid h.p
  unfold maxLen at hmx hkm
  have NN := Lib.hid hNN; have HX := Lib.hid hX
  obtain ⟨n, hn⟩ : ∃ n, n = N.length := ⟨_, rfl⟩
  obtain ⟨m, hm⟩ : ∃ m, m = P.length := ⟨_, rfl⟩
  rw [← hn] at hN hck
  rw [← hm] at hP SP hcp
  have HN := Lib.hid hn; have HM := Lib.hid hm
  have hm1 : (ints P).length = m := by rw [ints_length]; exact hm.symm
  have HM1 := Lib.hid hm1
  rw [← hn, ← hm]
  clear hc h hNN hn hm hm1 hX
  have L2 : LocN (((w.alloc (.cells [Value.slice p m cap, Value.slice q n k, .int .i64 mn, .int .i64 lw, .int .i64 hi].toArray 27)).alloc (.cells [Value.slice none 0 0, Value.slice none 0 0, .int .i64 0, .int .i64 0, .int .i64 0].toArray 36)).alloc (.cells [Value.slice none 0 0, Value.slice none 0 0, .int .i64 mn, .int .i64 lw, .int .i64 hi].toArray 36)) (w.heap.size + 2) [Value.slice none 0 0, Value.slice none 0 0, .int .i64 mn, .int .i64 lw, .int .i64 hi] := by
    have := LocN.new ((w.alloc (.cells [Value.slice p m cap, Value.slice q n k, .int .i64 mn, .int .i64 lw, .int .i64 hi].toArray 27)).alloc (.cells [Value.slice none 0 0, Value.slice none 0 0, .int .i64 0, .int .i64 0, .int .i64 0].toArray 36)) [Value.slice none 0 0, Value.slice none 0 0, .int .i64 mn, .int .i64 lw, .int .i64 hi] 36
    simpa using this
  have L1 : LocN (((w.alloc (.cells [Value.slice p m cap, Value.slice q n k, .int .i64 mn, .int .i64 lw, .int .i64 hi].toArray 27)).alloc (.cells [Value.slice none 0 0, Value.slice none 0 0, .int .i64 0, .int .i64 0, .int .i64 0].toArray 36)).alloc (.cells [Value.slice none 0 0, Value.slice none 0 0, .int .i64 mn, .int .i64 lw, .int .i64 hi].toArray 36)) (w.heap.size + 1) [Value.slice none 0 0, Value.slice none 0 0, .int .i64 0, .int .i64 0, .int .i64 0] := by
    have := (LocN.new (w.alloc (.cells [Value.slice p m cap, Value.slice q n k, .int .i64 mn, .int .i64 lw, .int .i64 hi].toArray 27)) [Value.slice none 0 0, Value.slice none 0 0, .int .i64 0, .int .i64 0, .int .i64 0] 36).go (w' := (((w.alloc (.cells [Value.slice p m cap, Value.slice q n k, .int .i64 mn, .int .i64 lw, .int .i64 hi].toArray 27)).alloc (.cells [Value.slice none 0 0, Value.slice none 0 0, .int .i64 0, .int .i64 0, .int .i64 0].toArray 36)).alloc (.cells [Value.slice none 0 0, Value.slice none 0 0, .int .i64 mn, .int .i64 lw, .int .i64 hi].toArray 36))) (by repeat (first | exact Below.refl _ _ | refine Below.drew ?_ | refine below_drewN ?_ _ | refine Below.trans ?_ (Below.mono (by assumption) (by first | omega | (simp; omega) | (simp; done))) | refine Below.alloc ?_ (by first | omega | (simp; omega) | (simp; done)) _ | refine Below.setCell ?_ (by first | omega | (simp; omega) | (simp; done)) _))
    simpa using this
  have L0 : LocN (((w.alloc (.cells [Value.slice p m cap, Value.slice q n k, .int .i64 mn, .int .i64 lw, .int .i64 hi].toArray 27)).alloc (.cells [Value.slice none 0 0, Value.slice none 0 0, .int .i64 0, .int .i64 0, .int .i64 0].toArray 36)).alloc (.cells [Value.slice none 0 0, Value.slice none 0 0, .int .i64 mn, .int .i64 lw, .int .i64 hi].toArray 36)) w.heap.size [Value.slice p m cap, Value.slice q n k, .int .i64 mn, .int .i64 lw, .int .i64 hi] := (LocN.new w [Value.slice p m cap, Value.slice q n k, .int .i64 mn, .int .i64 lw, .int .i64 hi] 27).go (w' := (((w.alloc (.cells [Value.slice p m cap, Value.slice q n k, .int .i64 mn, .int .i64 lw, .int .i64 hi].toArray 27)).alloc (.cells [Value.slice none 0 0, Value.slice none 0 0, .int .i64 0, .int .i64 0, .int .i64 0].toArray 36)).alloc (.cells [Value.slice none 0 0, Value.slice none 0 0, .int .i64 mn, .int .i64 lw, .int .i64 hi].toArray 36))) (by repeat (first | exact Below.refl _ _ | refine Below.drew ?_ | refine below_drewN ?_ _ | refine Below.trans ?_ (Below.mono (by assumption) (by first | omega | (simp; omega) | (simp; done))) | refine Below.alloc ?_ (by first | omega | (simp; omega) | (simp; done)) _ | refine Below.setCell ?_ (by first | omega | (simp; omega) | (simp; done)) _))
  have K0 : Below w.heap.size w (((w.alloc (.cells [Value.slice p m cap, Value.slice q n k, .int .i64 mn, .int .i64 lw, .int .i64 hi].toArray 27)).alloc (.cells [Value.slice none 0 0, Value.slice none 0 0, .int .i64 0, .int .i64 0, .int .i64 0].toArray 36)).alloc (.cells [Value.slice none 0 0, Value.slice none 0 0, .int .i64 mn, .int .i64 lw, .int .i64 hi].toArray 36)) := (by repeat (first | exact Below.refl _ _ | refine Below.drew ?_ | refine below_drewN ?_ _ | refine Below.trans ?_ (Below.mono (by assumption) (by first | omega | (simp; omega) | (simp; done))) | refine Below.alloc ?_ (by first | omega | (simp; omega) | (simp; done)) _ | refine Below.setCell ?_ (by first | omega | (simp; omega) | (simp; done)) _))
  have LL0 := Lib.hid L0; have LL1 := Lib.hid L1; have LL2 := Lib.hid L2
  clear L0 L1 L2
  go_enter Tryz.func9, Tryz.ntmps9
  go_wp2_with (first | (at_builtin; refine wpList_app1 (base := w.heap.size + 3) (v := .slice none 0 0) (us := []) (ms := ints P) (p := p) elInt rfl (.tmp 10) (.tmp 12) (by rfl) (by rfl) m (by rfl) HM1.out (World.ownsRow_nil _ _ _ _) (SP.out.below K0).src (ints_one _) (by rw [HM1.out]; simp; omega) (by simp) ?_; intro q1 k1 w1 hown1 hg1 ho1; have hb1 : Below (w.heap.size + 3) (((w.alloc (.cells [Value.slice p m cap, Value.slice q n k, .int .i64 mn, .int .i64 lw, .int .i64 hi].toArray 27)).alloc (.cells [Value.slice none 0 0, Value.slice none 0 0, .int .i64 0, .int .i64 0, .int .i64 0].toArray 36)).alloc (.cells [Value.slice none 0 0, Value.slice none 0 0, .int .i64 mn, .int .i64 lw, .int .i64 hi].toArray 36)) w1 := (Below.refl _ _).grown hg1 (by simp) (fun r hr => by simp [Value.ownBlock] at hr); have s2 := (LL2.out.below hb1 (by omega)).c 0 _ rfl; have s3 := (LL2.out.below hb1 (by omega)).f 0 (by simp); have sl := (LL2.out.below hb1 (by omega)).lt))
  obtain ⟨w2, hw2⟩ : ∃ w2, w2 = w1.setCell ⟨w.heap.size + 2, 0, none⟩ (.slice q1 (ints P).length k1) := ⟨_, rfl⟩
  rw [← hw2]
  have ks : Keep [w.heap.size + 2] w1 w2 := by rw [hw2]; exact (Keep.refl _ _).setCell (.inl (by simp)) _
  have hbx : Below w.heap.size w w2 := by rw [hw2]; exact (K0.trans (hb1.mono (by omega))).setCell (by simp) _
  have X2 : Hid (LocN w2 (w.heap.size + 2) [.slice q1 m k1, .slice none 0 0, .int .i64 mn, .int .i64 lw, .int .i64 hi]) := by
    have := (LL2.out.below hb1 (by omega)).store 0 (.slice q1 m k1) (by simp)
    rw [hw2, HM1.out]; exact this
  have X1 : Hid (LocN w2 (w.heap.size + 1) [.slice none 0 0, .slice none 0 0, .int .i64 0, .int .i64 0, .int .i64 0]) := (LL1.out.below hb1 (by omega)).keep ks (by simp)
  have X0 : Hid (LocN w2 w.heap.size [.slice p m cap, .slice q n k, .int .i64 mn, .int .i64 lw, .int .i64 hi]) := (LL0.out.below hb1 (by omega)).keep ks (by simp)
  have RP : Hid (RowV (ownX (.slice none 0 0) ++ (w.heap.size + 2) :: X) w2 (.slice q1 m k1) (ints P)) := by
    have ho : w1.ownsRow (w.heap.size + 3) 3 1 (.slice q1 m k1) (ints P).length (ints P) := by have := hown1; simp only [List.nil_append, HM1.out] at this ⊢; exact this
    have := own_rowV (X := ownX (.slice none 0 0) ++ (w.heap.size + 2) :: X) ho (fun x hx g hg => by
      have := (ho.lt g hg).1
      simp [ownX, Value.ownBlock] at hx
      rcases hx with rfl | hx
      · omega
      · have := HX.out x hx; omega)
    exact this.keep ks (fun s hs => .inl (by simp at hs; simp [hs]))
  have z2 := hbx.size
  have z3 : w.heap.size + 2 < w2.heap.size := X2.out.lt
  clear hw2 ks hown1 hg1 ho1 hb1 s2 s3 sl LL0 LL1 LL2 K0
  rw [HM1.out]
  go_loopw [4] (fun iv wr => ∃ (i : Nat) (us : List Value) (qN : Option Addr) (kN : Nat), i ≤ n ∧ iv = .int .i64 i ∧ us.length = i ∧ Hid (LocN wr (w.heap.size + 2) [.slice q1 m k1, .slice qN i kN, .int .i64 mn, .int .i64 lw, .int .i64 hi]) ∧ Hid (LocN wr (w.heap.size + 1) [.slice none 0 0, .slice none 0 0, .int .i64 0, .int .i64 0, .int .i64 0]) ∧ Hid (LocN wr w.heap.size [.slice p m cap, .slice q n k, .int .i64 mn, .int .i64 lw, .int .i64 hi]) ∧ Hid (wr.ownsRow (w.heap.size + 3) 22 1 (.slice qN i kN) i us) ∧ Hid (RowsTo (ownX (.slice qN i kN) ++ (w.heap.size + 2) :: X) wr us N) ∧ Hid (RowV (ownX (.slice qN i kN) ++ (w.heap.size + 2) :: X) wr (.slice q1 m k1) (ints P)) ∧ Below w.heap.size w wr) (fun iv _ => n - (intOf iv).toNat)
  case atStart => exact ⟨0, [], none, 0, Nat.zero_le _, by go_num, rfl, X2, X1, X0, World.ownsRow_nil _ _ _ _, (fun j u xs hj => by simp at hj), RP, hbx⟩
  case round =>
    obtain ⟨i, us, qN, kN, hiN, rfl, hus, Y2, Y1, Y0, OW, RT, RPr, hbel⟩ := hrel
    clear X2 X1 X0 RP
    have zr := hbel.size
    have z4 : w.heap.size + 2 < wr.heap.size := Y2.out.lt
    have y0 := Y0.out.c 1 _ rfl; have yl := Y0.out.lt
    have y1 := Y2.out.c 1 _ rfl; have yf := Y2.out.f 1 (by simp)
    by_cases hin : i < n
    · obtain ⟨xs, hx⟩ : ∃ x, N[i]? = some x := ⟨N[i]'(by rw [← HN.out]; exact hin), List.getElem?_eq_getElem _⟩
      obtain ⟨g, off, u, rfl, _, hg, hc, hu⟩ := C.out i xs hx
      have r1 := (hbel.cell (p := ⟨g, off + i, none⟩) hg).trans hc
      have gr : g < wr.heap.size := by omega
      have hlx := NN.out i xs hx
      obtain ⟨pu, ku, rfl, hk1, hk2, _⟩ := hu.int
      have SU := Lib.hid (hu.below (hbel.drew))
      have HX1 := Lib.hid hx
      clear hc hu hx
      have OWK : Hid (∀ (w1 : World) (o : Obj), Below wr.heap.size wr w1 → (w1.alloc o).ownsRow (w.heap.size + 3) 22 1 (.slice qN i kN) us.length us) := fun w1 o hb => by
        rw [hus]
        exact own_keep OW.out ((Keep.of (S := []) hb).alloc o) (fun x hx => by cases hx)
      have HST : Hid (∀ (w1 w2 : World) (o : Obj), Below wr.heap.size wr w1 → (w1.alloc o).grownBy w2 (Value.slice qN i kN).ownBlock → LocN w2 (w.heap.size + 2) [.slice q1 m k1, .slice qN i kN, .int .i64 mn, .int .i64 lw, .int .i64 hi]) := fun w1 w2 o hb hg => by
        refine (Y2.out.keep ((Keep.of (S := []) hb).alloc o) (by simp)).keep (app_keep hg) (fun hq => ?_)
        have := ownX_ge OW.out hq
        omega
      have hii : us.length = i := hus
      have HUS := Lib.hid hus
      clear hus hii
      go_wp2_with fail
      go_region_law (first
        | (refine step_app1 (base := wr.heap.size) (v := .slice none 0 0) (us := []) (ms := ints xs) (p := pu) elInt (by rfl) (.tmp 24) (.tmp 29) (by rfl) (by rfl) _ (by rfl) (ints_length xs) (World.ownsRow_nil _ _ _ _) SU.out.src (ints_one _) (by rw [ints_length]; simp; omega) (by simp) ?_; intro qa ka w3 hown3 hg3 ho3; have hb3 : Below wr.heap.size wr w3 := ((Below.refl _ _).drew).grown hg3 (by simp) (fun r hr => by simp [Value.ownBlock] at hr); have t1 := (Y2.out.go hb3).c 1 _ rfl; have t2 := (Y2.out.go hb3).lt)
        | (refine step_app1 (base := w.heap.size + 3) (v := .slice qN i kN) (us := us) (p := some ⟨w3.heap.size, 0, none⟩) elRow (by rfl) (.tmp 23) (.tmp 31) (by rfl) (by rfl) 1 (by rfl) rfl (OWK.out w3 _ hb3) (srcV_one _ _ _) (by intro x hx; simp at hx; subst hx; rfl) (by rw [HUS.out]; simp; omega) (by have := hb3.size; simp; omega) ?_; intro qb kb w4 hown4 hg4 ho4; have X4 := HST.out w3 w4 _ hb3 hg4; have s1 := X4.c 1 _ rfl; have s2 := X4.f 1 (by simp); have s3 := X4.lt))
      all_goals
        obtain ⟨w5, hw5⟩ : ∃ w5, w5 = w4.setCell ⟨w.heap.size + 1 + 1, 1, none⟩ (.slice qb (us.length + 1) kb) := ⟨_, rfl⟩
        rw [← hw5]
        have hlen : (us ++ [Value.slice qa (ints xs).length ka]).length = us.length + 1 := by simp
        rw [hlen] at hown4 ho4
        have k34 : Keep (ownX (.slice qN i kN)) w3 w4 := ((Keep.refl (ownX (.slice qN i kN)) w3).alloc _).then (app_keep hg4)
        have k35 : Keep ((w.heap.size + 2) :: ownX (.slice qN i kN)) w3 w5 := by rw [hw5]; exact (k34.mono (fun s hs => List.mem_cons_of_mem _ hs)).setCell (.inl (by simp)) _
        have kr5 : Keep ((w.heap.size + 2) :: ownX (.slice qN i kN)) wr w5 := (Keep.of hb3).then k35
        have oge : ∀ g ∈ ownX (.slice qN i kN), w.heap.size + 3 ≤ g := fun g hg => (ownX_ge OW.out hg).1
        have Z2 : Hid (LocN w5 (w.heap.size + 2) [.slice q1 m k1, .slice qb (us.length + 1) kb, .int .i64 mn, .int .i64 lw, .int .i64 hi]) := by
          rw [hw5]; exact X4.store 1 _ (by simp)
        have Z1 : Hid (LocN w5 (w.heap.size + 1) _) := Y1.out.keep kr5 (fun q => by simp at q; have := oge _ q; omega)
        have Z0 : Hid (LocN w5 w.heap.size _) := Y0.out.keep kr5 (fun q => by simp at q; have := oge _ q; omega)
        have o5 : Hid (w5.ownsRow (w.heap.size + 3) 22 1 (.slice qb (us.length + 1) kb) (us.length + 1) (us ++ [.slice qa (ints xs).length ka])) := own_keep hown4 (show Keep [w.heap.size + 2] w4 w5 by rw [hw5]; exact (Keep.refl _ _).setCell (.inl (by simp)) _) (fun x hx q => by
          simp at hx; subst hx
          have := ownX_ge hown4 q; omega)
        have ho : ∀ y ∈ ownX (.slice qb (us.length + 1) kb), y ∈ ownX (.slice qN i kN) ∨ wr.heap.size ≤ y := fun y hy => by
          rcases app_own ho4 y hy with r | r
          · exact .inl r
          · have := hb3.size; simp at r; exact .inr (by omega)
        have hS : ∀ s ∈ ((w.heap.size + 2) :: ownX (.slice qN i kN)), s ∈ ownX (.slice qN i kN) ++ (w.heap.size + 2) :: X ∨ wr.heap.size ≤ s := fun s hs => by
          simp at hs
          rcases hs with rfl | hs
          · exact .inl (by simp)
          · exact .inl (List.mem_append_left _ hs)
        have own3 : w3.ownsRow wr.heap.size 3 1 (.slice qa (ints xs).length ka) (ints xs).length (ints xs) := by simpa using hown3
        have new3 : RowV (ownX (.slice qN i kN) ++ (w.heap.size + 2) :: X) w3 (.slice qa (ints xs).length ka) (ints xs) := own_rowV own3 (fun x hx g hg => by
          have h1 := (own3.lt g hg).1
          rcases List.mem_append.1 hx with hx | hx
          · have := (ownX_ge OW.out hx).2; omega
          · simp at hx
            rcases hx with rfl | hx
            · omega
            · have := HX.out x hx; omega)
        have hu5 : RowV (ownX (.slice qb (us.length + 1) kb) ++ (w.heap.size + 2) :: X) w5 (.slice qa (ints xs).length ka) (ints xs) := row_step new3 k35 (fun s hs => (hS s hs).imp id (fun r => by
            exfalso
            simp at hs
            rcases hs with rfl | hs
            · omega
            · have := (ownX_ge OW.out hs).2; omega)) (fun y hy => by
          rcases app_own ho4 y hy with r | r
          · exact .inl r
          · simp at r; exact .inr (by omega))
        have RT5 : Hid (RowsTo (ownX (.slice qb (us.length + 1) kb) ++ (w.heap.size + 2) :: X) w5 (us ++ [.slice qa (ints xs).length ka]) N) := rowsTo_snoc RT.out kr5 hS ho (by rw [HUS.out]; exact HX1.out) hu5
        have RP5 : Hid (RowV (ownX (.slice qb (us.length + 1) kb) ++ (w.heap.size + 2) :: X) w5 (.slice q1 m k1) (ints P)) := row_step RPr.out kr5 hS ho
        have K5 : Below w.heap.size w w5 := hbel.trans (kr5.below zr (fun s hs => by simp at hs; rcases hs with rfl | hs; (· omega); (· have := oge _ hs; omega)))
        have HL := Lib.hid hlen
        have hui := HUS.out
        rw [hui] at Z2 o5 RT5 RP5 ⊢
        clear hlen k34 k35 kr5 oge own3 new3 hu5 hS ho hown3 hown4 hg3 hg4 ho3 ho4 hb3 X4 s1 s2 s3 t1 t2 y0 y1 yf hw5 hui Y2 Y1 Y0 OW RT RPr
        go_wp2
        go_roundw
        case rel => exact ⟨i + 1, us ++ [.slice qa (ints xs).length ka], qb, kb, by omega, by go_num, by rw [HL.out, HUS.out], Z2, Z1, Z0, o5, RT5, RP5, K5⟩
        case measure => simp [intOf]; omega
    · have ei : i = n := by omega
      have cf : Hid (Cfg X wr (.slice q1 m k1) (.slice qN i kN) P N) := by
        refine ⟨RPr.out.sub (fun x hx => by simp [hx]), us, by rw [hus, ei, HN.out], ?_, fun j u xs hu hx => (RT.out j u xs hu hx).sub (fun x hx => by simp [hx])⟩
        have ow : wr.ownsRow (w.heap.size + 3) 22 1 (.slice qN i kN) us.length us := by rw [hus]; exact OW.out
        exact own_rowV ow (fun x hx g hg => by
          have := (ow.lt g hg).1
          have := HX.out x hx; omega)
      have a0 := Y2.out.c 0 _ rfl; have a2 := Y2.out.c 2 _ rfl; have a3 := Y2.out.c 3 _ rfl; have a4 := Y2.out.c 4 _ rfl
      have b0 := Y1.out.c 0 _ rfl; have b1 := Y1.out.c 1 _ rfl; have b2 := Y1.out.c 2 _ rfl; have b3 := Y1.out.c 3 _ rfl; have b4 := Y1.out.c 4 _ rfl
      have c0 := Y1.out.f 0 (by simp); have c1 := Y1.out.f 1 (by simp); have c2 := Y1.out.f 2 (by simp); have c3 := Y1.out.f 3 (by simp); have c4 := Y1.out.f 4 (by simp)
      obtain ⟨w6, hw6⟩ : ∃ w6, w6 = ((((wr.setCell ⟨w.heap.size + 1, 0, none⟩ (.slice q1 m k1)).setCell ⟨w.heap.size + 1, 1, none⟩ (.slice qN i kN)).setCell ⟨w.heap.size + 1, 2, none⟩ (.int .i64 mn)).setCell ⟨w.heap.size + 1, 3, none⟩ (.int .i64 lw)).setCell ⟨w.heap.size + 1, 4, none⟩ (.int .i64 hi) := ⟨_, rfl⟩
      have Y6 : Hid (LocN w6 (w.heap.size + 1) [.slice q1 m k1, .slice qN i kN, .int .i64 mn, .int .i64 lw, .int .i64 hi]) := by
        rw [hw6]
        exact ((((Y1.out.store 0 (.slice q1 m k1) (by simp)).store 1 (.slice qN i kN) (by simp)).store 2 (.int .i64 mn) (by simp)).store 3 (.int .i64 lw) (by simp)).store 4 (.int .i64 hi) (by simp)
      have k6 : Hid (Below w.heap.size w w6) := by rw [hw6]; exact ((((hbel.setCell (by simp) _).setCell (by simp) _).setCell (by simp) _).setCell (by simp) _).setCell (by simp) _
      have cf6 : Hid (Cfg X w6 (.slice q1 m k1) (.slice qN i kN) P N) := by
        have kk : Keep [w.heap.size + 1] wr w6 := by rw [hw6]; exact (((((Keep.refl _ _).setCell (.inl (by simp)) _).setCell (.inl (by simp)) _).setCell (.inl (by simp)) _).setCell (.inl (by simp)) _).setCell (.inl (by simp)) _
        exact cf.out.keep kk (fun s hs => .inl (by simp at hs; rw [hs]; exact hX1))
      have H6 := Lib.hid hw6
      clear RT RPr OW ei hw6
      go_wp2
      rw [← H6.out]
      have d0 := Y6.out.c 0 _ rfl; have d1 := Y6.out.c 1 _ rfl; have d2 := Y6.out.c 2 _ rfl; have d3 := Y6.out.c 3 _ rfl; have d4 := Y6.out.c 4 _ rfl
      exact bodyPost_ret (v := .agg #[.slice q1 m k1, .slice qN i kN, .int .i64 mn, .int .i64 lw, .int .i64 hi]) (by simp [d0, d1, d2, d3, d4, results, Tryz.results9, go_sem]) rfl ⟨_, _, rfl, cf6.out, k6.out⟩
theorem configOf_ok {X : List Nat} (vP vN : Value) (P : List Int) (N : List (List Int)) (mn lw hi : Int) (w : World) (h : Cfg [] w vP vN P N) (hX : ∀ x ∈ X, x < w.heap.size) (hP : P.length ≤ 20) (hN : N.length ≤ 20) (hNN : ∀ (j : Nat) (xs : List Int), N[j]? = some xs → xs.length ≤ 20) :
    Calls Tryz.prog 9 #[.agg #[vP, vN, .int .i64 mn, .int .i64 lw, .int .i64 hi]] w fun e w' => ∃ vP' vN', e = .returned (.agg #[vP', vN', .int .i64 mn, .int .i64 lw, .int .i64 hi]) ∧ Cfg X w' vP' vN' P N ∧ Below w.heap.size w w' :=
  (configOf_aux (X := (w.heap.size + 1) :: X) vP vN P N mn lw hi w h (fun x hx => by simp at hx; rcases hx with rfl | hx; (· omega); (· have := hX x hx; omega)) (by simp) hP hN hNN).mono fun e w' ⟨a, b, h1, h2, h3⟩ => ⟨a, b, h1, ⟨h2.p.sub fun x hx => by simp [hx], by
    obtain ⟨us, u1, u2, u3⟩ := h2.n
    exact ⟨us, u1, u2.sub fun x hx => by simp [hx], fun j u xs q1 q2 => (u3 j u xs q1 q2).sub fun x hx => by simp [hx]⟩⟩, h3⟩
end Go.Proofs.YtigginpcokfihaaGreatDoor
