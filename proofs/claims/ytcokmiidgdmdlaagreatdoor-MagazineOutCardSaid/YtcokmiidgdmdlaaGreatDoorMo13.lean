/- Lemmas and contracts for the claim's last text: SAp, DTakeA, DLie. -/
import Derived.Test.YtcokmiidgdmdlaaGreatDoorMo11
import Derived.Test.YtcokmiidgdmdlaaGreatDoorMo12
namespace Go.Proofs.YtcokmiidgdmdlaaGreatDoor
open Go.RowKit Go.Maps
set_option linter.unusedSimpArgs false
set_option linter.unusedVariables false

theorem obs_len_le (e : Nat) (C : List Sl) : (obsC e C).length = takenN C := by
  unfold obsC takenN
  rw [List.length_flatMap]
  congr 1
  refine List.map_congr_left fun s _ => ?_
  unfold obsS manyS manyT
  rw [List.length_filterMap_eq_countP]
  have key : ∀ T : List Bool, (List.range T.length).countP (fun k => (if T[k]? = some true then some (obOf e s k) else none).isSome) = T.countP id := by
    intro T
    induction T with
    | nil => rfl
    | cons b T ih =>
      rw [List.length_cons, List.range_succ_eq_map, List.countP_cons, List.countP_map]
      have e2 : (List.range T.length).countP ((fun k => (if (b :: T)[k]? = some true then some (obOf e s k) else none).isSome) ∘ Nat.succ) = (List.range T.length).countP (fun k => (if T[k]? = some true then some (obOf e s k) else none).isSome) := by
        refine List.countP_congr fun k _ => ?_
        simp only [Function.comp, List.getElem?_cons_succ, Nat.succ_eq_add_one]
        by_cases q : T[k]? = some true <;> simp [q]
      rw [e2, ih]
      cases b <;> simp
  exact key s.T
theorem obs_few {e : Nat} {c : Ca} (h : InvC e c) : (obsC e c.C).length ≤ 65536 := by
  rw [obs_len_le]
  obtain ⟨h1, h2⟩ := roomN_le (C := c.C) fun s hs => by rw [h.len s hs]; unfold roomE; exact Nat.div_le_self _ _
  have := h.few
  omega

/-- a cache that acts are done on -/
structure ApS (B : Nat) (w0 : World) (pc pz : Nat) (mn lw hi : Int) (O : List (List Int)) (e : Nat) (L : List Nd) (X : List Nat) (v : Value) (A : SA) (c : Ca) (w : World) : Prop where
  cs : CS B w pc pz mn lw hi O e X v A c
  inv : InvC e c
  only : OnlyP c
  same : SameZ L c.L
  bel : Below B w0 w
section
variable {B : Nat} {ev : Nat → Addr} {w0 w w' : World} {pc pz e : Nat} {mn lw hi : Int} {O : List (List Int)} {L : List Nd} {X : List Nat} {v : Value} {A : SA} {c : Ca}
end
end Go.Proofs.YtcokmiidgdmdlaaGreatDoor

namespace Go.Proofs.YtcokmiidgdmdlaaGreatDoor
open Go.RowKit Go.Maps
set_option linter.unusedSimpArgs false
set_option linter.unusedVariables false
attribute [local go_sem ↓] Go.wp_at_zero Go.wp_at_succ

section
variable {X Y S F : List Nat} {B : Nat} {ev : Nat → Addr} {w w' : World} {pd pc pz gh e : Nat} {mn lw hi : Int} {O : List (List Int)} {v vp vp' : Value} {A : SA} {V : HV} {U U' : List Value} {d : De} {c : Ca} {P' : List (List Ob)}
theorem handD_of {k : Nat} {g : Hd} (h : d.H[k]? = some g) : handD d k = some g := by
  unfold handD
  rw [if_neg (by omega), Int.toNat_natCast, h]
set_option maxHeartbeats 2000000 in
set_option maxRecDepth 100000 in
theorem dtake_A (k : Nat) (n : Int) (u : Bool) (h : CD B w X pd pc pz gh mn lw hi O e v A V vp U d) (hF : Hid (∀ f ∈ F, f ∈ X ∧ f ∉ xd pc v A d.c.L pd gh vp)) (hI : InvD e d) {l r : List Ob} {o : Ob} (hk : d.H[k]? = some (l ++ [o], r)) :
    Calls Tryz.prog 33 #[.pointer (some ⟨pd, 0, none⟩), .int .i64 k, .int .i64 n, .bool u] w (DtkPost B ev pd pc pz gh mn lw hi O e X F w (takeD mn O e d k n u)) := by
  have hkl := (List.getElem?_eq_some_iff.1 hk).1
  have hl4 := (hI.h4 _ (List.mem_of_getElem? hk)).1
  have ld : loadD (l ++ [o], r) d.P = ((l ++ [o], r), d.P) := by unfold loadD; rw [if_neg (by simp)]
  have et : takeD mn O e d k n u = (⟨d.c, d.H.set k (l, r), d.P⟩, 0, o) := by
    rw [takeD_pop (handD_of hk) (o := o) (by rw [ld]; simp), ld]
    simp
  rw [et]
  have b1 : Below w.heap.size w (w.alloc (.cells #[.int .i64 0, .int .i64 0] 72)) := (by repeat (first | exact Below.refl _ _ | refine Below.drew ?_ | refine below_drewN ?_ _ | refine Below.trans ?_ (Below.mono (by assumption) (by first | omega | (simp; omega) | (simp; done))) | refine Below.alloc ?_ (by first | omega | (simp; omega) | (simp; done)) _ | refine Below.setCell ?_ (by first | omega | (simp; omega) | (simp; done)) _))
  have L1 := Lib.hid (show LocN (w.alloc (.cells #[.int .i64 0, .int .i64 0] 72)) w.heap.size [.int .i64 0, .int .i64 0] from LocN.mk_ w [.int .i64 0, .int .i64 0] 72 rfl)
  obtain ⟨W1, hW1⟩ : ∃ W1, W1 = w.alloc (.cells #[.int .i64 0, .int .i64 0] 72) := ⟨_, rfl⟩
  have h1 := h.below b1
  rw [← hW1] at b1 L1 h1
  have s1 : W1.heap.size = w.heap.size + 1 := by rw [hW1]; simp
  obtain ⟨p, hp, o1, o2, g0, g1, f0, f1, gl⟩ := h1.hand hk
  obtain ⟨⟨pa, pb⟩, rfl⟩ : ∃ q, q = p := ⟨_, rfl⟩
  obtain ⟨q, cap, e1, cp1, cp2⟩ := o1.isSlice
  obtain ⟨q2, cap2, e2, _, _⟩ := o2.isSlice
  simp only at e1 e2 g0 g1 hp
  subst e1 e2
  obtain ⟨og, off, rfl, _, ogl, t0, t1⟩ := RowO.at (by simpa using o1) (j := l.length) (o := o) (by simp)
  obtain ⟨qp, kp, evp⟩ : ∃ qp kp, vp = .slice qp d.P.length kp := by
    rcases h1.de.row.2 with ⟨a1, a2⟩ | ⟨_, cap', _, a1, _⟩
    · exact ⟨none, 0, by rw [a1, a2]⟩
    · exact ⟨_, cap', a1⟩
  have c0 := h1.de.d.c 0 _ rfl; have c1 := h1.de.d.c 1 _ rfl; have c2 := h1.de.d.c 2 _ rfl; have cl := h1.de.d.lt
  rw [evp] at c2
  have pl : d.P.length ≤ 65536 := by
    have hh := (held_len hI).1
    have h2 := obs_few hI.c
    omega
  have e3 : (l ++ [o]).length = l.length + 1 := by simp
  rw [e3] at g0 hl4 cp1
  obtain ⟨m, hm⟩ : ∃ m, m = l.length := ⟨_, rfl⟩
  rw [← hm] at g0 t0 t1 hl4 cp1
  have HD := Lib.hid (dhand_ok h1 k hkl)
  have hw1 : IntKind.i64.wrap (((m + 1 : Nat) : Int) - 1) = (m : Int) := by rw [IntWalk.i64_in _ (by omega)]; omega
  have hw2 : IntKind.i64.wrap ((d.P.length : Int) - 1) = (d.P.length : Int) - 1 := IntWalk.i64_in _ (by omega)
  have d1 : decide ((m + 1 : Nat) = 0) = false := by simp
  have d2 : decide ((m : Int) < 0) = false := decide_eq_false (by omega)
  have rg : ¬ (w.heap.size = gh) := fun q => by have := (h.de.lim gh h.gh_mem).2; omega
  have gr : ¬ (gh = w.heap.size) := fun q => rg q.symm
  obtain ⟨p', hp', o1', o2', _⟩ := h.hand hk
  rw [hp] at hp'
  obtain rfl := Option.some.inj hp'
  have ro1 : RowO X w (.slice (some ⟨og, off, none⟩) m cap) l := by
    obtain ⟨q', cap', e4, e5⟩ := o1'.cut m (by rw [hm]; simp)
    simp only at e4
    injection e4 with e6 _ e7
    subst e6 e7
    simpa [hm] using e5
  have HFIN : Hid (∀ W, Keep [gh] w W → LocN W gh (handL (V.set k (.slice (some ⟨og, off, none⟩) m cap, .slice q2 r.length cap2))) → DtkPost B ev pd pc pz gh mn lw hi O e X F w (⟨d.c, d.H.set k (l, r), d.P⟩, 0, o) (.returned (.tuple #[.agg #[.int .i64 o.1, .int .i64 o.2], .nilIface])) W) := fun W kk hg =>
    ⟨rfl, X, ⟨_, _, _, _, _, h.setHand k (p' := (.slice (some ⟨og, off, none⟩) m cap, .slice q2 r.length cap2)) (h' := (l, r)) hkl ro1 o2' kk hg, hF.out⟩, kk.mono (fun s q => by simp at q; subst q; exact h.offy hF.out h.gh_mem), fun _ q => .inl q, fun _ q => q⟩
  have HLOC := Lib.hid (h1.loc1 hp hkl (.slice (some ⟨og, off, none⟩) m cap))
  have HLB := Lib.hid (fun (x : Obj) => (h1.below (w' := W1.alloc x) (by repeat (first | exact Below.refl _ _ | refine Below.drew ?_ | refine below_drewN ?_ _ | refine Below.trans ?_ (Below.mono (by assumption) (by first | omega | (simp; omega) | (simp; done))) | refine Below.alloc ?_ (by first | omega | (simp; omega) | (simp; done)) _ | refine Below.setCell ?_ (by first | omega | (simp; omega) | (simp; done)) _))).loc1 hp hkl (.slice (some ⟨og, off, none⟩) m cap))
  have HB1 := Lib.hid b1; have HS1 := Lib.hid s1
  have rl : w.heap.size < W1.heap.size := by omega
  have LL := L1.out
  have v0 := LL.c 0 _ rfl; have v1 := LL.c 1 _ rfl; have vf0 := LL.f 0 (by simp); have vf1 := LL.f 1 (by simp)
  clear h h1 hI hk hp o1 o2 o1' o2' ro1 e3 hm ld et b1 s1 evp hp'
  go_enter Tryz.func33, Tryz.ntmps33
  go_wp2_with fail
  rw [← hW1]
  clear hW1
  refine HD.out.mono ?_
  rintro r' w1 ⟨rfl, rfl⟩
  go_wp2
  have M := Lib.hid ((((L1.out.far (c := gh) gr (k * 2) (.slice (some ⟨og, off, none⟩) m cap)).store2 (.int .i64 o.1) (.int .i64 o.2))).past (.cells #[.int .i64 o.1, .int .i64 o.2] 72))
  have x0 := M.out.c 0 _ rfl; have x1 := M.out.c 1 _ rfl
  refine bodyPost_ret (v := .tuple #[.agg #[.int .i64 o.1, .int .i64 o.2], .nilIface]) (by simp [x0, x1, results, Tryz.results33, go_sem]) rfl (HFIN.out _ ?_ ?_)
  · exact (((((Keep.of HB1.out).setCell (p := ⟨gh, k * 2, none⟩) (.inl (by simp)) _).setCell (p := ⟨w.heap.size, 0, none⟩) (.inr (Nat.le_refl _)) _).setCell (p := ⟨w.heap.size, 1, none⟩) (.inr (Nat.le_refl _)) _).alloc _)
  · exact ((HLOC.out.far rg 0 _).far rg 1 _).past _
set_option maxHeartbeats 2000000 in
set_option maxRecDepth 100000 in
theorem dtake_B (k : Nat) (n : Int) (u : Bool) (h : CD B w X pd pc pz gh mn lw hi O e v A V vp U d) (hF : Hid (∀ f ∈ F, f ∈ X ∧ f ∉ xd pc v A d.c.L pd gh vp)) (hI : InvD e d) {l : List Ob} {o : Ob} (hk : d.H[k]? = some ([], l ++ [o])) :
    Calls Tryz.prog 33 #[.pointer (some ⟨pd, 0, none⟩), .int .i64 k, .int .i64 n, .bool u] w (DtkPost B ev pd pc pz gh mn lw hi O e X F w (takeD mn O e d k n u)) := by
  have hkl := (List.getElem?_eq_some_iff.1 hk).1
  have hl4 := (hI.h4 _ (List.mem_of_getElem? hk)).2
  have ld : loadD ([], l ++ [o]) d.P = ((l ++ [o], []), d.P) := by unfold loadD; rw [if_pos rfl, if_neg (by simp)]
  have et : takeD mn O e d k n u = (⟨d.c, d.H.set k (l, []), d.P⟩, 0, o) := by
    rw [takeD_pop (handD_of hk) (o := o) (by rw [ld]; simp), ld]
    simp
  rw [et]
  have b1 : Below w.heap.size w (w.alloc (.cells #[.int .i64 0, .int .i64 0] 72)) := (by repeat (first | exact Below.refl _ _ | refine Below.drew ?_ | refine below_drewN ?_ _ | refine Below.trans ?_ (Below.mono (by assumption) (by first | omega | (simp; omega) | (simp; done))) | refine Below.alloc ?_ (by first | omega | (simp; omega) | (simp; done)) _ | refine Below.setCell ?_ (by first | omega | (simp; omega) | (simp; done)) _))
  have L1 := Lib.hid (show LocN (w.alloc (.cells #[.int .i64 0, .int .i64 0] 72)) w.heap.size [.int .i64 0, .int .i64 0] from LocN.mk_ w [.int .i64 0, .int .i64 0] 72 rfl)
  obtain ⟨W1, hW1⟩ : ∃ W1, W1 = w.alloc (.cells #[.int .i64 0, .int .i64 0] 72) := ⟨_, rfl⟩
  have h1 := h.below b1
  rw [← hW1] at b1 L1 h1
  have s1 : W1.heap.size = w.heap.size + 1 := by rw [hW1]; simp
  obtain ⟨p, hp, o1, o2, g0, g1, f0, f1, gl⟩ := h1.hand hk
  obtain ⟨⟨pa, pb⟩, rfl⟩ : ∃ q, q = p := ⟨_, rfl⟩
  obtain ⟨q2, cap2, e2, _, _⟩ := o1.isSlice
  obtain ⟨q, cap, e1, cp1, cp2⟩ := o2.isSlice
  simp only at e1 e2 g0 g1 hp
  subst e1 e2
  obtain ⟨og, off, rfl, ogx, ogl, t0, t1⟩ := RowO.at (by simpa using o2) (j := l.length) (o := o) (by simp)
  obtain ⟨qp, kp, evp⟩ : ∃ qp kp, vp = .slice qp d.P.length kp := by
    rcases h1.de.row.2 with ⟨a1, a2⟩ | ⟨_, cap', _, a1, _⟩
    · exact ⟨none, 0, by rw [a1, a2]⟩
    · exact ⟨_, cap', a1⟩
  have c0 := h1.de.d.c 0 _ rfl; have c1 := h1.de.d.c 1 _ rfl; have c2 := h1.de.d.c 2 _ rfl; have cl := h1.de.d.lt
  rw [evp] at c2
  have pl : d.P.length ≤ 65536 := by
    have hh := (held_len hI).1
    have h2 := obs_few hI.c
    omega
  have e3 : (l ++ [o]).length = l.length + 1 := by simp
  rw [e3] at g1 hl4 cp1
  rw [show ([] : List Ob).length = 0 from rfl] at g0
  obtain ⟨m, hm⟩ : ∃ m, m = l.length := ⟨_, rfl⟩
  rw [← hm] at g1 t0 t1 hl4 cp1
  have HD := Lib.hid (dhand_ok h1 k hkl)
  have hw1 : IntKind.i64.wrap (((m + 1 : Nat) : Int) - 1) = (m : Int) := by rw [IntWalk.i64_in _ (by omega)]; omega
  have hw2 : IntKind.i64.wrap ((d.P.length : Int) - 1) = (d.P.length : Int) - 1 := IntWalk.i64_in _ (by omega)
  have d1 : decide ((m + 1 : Nat) = 0) = false := by simp
  have d2 : decide ((m : Int) < 0) = false := decide_eq_false (by omega)
  have rg : ¬ (w.heap.size = gh) := fun q => by have := (h.de.lim gh h.gh_mem).2; omega
  have gr : ¬ (gh = w.heap.size) := fun q => rg q.symm
  obtain ⟨p', hp', o1', o2', _⟩ := h.hand hk
  rw [hp] at hp'
  obtain rfl := Option.some.inj hp'
  have ro1 : RowO X w (.slice (some ⟨og, off, none⟩) m cap) l := by
    obtain ⟨q', cap', e4, e5⟩ := o2'.cut m (by rw [hm]; simp)
    simp only at e4
    injection e4 with e6 _ e7
    subst e6 e7
    simpa [hm] using e5
  have HFIN : Hid (∀ W, Keep [gh] w W → LocN W gh (handL (V.set k (.slice (some ⟨og, off, none⟩) m cap, .slice q2 0 cap2))) → DtkPost B ev pd pc pz gh mn lw hi O e X F w (⟨d.c, d.H.set k (l, []), d.P⟩, 0, o) (.returned (.tuple #[.agg #[.int .i64 o.1, .int .i64 o.2], .nilIface])) W) := fun W kk hg =>
    ⟨rfl, X, ⟨_, _, _, _, _, h.setHand k (p' := (.slice (some ⟨og, off, none⟩) m cap, .slice q2 0 cap2)) (h' := (l, [])) hkl ro1 o1' kk hg, hF.out⟩, kk.mono (fun s q => by simp at q; subst q; exact h.offy hF.out h.gh_mem), fun _ q => .inl q, fun _ q => q⟩
  have vl : V.length = d.H.length := h1.de.hl
  have HL2 : Hid (LocN ((W1.setCell ⟨gh, k * 2, none⟩ (.slice (some ⟨og, off, none⟩) (m + 1) cap)).setCell ⟨gh, k * 2 + 1, none⟩ (.slice q2 0 cap2)).drew gh (handL (V.set k (.slice (some ⟨og, off, none⟩) (m + 1) cap, .slice q2 0 cap2)))) := by
    have a1 := hloc1 h1.de.hs hp (.slice (some ⟨og, off, none⟩) (m + 1) cap)
    have a2 := hloc2 a1 (hset2 (by omega) _) (.slice q2 0 cap2)
    rw [hset1] at a2
    exact a2.drewL
  have SW := Lib.hid (dswap_ok gh (k * 2) q2 (some ⟨og, off, none⟩) 0 (m + 1) cap2 cap _ _ rfl rfl W1 g0 g1 f0 f1 gl)
  have d3 : decide (0 < m + 1) = true := by simp
  have VL : Hid (k < V.length) := by show k < V.length; omega
  have GO : Hid (¬ (og = gh)) := fun q => ogx (q ▸ h.de.mem gh h.gh_mem)
  have PG : Hid (¬ (pd = gh)) := fun q => (List.nodup_cons.1 h.de.nd).1 (q ▸ List.mem_cons_self ..)
  have HB1 := Lib.hid b1; have HS1 := Lib.hid s1
  have rl : w.heap.size < W1.heap.size := by omega
  have LL := L1.out
  have v0 := LL.c 0 _ rfl; have v1 := LL.c 1 _ rfl; have vf0 := LL.f 0 (by simp); have vf1 := LL.f 1 (by simp)
  clear h h1 hI hk hp o1 o2 o1' o2' ro1 e3 hm ld et b1 s1 evp hp' f0 f1
  go_enter Tryz.func33, Tryz.ntmps33
  go_wp2_with fail
  rw [← hW1]
  clear hW1
  refine HD.out.mono ?_
  rintro r' w1 ⟨rfl, rfl⟩
  go_wp2_with fail
  refine SW.out.mono ?_
  rintro r' w2 ⟨rfl, hw2⟩
  rw [← hw2] at HL2
  have K2 : Keep [gh] w1 w2 := by rw [hw2]; exact (((Keep.refl _ _).setCell (p := ⟨gh, k * 2, none⟩) (.inl (by simp)) _).setCell (p := ⟨gh, k * 2 + 1, none⟩) (.inl (by simp)) _).drew
  have g0' := HL2.out.c (k * 2) _ (handL_get (hset2 VL.out _)).1
  have g1' := HL2.out.c (k * 2 + 1) _ (handL_get (hset2 VL.out _)).2
  have f0' := HL2.out.f (k * 2) (by rw [handL_length, List.length_set]; have := VL.out; omega)
  have gl' := HL2.out.lt
  have t0' := (K2.cell (o := off + m * 2) ogl (by simpa using GO.out)).trans t0
  have t1' := (K2.cell (o := off + m * 2 + 1) ogl (by simpa using GO.out)).trans t1
  have ogl' := Nat.lt_of_lt_of_le ogl K2.size
  have c2' := (K2.cell (o := 2) cl (by simpa using PG.out)).trans c2
  have cl' := Nat.lt_of_lt_of_le cl K2.size
  have LL2 := L1.out.keep K2 (by simpa using rg)
  have v0' := LL2.c 0 _ rfl; have v1' := LL2.c 1 _ rfl; have vf0' := LL2.f 0 (by simp); have vf1' := LL2.f 1 (by simp); have rl' := LL2.lt
  have KW2 := Lib.hid ((Keep.of (S := [gh]) HB1.out).then K2)
  have HL3 := Lib.hid (hloc1 HL2.out (hset2 VL.out _) (.slice (some ⟨og, off, none⟩) m cap))
  rw [hset1] at HL3
  have HLL2 := Lib.hid LL2
  clear g0 g1 t0 t1 ogl c0 c1 c2 cl LL v0 v1 vf0 vf1 rl gl hw2 K2 SW HL2 HD LL2
  go_wp2
  have M := Lib.hid ((((HLL2.out.far (c := gh) gr (k * 2) (.slice (some ⟨og, off, none⟩) m cap)).store2 (.int .i64 o.1) (.int .i64 o.2))).past (.cells #[.int .i64 o.1, .int .i64 o.2] 72))
  have x0 := M.out.c 0 _ rfl; have x1 := M.out.c 1 _ rfl
  refine bodyPost_ret (v := .tuple #[.agg #[.int .i64 o.1, .int .i64 o.2], .nilIface]) (by simp [x0, x1, results, Tryz.results33, go_sem]) rfl (HFIN.out _ ?_ ?_)
  · exact (((((KW2.out).setCell (p := ⟨gh, k * 2, none⟩) (.inl (by simp)) _).setCell (p := ⟨w.heap.size, 0, none⟩) (.inr (Nat.le_refl _)) _).setCell (p := ⟨w.heap.size, 1, none⟩) (.inr (Nat.le_refl _)) _).alloc _)
  · exact ((HL3.out.far rg 0 _).far rg 1 _).past _
set_option maxHeartbeats 2000000 in
set_option maxRecDepth 100000 in
theorem dtake_C (k : Nat) (n : Int) (u : Bool) (h : CD B w X pd pc pz gh mn lw hi O e v A V vp U d) (hF : Hid (∀ f ∈ F, f ∈ X ∧ f ∉ xd pc v A d.c.L pd gh vp)) (hI : InvD e d) {l : List Ob} {o : Ob} {P0 : List (List Ob)} (hk : d.H[k]? = some ([], [])) (hP : d.P = P0 ++ [l ++ [o]]) :
    Calls Tryz.prog 33 #[.pointer (some ⟨pd, 0, none⟩), .int .i64 k, .int .i64 n, .bool u] w (DtkPost B ev pd pc pz gh mn lw hi O e X F w (takeD mn O e d k n u)) := by
  have hkl := (List.getElem?_eq_some_iff.1 hk).1
  have hl4 := hI.p4 (l ++ [o]) (by rw [hP]; simp)
  have ld : loadD ([], []) d.P = ((l ++ [o], []), P0) := by unfold loadD; rw [if_pos rfl, if_pos rfl, hP]; simp
  have et : takeD mn O e d k n u = (⟨d.c, d.H.set k (l, []), P0⟩, 0, o) := by
    rw [takeD_pop (handD_of hk) (o := o) (by rw [ld]; simp), ld]
    simp
  rw [et]
  have b1 : Below w.heap.size w (w.alloc (.cells #[.int .i64 0, .int .i64 0] 72)) := (by repeat (first | exact Below.refl _ _ | refine Below.drew ?_ | refine below_drewN ?_ _ | refine Below.trans ?_ (Below.mono (by assumption) (by first | omega | (simp; omega) | (simp; done))) | refine Below.alloc ?_ (by first | omega | (simp; omega) | (simp; done)) _ | refine Below.setCell ?_ (by first | omega | (simp; omega) | (simp; done)) _))
  have L1 := Lib.hid (show LocN (w.alloc (.cells #[.int .i64 0, .int .i64 0] 72)) w.heap.size [.int .i64 0, .int .i64 0] from LocN.mk_ w [.int .i64 0, .int .i64 0] 72 rfl)
  obtain ⟨W1, hW1⟩ : ∃ W1, W1 = w.alloc (.cells #[.int .i64 0, .int .i64 0] 72) := ⟨_, rfl⟩
  have h1 := h.below b1
  rw [← hW1] at b1 L1 h1
  have s1 : W1.heap.size = w.heap.size + 1 := by rw [hW1]; simp
  obtain ⟨p, hp, o1, o2, g0, g1, f0, f1, gl⟩ := h1.hand hk
  obtain ⟨⟨pa, pb⟩, rfl⟩ : ∃ q, q = p := ⟨_, rfl⟩
  obtain ⟨q2, cap2, e2, _, _⟩ := o1.isSlice
  obtain ⟨q3, cap3, e1, _, _⟩ := o2.isSlice
  simp only at e1 e2 g0 g1 hp
  subst e1 e2
  rw [show ([] : List Ob).length = 0 from rfl] at g0 g1 hp
  -- the pile
  have pN : d.P.length = P0.length + 1 := by rw [hP]; simp
  have hUl := h1.de.ul
  obtain ⟨uu, huu⟩ : ∃ uu, U[P0.length]? = some uu := ⟨U[P0.length]'(by omega), List.getElem?_eq_getElem _⟩
  have ruu := h.de.po _ _ _ huu (show d.P[P0.length]? = some (l ++ [o]) by rw [hP]; simp)
  obtain ⟨q, cap, e4, cp1, cp2⟩ := ruu.isSlice
  subst e4
  obtain ⟨og, off, rfl, ogx, ogl, t0, t1⟩ := RowO.at ruu (j := l.length) (o := o) (by simp)
  obtain ⟨gp, kp, rfl, kp1, kp2, hru⟩ : ∃ gp kp, vp = .slice (some ⟨gp, 0, none⟩) d.P.length kp ∧ d.P.length ≤ kp ∧ kp ≤ maxLen ∧ W1.cell? ⟨gp, P0.length, none⟩ = some (.slice (some ⟨og, off, none⟩) (l ++ [o]).length cap) := by
    have ho := h1.de.row
    rcases h1.de.row.2 with ⟨a1, a2⟩ | ⟨gp, cap', cur, a1, a2, a3, a4, a5, _⟩
    · omega
    · subst a1
      refine ⟨gp, cap', rfl, a4, a5, ?_⟩
      rw [ho.cellAt _ (by omega)]
      exact huu
  have c0 := h1.de.d.c 0 _ rfl; have c1 := h1.de.d.c 1 _ rfl; have c2 := h1.de.d.c 2 _ rfl; have cl := h1.de.d.lt; have cf := h1.de.d.f 2 (by simp)
  have pl : d.P.length ≤ 65536 := by
    have hh := (held_len hI).1
    have h2 := obs_few hI.c
    omega
  have e3 : (l ++ [o]).length = l.length + 1 := by simp
  rw [e3] at hru hl4 cp1
  obtain ⟨m, hm⟩ : ∃ m, m = l.length := ⟨_, rfl⟩
  rw [← hm] at hru t0 t1 hl4 cp1
  obtain ⟨N, hN⟩ : ∃ N, N = P0.length := ⟨_, rfl⟩
  rw [pN, ← hN] at c2 kp1 pl
  rw [← hN] at hru
  have HD := Lib.hid (dhand_ok h1 k hkl)
  have hw1 : IntKind.i64.wrap (((m + 1 : Nat) : Int) - 1) = (m : Int) := by rw [IntWalk.i64_in _ (by omega)]; omega
  have hw2 : IntKind.i64.wrap (((N + 1 : Nat) : Int) - 1) = (N : Int) := by rw [IntWalk.i64_in _ (by omega)]; omega
  have d1 : decide ((m + 1 : Nat) = 0) = false := by simp
  have d2 : decide ((m : Int) < 0) = false := decide_eq_false (by omega)
  have d4 : decide ((0 : Int) ≤ (N : Int)) = true := decide_eq_true (by omega)
  have rg : ¬ (w.heap.size = gh) := fun q => by have := (h.de.lim gh h.gh_mem).2; omega
  have gr : ¬ (gh = w.heap.size) := fun q => rg q.symm
  have rp : ¬ (w.heap.size = pd) := fun q => by have := (h.de.lim pd h.pd_mem).2; omega
  have PG : ¬ (pd = gh) := fun q => (List.nodup_cons.1 h.de.nd).1 (q ▸ List.mem_cons_self ..)
  have GP : ¬ (gh = pd) := fun q => PG q.symm
  have gpl : gp < W1.heap.size := (h1.de.row.lt gp rfl).2
  have t0' := (b1.cell (p := ⟨og, off + m * 2, none⟩) ogl).trans t0
  have t1' := (b1.cell (p := ⟨og, off + m * 2 + 1, none⟩) ogl).trans t1
  have ogl' := Nat.lt_of_lt_of_le ogl b1.size
  have GO : Hid (¬ (og = gh)) := fun q => ogx (q ▸ h.de.mem gh h.gh_mem)
  have PO : Hid (¬ (og = pd)) := fun q => ogx (q ▸ h.de.mem pd h.pd_mem)
  obtain ⟨p', hp', o1', o2', _⟩ := h.hand hk
  rw [hp] at hp'
  obtain rfl := Option.some.inj hp'
  have ro1 : RowO X w (.slice (some ⟨og, off, none⟩) m cap) l := by
    obtain ⟨q', cap', e4, e5⟩ := ruu.cut m (by rw [hm]; simp)
    injection e4 with e6 _ e7
    subst e6 e7
    simpa [hm] using e5
  have vl : V.length = d.H.length := h1.de.hl
  have VL : Hid (k < V.length) := by show k < V.length; omega
  have HFIN : Hid (∀ W, Keep [gh, pd] w W → LocN W gh (handL (V.set k (.slice (some ⟨og, off, none⟩) m cap, .slice q3 0 cap3))) → LocN W pd [.pointer (some ⟨pc, 0, none⟩), .slice (some ⟨gh, 0, none⟩) d.H.length d.H.length, .slice (some ⟨gp, 0, none⟩) N kp] → DtkPost B ev pd pc pz gh mn lw hi O e X F w (⟨d.c, d.H.set k (l, []), P0⟩, 0, o) (.returned (.tuple #[.agg #[.int .i64 o.1, .int .i64 o.2], .nilIface])) W) := fun W kk hg hd => by
    have hrow : w.ownsRow B 70 1 (.slice (some ⟨gp, 0, none⟩) P0.length kp) P0.length (U.take P0.length) := by
      obtain ⟨rest, y1, y2, y3, y4, y5, y6⟩ := own_row1 h.de.row
      have := y1.own y6 (n := P0.length) (by rw [y2]; omega) (by rw [y2]; exact y5)
      rw [y2] at this
      rw [List.take_append_of_le_length (by omega)] at this
      exact this
    have hrow' : W.ownsRow B 70 1 (.slice (some ⟨gp, 0, none⟩) P0.length kp) P0.length (U.take P0.length) := own_keep hrow kk (fun s hs q => by
      have hq : s = gp := by simpa [ownX, Value.ownBlock, eq_comm] using q
      have hn := h.de.nd
      simp at hs
      rcases hs with r | r
      · exact (List.nodup_cons.1 (List.nodup_cons.1 hn).2).1 (by rw [← r, hq]; simp [ownX, Value.ownBlock])
      · exact (List.nodup_cons.1 hn).1 (List.mem_cons_of_mem _ (by rw [← r, hq]; simp [ownX, Value.ownBlock])))
    rw [hN] at hd
    refine ⟨rfl, X, ⟨_, _, _, _, _, h.setBoth k (p' := (.slice (some ⟨og, off, none⟩) m cap, .slice q3 0 cap3)) (h' := (l, [])) (U' := U.take P0.length) (P' := P0) hkl ro1 o2' kk hg hd hrow' (by rw [List.length_take]; omega) (fun i z mm hi hm' => ?_) rfl, hF.out⟩, kk.mono (fun s q => by
      simp at q
      rcases q with rfl | rfl
      · exact h.offy hF.out h.gh_mem
      · exact h.offy hF.out h.pd_mem), fun _ q => .inl q, fun _ q => q⟩
    have hil := (List.getElem?_eq_some_iff.1 hm').1
    rw [List.getElem?_take, if_pos hil] at hi
    exact h.de.po i z mm hi (by rw [hP, List.getElem?_append_left hil]; exact hm')
  have HLG := Lib.hid (hloc1 h1.de.hs hp (.slice (some ⟨og, off, none⟩) (m + 1) cap))
  have HLP := Lib.hid (h1.de.d.store 2 (.slice (some ⟨gp, 0, none⟩) N kp) (by simp))
  have h1dd := Lib.hid h1.de.d
  have HB1 := Lib.hid b1
  have rl : w.heap.size < W1.heap.size := by omega
  clear h h1 hI hk hp o1 o2 o1' o2' ro1 e3 hm ld et b1 s1 hp' f1 ruu huu hP pN hN hUl t0 t1 ogl ogx vl
  go_enter Tryz.func33, Tryz.ntmps33
  go_wp2_with fail
  rw [← hW1]
  clear hW1
  refine HD.out.mono ?_
  rintro r' w1 ⟨rfl, rfl⟩
  clear HD
  go_wp2_with fail
  go_region
  obtain rfl : m = 3 := by omega
  obtain ⟨w2, hw2'⟩ : ∃ w2, w2 = ((w1.setCell ⟨gh, k * 2, none⟩ (.slice (some ⟨og, off, none⟩) 4 cap)).setCell ⟨pd, 2, none⟩ (.slice (some ⟨gp, 0, none⟩) N kp)).drew := ⟨_, rfl⟩
  rw [← hw2']
  have K2 : Keep [gh, pd] w1 w2 := by rw [hw2']; exact (((Keep.refl _ _).setCell (p := ⟨gh, k * 2, none⟩) (.inl (by simp)) _).setCell (p := ⟨pd, 2, none⟩) (.inl (by simp)) _).drew
  have LG2 : LocN w2 gh (handL (V.set k (.slice (some ⟨og, off, none⟩) 4 cap, .slice q3 0 cap3))) := by rw [hw2']; exact (HLG.out.far PG 2 _).drewL
  have LP2 : LocN w2 pd [.pointer (some ⟨pc, 0, none⟩), .slice (some ⟨gh, 0, none⟩) d.H.length d.H.length, .slice (some ⟨gp, 0, none⟩) N kp] := by
    rw [hw2']
    have q := (h1dd.out.far GP (k * 2) (.slice (some ⟨og, off, none⟩) 4 cap)).store 2 (.slice (some ⟨gp, 0, none⟩) N kp) (by simp)
    exact q.drewL
  have g0' := LG2.c (k * 2) _ (handL_get (hset2 VL.out _)).1
  have f0' := LG2.f (k * 2) (by rw [handL_length, List.length_set]; have := VL.out; omega)
  have gl' := LG2.lt
  have t0 := (K2.cell (o := off + 3 * 2) ogl' (by simpa using ⟨GO.out, PO.out⟩)).trans t0'
  have t1 := (K2.cell (o := off + 3 * 2 + 1) ogl' (by simpa using ⟨GO.out, PO.out⟩)).trans t1'
  have ogl := Nat.lt_of_lt_of_le ogl' K2.size
  have LL2 := L1.out.keep K2 (by simpa using ⟨rg, rp⟩)
  have v0' := LL2.c 0 _ rfl; have v1' := LL2.c 1 _ rfl; have vf0' := LL2.f 0 (by simp); have vf1' := LL2.f 1 (by simp); have rl' := LL2.lt
  have KW2 := Lib.hid ((Keep.of (S := [gh, pd]) HB1.out).then K2)
  have HL3 := Lib.hid (hloc1 LG2 (hset2 VL.out _) (.slice (some ⟨og, off, none⟩) 3 cap))
  rw [hset1] at HL3
  have HP3 := Lib.hid LP2
  have HLL2 := Lib.hid LL2
  have HFIN' := HFIN
  clear g0 g1 f0 t0' t1' ogl' c0 c1 c2 cl cf rl gl hw2' K2 LG2 LP2 LL2 hru kp1 gpl HLG HLP h1dd
  go_wp2
  have M := Lib.hid ((((HLL2.out.far (c := gh) gr (k * 2) (.slice (some ⟨og, off, none⟩) 3 cap)).store2 (.int .i64 o.1) (.int .i64 o.2))).past (.cells #[.int .i64 o.1, .int .i64 o.2] 72))
  have x0 := M.out.c 0 _ rfl; have x1 := M.out.c 1 _ rfl
  refine bodyPost_ret (v := .tuple #[.agg #[.int .i64 o.1, .int .i64 o.2], .nilIface]) (by simp [x0, x1, results, Tryz.results33, go_sem]) rfl (HFIN.out _ ?_ ?_ ?_)
  · exact (((((KW2.out).setCell (p := ⟨gh, k * 2, none⟩) (.inl (by simp)) _).setCell (p := ⟨w.heap.size, 0, none⟩) (.inr (Nat.le_refl _)) _).setCell (p := ⟨w.heap.size, 1, none⟩) (.inr (Nat.le_refl _)) _).alloc _)
  · exact ((HL3.out.far rg 0 _).far rg 1 _).past _
  · exact (((HP3.out.far GP (k * 2) _).far rp 0 _).far rp 1 _).past _
set_option maxHeartbeats 2000000 in
set_option maxRecDepth 100000 in
theorem dtake_D (k : Nat) (n : Int) (u : Bool) (hE : ErrZ B ev w) (h : CD B w X pd pc pz gh mn lw hi O e v A V vp U d) (hF : Hid (∀ f ∈ F, f ∈ X ∧ f ∉ xd pc v A d.c.L pd gh vp)) (hI : InvD e d) (hk : d.H[k]? = some ([], [])) (hP : d.P = []) :
    Calls Tryz.prog 33 #[.pointer (some ⟨pd, 0, none⟩), .int .i64 k, .int .i64 n, .bool u] w (DtkPost B ev pd pc pz gh mn lw hi O e X F w (takeD mn O e d k n u)) := by
  have hkl := (List.getElem?_eq_some_iff.1 hk).1
  have ld : loadD ([], []) d.P = (([], []), []) := by unfold loadD; rw [if_pos rfl, if_pos rfl, hP]; simp
  have et : takeD mn O e d k n u = (⟨(takeC mn O e d.c n u).1, d.H, d.P⟩, (takeC mn O e d.c n u).2.1, (takeC mn O e d.c n u).2.2) := takeD_cache (handD_of hk) (by rw [ld]; simp)
  rw [et]
  have b1 : Below w.heap.size w (w.alloc (.cells #[.int .i64 0, .int .i64 0] 72)) := (by repeat (first | exact Below.refl _ _ | refine Below.drew ?_ | refine below_drewN ?_ _ | refine Below.trans ?_ (Below.mono (by assumption) (by first | omega | (simp; omega) | (simp; done))) | refine Below.alloc ?_ (by first | omega | (simp; omega) | (simp; done)) _ | refine Below.setCell ?_ (by first | omega | (simp; omega) | (simp; done)) _))
  have L1 := Lib.hid (show LocN (w.alloc (.cells #[.int .i64 0, .int .i64 0] 72)) w.heap.size [.int .i64 0, .int .i64 0] from LocN.mk_ w [.int .i64 0, .int .i64 0] 72 rfl)
  obtain ⟨W1, hW1⟩ : ∃ W1, W1 = w.alloc (.cells #[.int .i64 0, .int .i64 0] 72) := ⟨_, rfl⟩
  have h1 := h.below b1
  rw [← hW1] at b1 L1 h1
  obtain ⟨p, hp, o1, o2, g0, g1, f0, f1, gl⟩ := h1.hand hk
  obtain ⟨⟨pa, pb⟩, rfl⟩ : ∃ q, q = p := ⟨_, rfl⟩
  obtain ⟨q2, cap2, e2, _, _⟩ := o1.isSlice
  obtain ⟨q3, cap3, e1, _, _⟩ := o2.isSlice
  simp only at e1 e2 g0 g1 hp
  subst e1 e2
  rw [show ([] : List Ob).length = 0 from rfl] at g0 g1 hp
  obtain ⟨qp, kp, rfl⟩ : ∃ qp kp, vp = .slice qp 0 kp := by
    have hr := h1.de.row
    rw [hP] at hr
    rcases hr.2 with ⟨a1, a2⟩ | ⟨_, cap', _, a1, _⟩
    · exact ⟨none, 0, by rw [a1]⟩
    · exact ⟨_, cap', by rw [a1]; rfl⟩
  have c0 := h1.de.d.c 0 _ rfl; have c1 := h1.de.d.c 1 _ rfl; have c2 := h1.de.d.c 2 _ rfl; have cl := h1.de.d.lt
  have HD := Lib.hid (dhand_ok h1 k hkl)
  have hw1 : IntKind.i64.wrap ((0 : Int) - 1) = (0 : Int) - 1 := IntWalk.i64_in _ (by omega)
  have ST := stake_any n u (hE.go b1) ((h.cs.more (Y := w.heap.size :: X) (fun x hx => List.mem_cons_of_mem _ hx) (fun y hy => by
    rcases List.mem_cons.1 hy with rfl | q
    · exact .inr (Nat.le_refl _)
    · exact .inl q)).below b1) hI.c
  have SM := Lib.hid (takeC_same mn O e d.c n u)
  obtain ⟨⟨c', cc, x1, x2⟩, hr⟩ : ∃ r, r = takeC mn O e d.c n u := ⟨_, rfl⟩
  rw [← hr] at ST SM ⊢
  unfold StkPost at ST
  simp only [obV] at ST ⊢
  have HST := Lib.hid ST
  have NX : Hid (w.heap.size ∉ cay pc v A ++ ys d.c.L) := fun q => by
    rcases List.mem_append.1 q with r | r
    · have := (h.cs.ch.lim _ r).2; omega
    · have := (h.cs.z.b.lim _ r).2; omega
  have HFIN : Hid (∀ w2 W, (∃ X' v' A', CS B w2 pc pz mn lw hi O e X' v' A' c' ∧ Keep (cay pc v A ++ ys d.c.L) W1 w2 ∧ (∀ x ∈ w.heap.size :: X, x ∈ X') ∧ (∀ x ∈ X', x ∈ w.heap.size :: X ∨ W1.heap.size ≤ x) ∧ ∀ y ∈ cay pc v' A', y ∈ cay pc v A ∨ W1.heap.size ≤ y) → Keep [w.heap.size] w2 W → LocN W1 w.heap.size [.int .i64 0, .int .i64 0] →
      DtkPost B ev pd pc pz gh mn lw hi O e X F w (⟨c', d.H, d.P⟩, cc, (x1, x2)) (.returned (.tuple #[.agg #[.int .i64 x1, .int .i64 x2], errV ev cc])) W) := fun w2 W ⟨X', v', A', y1, y2, y3, y4, y5⟩ kk hloc => by
    have zl : w.heap.size < W1.heap.size := hloc.lt
    have z2 := y2.size
    have nc : w.heap.size ∉ cay pc v' A' := fun q => by
      rcases y5 _ q with r | r
      · exact NX.out (List.mem_append_left _ r)
      · omega
    have ny : w.heap.size ∉ ys c'.L := by
      rw [SM.out.ys]; exact fun q => NX.out (List.mem_append_right _ q)
    have kAll : Keep (cay pc v A ++ ys d.c.L) w W := ((Keep.of (S := cay pc v A ++ ys d.c.L) b1).then y2).trans kk (fun s q => by simp at q; subst q; exact .inr (Nat.le_refl _))
    have csw : CS B W pc pz mn lw hi O e X' v' A' c' := y1.keep kk (fun s q => by simp at q; subst q; exact ⟨nc, .inl ⟨y3 _ (List.mem_cons_self ..), ny⟩⟩)
    obtain ⟨q1, q2⟩ := h.cache csw kAll (fun x hx => y3 x (List.mem_cons_of_mem _ hx)) (fun x hx => by
      rcases y4 x hx with r | r
      · rcases List.mem_cons.1 r with t | t
        · exact .inr (by omega)
        · exact .inl t
      · exact .inr (by omega)) (fun y hy => (y5 y hy).imp id (fun t => by omega)) SM.out
    refine ⟨rfl, _, ⟨_, _, _, _, _, q1, h.cacheF (fun y hy => (y5 y hy).imp id (fun t => by omega)) SM.out hF.out (fun x hx => List.mem_append_left _ hx)⟩, kAll.mono (fun s q => h.offd hF.out (List.mem_append_right _ q)), q2, fun x hx => List.mem_append_left _ hx⟩
  have HB1 := Lib.hid b1
  clear h h1 hI hk hp o1 o2 ld et b1 hr hE ST hP f0 f1
  go_enter Tryz.func33, Tryz.ntmps33
  go_wp2_with fail
  rw [← hW1]
  clear hW1
  refine HD.out.mono ?_
  rintro r' w1 ⟨rfl, rfl⟩
  clear HD
  go_wp2_with fail
  refine HST.out.mono ?_
  rintro r' w2 ⟨rfl, hex⟩
  have LL2 := Lib.hid (show LocN w2 w.heap.size [.int .i64 0, .int .i64 0] from by
    obtain ⟨_, _, _, _, k2, _⟩ := hex
    exact L1.out.keep k2 NX.out)
  have v0' := LL2.out.c 0 _ rfl; have v1' := LL2.out.c 1 _ rfl; have vf0' := LL2.out.f 0 (by simp); have vf1' := LL2.out.f 1 (by simp); have rl' := LL2.out.lt
  have HEX := Lib.hid hex
  clear hex HST
  go_wp2
  have M := Lib.hid (LL2.out.store2 (.int .i64 x1) (.int .i64 x2))
  have y0 := M.out.c 0 _ rfl; have y1 := M.out.c 1 _ rfl
  refine bodyPost_ret (v := .tuple #[.agg #[.int .i64 x1, .int .i64 x2], errV ev cc]) (by simp [y0, y1, results, Tryz.results33, go_sem]) rfl (HFIN.out w2 _ HEX.out ?_ L1.out)
  exact ((Keep.refl _ _).setCell (p := ⟨w.heap.size, 0, none⟩) (.inl (by simp)) _).setCell (p := ⟨w.heap.size, 1, none⟩) (.inl (by simp)) _
theorem dtake_any (k n : Int) (u : Bool) (hE : ErrZ B ev w) (h : CD B w X pd pc pz gh mn lw hi O e v A V vp U d) (hF : Hid (∀ f ∈ F, f ∈ X ∧ f ∉ xd pc v A d.c.L pd gh vp)) (hI : InvD e d) :
    Calls Tryz.prog 33 #[.pointer (some ⟨pd, 0, none⟩), .int .i64 k, .int .i64 n, .bool u] w (DtkPost B ev pd pc pz gh mn lw hi O e X F w (takeD mn O e d k n u)) := by
  cases hh : handD d k with
  | none => exact dtake_bad k n u hE h hF hh
  | some g =>
    obtain ⟨k0, h1, h2, h3⟩ := handD_some hh
    obtain ⟨kn, hkn⟩ : ∃ kn, kn = k.toNat := ⟨_, rfl⟩
    rw [← hkn] at h1 h3
    subst h3
    obtain ⟨g1, g2⟩ := g
    rcases List.eq_nil_or_concat g1 with rfl | ⟨l, o, rfl⟩
    · rcases List.eq_nil_or_concat g2 with rfl | ⟨l, o, rfl⟩
      · rcases List.eq_nil_or_concat d.P with hP | ⟨P0, m, hP⟩
        · exact dtake_D kn n u hE h hF hI h1 hP
        · have hm := hI.p4 m (by rw [hP]; simp)
          rcases List.eq_nil_or_concat m with rfl | ⟨l, o, rfl⟩
          · simp at hm
          · exact dtake_C kn n u h hF hI h1 (by simpa using hP)
      · exact dtake_B kn n u h hF hI (by simpa using h1)
    · exact dtake_A kn n u h hF hI (by simpa using h1)
end
end Go.Proofs.YtcokmiidgdmdlaaGreatDoor

namespace Go.Proofs.YtcokmiidgdmdlaaGreatDoor
open Go.RowKit Go.Maps
set_option linter.unusedSimpArgs false
set_option linter.unusedVariables false
attribute [local go_sem ↓] Go.wp_at_zero Go.wp_at_succ

section
variable {X : List Nat} {w : World} {v : Value} {l : List Ob}
theorem first_ob (o : Ob) : ∀ l : List Ob, (o ∉ l) ∨ ∃ m, l[m]? = some o ∧ ∀ (j : Nat) (y : Ob), j < m → l[j]? = some y → y ≠ o
  | [] => .inl (by simp)
  | a :: l => by
    by_cases h : a = o
    · exact .inr ⟨0, by simp [h], fun j y hj => by omega⟩
    · rcases first_ob o l with q | ⟨m, q1, q2⟩
      · exact .inl (by simp; exact ⟨fun r => h r.symm, q⟩)
      · refine .inr ⟨m + 1, by simpa using q1, fun j y hj hy => ?_⟩
        cases j with
        | zero => simp at hy; subst hy; exact h
        | succ j => exact q2 j y (by omega) (by simpa using hy)
set_option maxHeartbeats 1000000 in
set_option maxRecDepth 100000 in
theorem index_ob (o : Ob) (h : RowO X w v l) (hl : l.length ≤ 65536) (m : Nat) (hm : m ≤ l.length) (hno : ∀ (j : Nat) (y : Ob), j < m → l[j]? = some y → y ≠ o) (res : Int) (hres : (m = l.length ∧ res = -1) ∨ (l[m]? = some o ∧ res = m)) :
    Calls Tryz.prog 171 #[v, .agg #[.int .i64 o.1, .int .i64 o.2]] w fun r w' => r = .returned (.int .i64 res) ∧ Below w.heap.size w w' := by
  obtain ⟨p, cap, rfl, hc1, hc2, _⟩ := id h
  have b0 : Below w.heap.size w (w.alloc (.cells #[.int .i64 o.1, .int .i64 o.2] 72)) := (by repeat (first | exact Below.refl _ _ | refine Below.drew ?_ | refine below_drewN ?_ _ | refine Below.trans ?_ (Below.mono (by assumption) (by first | omega | (simp; omega) | (simp; done))) | refine Below.alloc ?_ (by first | omega | (simp; omega) | (simp; done)) _ | refine Below.setCell ?_ (by first | omega | (simp; omega) | (simp; done)) _))
  have HL := Lib.hid (show LocN (w.alloc (.cells #[.int .i64 o.1, .int .i64 o.2] 72)) w.heap.size [.int .i64 o.1, .int .i64 o.2] from LocN.mk_ w [.int .i64 o.1, .int .i64 o.2] 72 rfl)
  have H := Lib.hid h; have HNOO := Lib.hid hno; have HRES := Lib.hid hres
  obtain ⟨n, hn⟩ : ∃ n, n = l.length := ⟨_, rfl⟩
  have EN := Lib.hid hn
  rw [← hn] at hl hm ⊢
  have eb := eqO; have gb := guardO
  clear h hno hres hn hc1 hc2
  go_enter Tryz.func171, Tryz.ntmps171
  go_wp2_with fail
  go_loopw [5, 8] (fun _ iv wr => ∃ i : Nat, i ≤ m ∧ iv = .int .i64 i ∧ Below w.heap.size (w.alloc (.cells #[.int .i64 o.1, .int .i64 o.2] 72)) wr ∧ Below w.heap.size w wr ∧ Hid (LocN wr w.heap.size [.int .i64 o.1, .int .i64 o.2])) (fun _ iv _ => n - (intOf iv).toNat)
  case atStart => exact ⟨0, by omega, by go_num, Below.refl _ _, b0, HL⟩
  case round =>
    obtain ⟨i, hile, rfl, hbel0, hbel, HLr⟩ := hrel
    have BW : Hid (∀ W, Below wr.heap.size wr W → Below w.heap.size (w.alloc (.cells #[.int .i64 o.1, .int .i64 o.2] 72)) W ∧ Below w.heap.size w W ∧ Hid (LocN W w.heap.size [.int .i64 o.1, .int .i64 o.2])) := fun W b => ⟨hbel0.trans (b.mono hbel.size), hbel.trans (b.mono hbel.size), HLr.out.go b⟩
    have m0 := HLr.out.c 0 _ rfl; have m1 := HLr.out.c 1 _ rfl; have ml := HLr.out.lt
    by_cases hin : i < n
    · obtain ⟨y, hy⟩ : ∃ y, l[i]? = some y := ⟨l[i]'(by rw [← EN.out]; exact hin), List.getElem?_eq_getElem _⟩
      obtain ⟨g, off, rfl, _, gl, c0, c1⟩ := ((show RowO X w (.slice p n cap) l by rw [EN.out]; exact H.out).below hbel).at hy
      have j1 : (i : Int) < (n : Int) := by omega
      by_cases e1 : y = o
      · have hm' : i = m := by
          rcases Nat.lt_or_ge i m with q | q
          · exact absurd e1 (HNOO.out i y q hy)
          · omega
        have hr : res = (i : Int) := by
          rcases HRES.out with ⟨q1, _⟩ | ⟨_, q2⟩
          · have := EN.out; omega
          · rw [q2, hm']
        subst e1 hr
        clear hy hm'
        go_wp2_with fail
        go_quiet (fail)
        go_wp2
        go_ret
        exact ⟨rfl, (BW.out _ (by repeat (first | exact Below.refl _ _ | refine Below.drew ?_ | refine below_drewN ?_ _ | refine Below.trans ?_ (Below.mono (by assumption) (by first | omega | (simp; omega) | (simp; done))) | refine Below.alloc ?_ (by first | omega | (simp; omega) | (simp; done)) _ | refine Below.setCell ?_ (by first | omega | (simp; omega) | (simp; done)) _))).2.1⟩
      · have HNX : Hid (i + 1 ≤ m) := by
          rcases Nat.lt_or_ge i m with q | q
          · exact q
          · exfalso
            have q' : i = m := by omega
            rcases HRES.out with ⟨q1, _⟩ | ⟨q2, _⟩
            · have := EN.out; omega
            · rw [← q', hy] at q2; exact e1 (Option.some.inj q2)
        have hb : (o.1 == y.1 && o.2 == y.2) = false := by
          cases q : (o.1 == y.1 && o.2 == y.2) with
          | false => rfl
          | true =>
            simp at q
            exact absurd (Prod.ext q.1.symm q.2.symm) e1
        clear hy e1
        go_wp2_with fail
        go_quiet (fail)
        go_wp2
        go_round
        case rel => exact ⟨i + 1, HNX.out, by go_num, BW.out _ (by repeat (first | exact Below.refl _ _ | refine Below.drew ?_ | refine below_drewN ?_ _ | refine Below.trans ?_ (Below.mono (by assumption) (by first | omega | (simp; omega) | (simp; done))) | refine Below.alloc ?_ (by first | omega | (simp; omega) | (simp; done)) _ | refine Below.setCell ?_ (by first | omega | (simp; omega) | (simp; done)) _))⟩
        case measure => simp [intOf]; omega
    · have hr : res = -1 := by
        rcases HRES.out with ⟨_, q⟩ | ⟨q, _⟩
        · exact q
        · have := (List.getElem?_eq_some_iff.1 q).1
          have := EN.out; omega
      subst hr
      go_wp2
      go_ret
      exact ⟨rfl, (BW.out _ (Below.refl _ _)).2.1⟩
set_option maxHeartbeats 1000000 in
set_option maxRecDepth 100000 in
theorem has_ob (o : Ob) (h : RowO X w v l) (hl : l.length ≤ 65536) :
    Calls Tryz.prog 158 #[v, .agg #[.int .i64 o.1, .int .i64 o.2]] w fun r w' => r = .returned (.bool (decide (o ∈ l))) ∧ Below w.heap.size w w' := by
  have b0 : Below w.heap.size w (w.alloc (.cells #[.int .i64 o.1, .int .i64 o.2] 72)) := (by repeat (first | exact Below.refl _ _ | refine Below.drew ?_ | refine below_drewN ?_ _ | refine Below.trans ?_ (Below.mono (by assumption) (by first | omega | (simp; omega) | (simp; done))) | refine Below.alloc ?_ (by first | omega | (simp; omega) | (simp; done)) _ | refine Below.setCell ?_ (by first | omega | (simp; omega) | (simp; done)) _))
  have HB := Lib.hid b0
  rcases first_ob o l with q | ⟨m, q1, q2⟩
  · have IX := Lib.hid (index_ob o (h.below b0) hl l.length (Nat.le_refl _) (fun j y _ hy e => q (e ▸ List.mem_of_getElem? hy)) (-1) (.inl ⟨rfl, rfl⟩))
    have d : decide (o ∈ l) = false := decide_eq_false q
    rw [d]
    clear h d q b0
    go_enter Tryz.func158, Tryz.ntmps158
    go_wp2_with fail
    refine IX.out.mono ?_
    rintro r w1 ⟨rfl, hb1⟩
    go_wp2
    go_ret
    exact ⟨rfl, HB.out.trans (hb1.mono (by simp))⟩
  · have IX := Lib.hid (index_ob o (h.below b0) hl m (Nat.le_of_lt (List.getElem?_eq_some_iff.1 q1).1) q2 m (.inr ⟨q1, rfl⟩))
    have d : decide (o ∈ l) = true := decide_eq_true (List.mem_of_getElem? q1)
    have dm : decide ((0 : Int) ≤ (m : Int)) = true := decide_eq_true (by omega)
    rw [d]
    clear h d q1 q2 b0
    go_enter Tryz.func158, Tryz.ntmps158
    go_wp2_with fail
    refine IX.out.mono ?_
    rintro r w1 ⟨rfl, hb1⟩
    go_wp2
    go_ret
    exact ⟨rfl, HB.out.trans (hb1.mono (by simp))⟩
/-- the closure of lies -/
def liesF (b : Nat) : Value := .func (.func 160) #[] #[.pointer (some ⟨b, 0, none⟩)]
set_option maxHeartbeats 1000000 in
set_option maxRecDepth 100000 in
theorem lies1_any (o : Ob) (b : Nat) (h : RowO X w v l) (hl : l.length ≤ 65536) (hb : LocN w b [.int .i64 o.1, .int .i64 o.2]) :
    Calls Tryz.prog 160 #[v, .pointer (some ⟨b, 0, none⟩)] w fun r w' => r = .returned (.bool (decide (o ∈ l))) ∧ Below w.heap.size w w' := by
  have HH := Lib.hid (has_ob o h hl)
  have c0 := hb.c 0 _ rfl; have c1 := hb.c 1 _ rfl; have cl := hb.lt
  obtain ⟨bb, hbb⟩ : ∃ bb, bb = decide (o ∈ l) := ⟨_, rfl⟩
  rw [← hbb] at HH ⊢
  clear h hbb
  go_enter Tryz.func160, Tryz.ntmps160
  go_wp2_with fail
  refine HH.out.mono ?_
  rintro r w1 ⟨rfl, hb1⟩
  go_wp2
  go_ret
  exact ⟨rfl, hb1⟩
end
theorem DepB.pile {X : List Nat} {B : Nat} {w : World} {pd pc gh : Nat} {V : HV} {vp : Value} {U : List Value} {H : List Hd} {P : List (List Ob)} (h : DepB X B w pd pc gh V vp U H P) :
    ∃ q k, vp = .slice q P.length k ∧ P.length ≤ k ∧ k ≤ maxLen ∧ ∀ (j : Nat) (m : List Ob), P[j]? = some m → ∃ g p c, q = some ⟨g, 0, none⟩ ∧ g < w.heap.size ∧ w.cell? ⟨g, j, none⟩ = some (.slice p m.length c) ∧ RowO X w (.slice p m.length c) m := by
  have ho := h.row
  have hul := h.ul
  rcases h.row.2 with ⟨rfl, h3⟩ | ⟨g, cap, cur, rfl, hg, hh, hcap, hmax, _⟩
  · refine ⟨none, 0, by rw [h3], by omega, by unfold maxLen; omega, fun j m hj => ?_⟩
    have := (List.getElem?_eq_some_iff.1 hj).1
    omega
  · refine ⟨some ⟨g, 0, none⟩, cap, rfl, hcap, hmax, fun j m hj => ?_⟩
    have hlt := (List.getElem?_eq_some_iff.1 hj).1
    obtain ⟨u, hu⟩ : ∃ u, U[j]? = some u := ⟨U[j]'(by omega), List.getElem?_eq_getElem _⟩
    have r := h.po j u m hu hj
    obtain ⟨p, c, rfl, _, _⟩ := r.isSlice
    exact ⟨g, p, c, rfl, (ho.lt g rfl).2, by rw [ho.cellAt j (by omega)]; exact hu, r⟩
theorem first_mag (o : Ob) : ∀ P : List (List Ob), (∀ m ∈ P, o ∉ m) ∨ ∃ (i : Nat) (m : List Ob), P[i]? = some m ∧ o ∈ m ∧ ∀ (j : Nat) (y : List Ob), j < i → P[j]? = some y → o ∉ y
  | [] => .inl (fun m hm => by cases hm)
  | a :: P => by
    by_cases h : o ∈ a
    · exact .inr ⟨0, a, rfl, h, fun j y hj => by omega⟩
    · rcases first_mag o P with q | ⟨i, m, q1, q2, q3⟩
      · refine .inl fun m hm => ?_
        rcases List.mem_cons.1 hm with rfl | r
        · exact h
        · exact q m r
      · refine .inr ⟨i + 1, m, by simpa using q1, q2, fun j y hj hy => ?_⟩
        cases j with
        | zero => simp at hy; subst hy; exact h
        | succ j => exact q3 j y (by omega) (by simpa using hy)
section
variable {X : List Nat} {w : World}
set_option maxHeartbeats 1000000 in
set_option maxRecDepth 100000 in
theorem indexf_ob (o : Ob) (b : Nat) (q : Option Addr) (k : Nat) (P : List (List Ob)) (hp4 : ∀ m ∈ P, m.length = 4) (hpl : P.length ≤ 65536)
    (hrow : ∀ (j : Nat) (m : List Ob), P[j]? = some m → ∃ g p c, q = some ⟨g, 0, none⟩ ∧ g < w.heap.size ∧ w.cell? ⟨g, j, none⟩ = some (.slice p m.length c) ∧ RowO X w (.slice p m.length c) m) (hb : LocN w b [.int .i64 o.1, .int .i64 o.2])
    (i0 : Nat) (hm : i0 ≤ P.length) (hno : ∀ (j : Nat) (y : List Ob), j < i0 → P[j]? = some y → o ∉ y) (res : Int) (hres : (i0 = P.length ∧ res = -1) ∨ ((∃ m, P[i0]? = some m ∧ o ∈ m) ∧ res = i0)) :
    Calls Tryz.prog 172 #[.slice q P.length k, liesF b] w fun r w' => r = .returned (.int .i64 res) ∧ Below w.heap.size w w' := by
  have HROW := Lib.hid hrow; have HNOO := Lib.hid hno; have HRES := Lib.hid hres; have HB := Lib.hid hb; have HP4 := Lib.hid hp4
  obtain ⟨n, hn⟩ : ∃ n, n = P.length := ⟨_, rfl⟩
  have EN := Lib.hid hn
  rw [← hn] at hpl hm ⊢
  unfold liesF
  clear hrow hno hres hn hb hp4
  go_enter Tryz.func172, Tryz.ntmps172
  go_wp2_with fail
  go_loopw [5, 8] (fun _ iv wr => ∃ i : Nat, i ≤ i0 ∧ iv = .int .i64 i ∧ Below w.heap.size w wr) (fun _ iv _ => n - (intOf iv).toNat)
  case atStart => exact ⟨0, by omega, by go_num, Below.refl _ _⟩
  case round =>
    obtain ⟨i, hile, rfl, hbel⟩ := hrel
    have zr := hbel.size
    by_cases hin : i < n
    · obtain ⟨y, hy⟩ : ∃ y, P[i]? = some y := ⟨P[i]'(by rw [← EN.out]; exact hin), List.getElem?_eq_getElem _⟩
      obtain ⟨g, p, c, rfl, gl, c0, ro⟩ := HROW.out i y hy
      have c0' := (hbel.cell (p := ⟨g, i, none⟩) gl).trans c0
      have gl' : g < wr.heap.size := by omega
      have j1 : (i : Int) < (n : Int) := by omega
      have y4 := HP4.out y (List.mem_of_getElem? hy)
      have LI := Lib.hid (lies1_any o b (ro.below hbel) (by omega) (HB.out.go hbel))
      rw [y4] at c0' LI
      by_cases e1 : o ∈ y
      · have d : decide (o ∈ y) = true := decide_eq_true e1
        have hm' : i = i0 := by
          rcases Nat.lt_or_ge i i0 with q | q
          · exact absurd e1 (HNOO.out i y q hy)
          · omega
        have hr : res = (i : Int) := by
          rcases HRES.out with ⟨q1, _⟩ | ⟨_, q2⟩
          · have := EN.out; omega
          · rw [q2, hm']
        rw [d] at LI
        subst hr
        clear hy hm' c0 ro d e1
        go_wp2_with fail
        refine LI.out.mono ?_
        rintro r w1 ⟨rfl, hb1⟩
        go_wp2
        go_ret
        exact ⟨rfl, hbel.trans (hb1.mono zr)⟩
      · have d : decide (o ∈ y) = false := decide_eq_false e1
        have HNX : Hid (i + 1 ≤ i0) := by
          rcases Nat.lt_or_ge i i0 with q | q
          · exact q
          · exfalso
            have q' : i = i0 := by omega
            rcases HRES.out with ⟨q1, _⟩ | ⟨⟨m, q2, q3⟩, _⟩
            · have := EN.out; omega
            · rw [← q', hy] at q2; exact e1 (by rw [Option.some.inj q2]; exact q3)
        rw [d] at LI
        clear hy c0 ro d e1
        go_wp2_with fail
        refine LI.out.mono ?_
        rintro r w1 ⟨rfl, hb1⟩
        go_wp2
        go_round
        case rel => exact ⟨i + 1, HNX.out, by go_num, hbel.trans (hb1.mono zr)⟩
        case measure => simp [intOf]; omega
    · have hr : res = -1 := by
        rcases HRES.out with ⟨_, q⟩ | ⟨⟨m, q, _⟩, _⟩
        · exact q
        · have := (List.getElem?_eq_some_iff.1 q).1
          have := EN.out; omega
      subst hr
      go_wp2
      go_ret
      exact ⟨rfl, hbel⟩
set_option maxHeartbeats 1000000 in
theorem containsf_ob (o : Ob) (b : Nat) (q : Option Addr) (k : Nat) (P : List (List Ob)) (hp4 : ∀ m ∈ P, m.length = 4) (hpl : P.length ≤ 65536)
    (hrow : ∀ (j : Nat) (m : List Ob), P[j]? = some m → ∃ g p c, q = some ⟨g, 0, none⟩ ∧ g < w.heap.size ∧ w.cell? ⟨g, j, none⟩ = some (.slice p m.length c) ∧ RowO X w (.slice p m.length c) m) (hb : LocN w b [.int .i64 o.1, .int .i64 o.2]) :
    Calls Tryz.prog 159 #[.slice q P.length k, liesF b] w fun r w' => r = .returned (.bool (decide (o ∈ P.flatten))) ∧ Below w.heap.size w w' := by
  rcases first_mag o P with h | ⟨i, m, h1, h2, h3⟩
  · have IX := Lib.hid (indexf_ob (X := X) o b q k P hp4 hpl hrow hb P.length (Nat.le_refl _) (fun j y _ hy => h y (List.mem_of_getElem? hy)) (-1) (.inl ⟨rfl, rfl⟩))
    have d : decide (o ∈ P.flatten) = false := decide_eq_false (fun r => by
      obtain ⟨m, r1, r2⟩ := List.mem_flatten.1 r
      exact h m r1 r2)
    rw [d]
    clear hrow hb h d hp4
    obtain ⟨n, hn⟩ : ∃ n, n = P.length := ⟨_, rfl⟩
    rw [← hn] at IX ⊢
    clear hn
    go_enter Tryz.func159, Tryz.ntmps159
    go_wp2_with fail
    refine IX.out.mono ?_
    rintro r w1 ⟨rfl, hb1⟩
    go_wp2
    go_ret
    exact ⟨rfl, hb1⟩
  · have IX := Lib.hid (indexf_ob (X := X) o b q k P hp4 hpl hrow hb i (Nat.le_of_lt (List.getElem?_eq_some_iff.1 h1).1) h3 i (.inr ⟨⟨m, h1, h2⟩, rfl⟩))
    have d : decide (o ∈ P.flatten) = true := decide_eq_true (List.mem_flatten.2 ⟨m, List.mem_of_getElem? h1, h2⟩)
    have dm : decide ((0 : Int) ≤ (i : Int)) = true := decide_eq_true (by omega)
    rw [d]
    clear hrow hb h1 h2 h3 d hp4
    obtain ⟨n, hn⟩ : ∃ n, n = P.length := ⟨_, rfl⟩
    rw [← hn] at IX ⊢
    clear hn
    go_enter Tryz.func159, Tryz.ntmps159
    go_wp2_with fail
    refine IX.out.mono ?_
    rintro r w1 ⟨rfl, hb1⟩
    go_wp2
    go_ret
    exact ⟨rfl, hb1⟩
end
end Go.Proofs.YtcokmiidgdmdlaaGreatDoor
