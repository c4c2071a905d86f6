/- Package magazine: Take from a hand, from the pile, from the cache. -/
import Derived.Test.YtcokmiidgdmdlaaGreatDoorDTake
import Derived.Test.YtcokmiidgdmdlaaGreatDoorSAp
namespace Go.Proofs.YtcokmiidgdmdlaaGreatDoor
open Go.RowKit Go.Maps
set_option linter.unusedSimpArgs false
set_option linter.unusedVariables false
attribute [local go_sem ↓] Go.wp_at_zero Go.wp_at_succ

section
variable {X Y S F : List Nat} {B : Nat} {ev : Nat → Addr} {w w' : World} {pd pc pz gh e : Nat} {mn lw hi : Int} {O : List (List Int)} {v vp vp' : Value} {A : SA} {V : HV} {U U' : List Value} {d : De} {c : Ca} {P' : List (List Ob)}
theorem handD_of {k : Nat} {g : Hd} (h : d.H[k]? = some g) : handD d k = some g := by
  unfold handD
  rw [if_neg (by omega), Int.toNat_natCast, h]
set_option maxHeartbeats 2000000 in
set_option maxRecDepth 100000 in
/-- of a loaded magazine -/
theorem dtake_A (k : Nat) (n : Int) (u : Bool) (h : CD B w X pd pc pz gh mn lw hi O e v A V vp U d) (hF : Hid (∀ f ∈ F, f ∈ X ∧ f ∉ xd pc v A d.c.L pd gh vp)) (hI : InvD e d) {l r : List Ob} {o : Ob} (hk : d.H[k]? = some (l ++ [o], r)) :
    Calls Tryz.prog 33 #[.pointer (some ⟨pd, 0, none⟩), .int .i64 k, .int .i64 n, .bool u] w (DtkPost B ev pd pc pz gh mn lw hi O e X F w (takeD mn O e d k n u)) := by
  have hkl := (List.getElem?_eq_some_iff.1 hk).1
  have hl4 := (hI.h4 _ (List.mem_of_getElem? hk)).1
  have ld : loadD (l ++ [o], r) d.P = ((l ++ [o], r), d.P) := by unfold loadD; rw [if_neg (by simp)]
  have et : takeD mn O e d k n u = (⟨d.c, d.H.set k (l, r), d.P⟩, 0, o) := by
    rw [takeD_pop (handD_of hk) (o := o) (by rw [ld]; simp), ld]
    simp
  rw [et]
  have b1 : Below w.heap.size w (w.alloc (.cells #[.int .i64 0, .int .i64 0] 72)) := (by repeat (first | exact Below.refl _ _ | refine Below.drew ?_ | refine below_drewN ?_ _ | refine Below.trans ?_ (Below.mono (by assumption) (by first | omega | (simp; omega) | (simp; done))) | refine Below.alloc ?_ (by first | omega | (simp; omega) | (simp; done)) _ | refine Below.setCell ?_ (by first | omega | (simp; omega) | (simp; done)) _))
  have L1 := Lib.hid (show LocN (w.alloc (.cells #[.int .i64 0, .int .i64 0] 72)) w.heap.size [.int .i64 0, .int .i64 0] from LocN.mk_ w [.int .i64 0, .int .i64 0] 72 rfl)
  obtain ⟨W1, hW1⟩ : ∃ W1, W1 = w.alloc (.cells #[.int .i64 0, .int .i64 0] 72) := ⟨_, rfl⟩
  have h1 := h.below b1
  rw [← hW1] at b1 L1 h1
  have s1 : W1.heap.size = w.heap.size + 1 := by rw [hW1]; simp
  obtain ⟨p, hp, o1, o2, g0, g1, f0, f1, gl⟩ := h1.hand hk
  obtain ⟨⟨pa, pb⟩, rfl⟩ : ∃ q, q = p := ⟨_, rfl⟩
  obtain ⟨q, cap, e1, cp1, cp2⟩ := o1.isSlice
  obtain ⟨q2, cap2, e2, _, _⟩ := o2.isSlice
  simp only at e1 e2 g0 g1 hp
  subst e1 e2
  obtain ⟨og, off, rfl, _, ogl, t0, t1⟩ := RowO.at (by simpa using o1) (j := l.length) (o := o) (by simp)
  obtain ⟨qp, kp, evp⟩ : ∃ qp kp, vp = .slice qp d.P.length kp := by
    rcases h1.de.row.2 with ⟨a1, a2⟩ | ⟨_, cap', _, a1, _⟩
    · exact ⟨none, 0, by rw [a1, a2]⟩
    · exact ⟨_, cap', a1⟩
  have c0 := h1.de.d.c 0 _ rfl; have c1 := h1.de.d.c 1 _ rfl; have c2 := h1.de.d.c 2 _ rfl; have cl := h1.de.d.lt
  rw [evp] at c2
  have pl : d.P.length ≤ 65536 := by
    have hh := (held_len hI).1
    have h2 := obs_few hI.c
    omega
  have e3 : (l ++ [o]).length = l.length + 1 := by simp
  rw [e3] at g0 hl4 cp1
  obtain ⟨m, hm⟩ : ∃ m, m = l.length := ⟨_, rfl⟩
  rw [← hm] at g0 t0 t1 hl4 cp1
  have HD := Lib.hid (dhand_ok h1 k hkl)
  have hw1 : IntKind.i64.wrap (((m + 1 : Nat) : Int) - 1) = (m : Int) := by rw [IntWalk.i64_in _ (by omega)]; omega
  have hw2 : IntKind.i64.wrap ((d.P.length : Int) - 1) = (d.P.length : Int) - 1 := IntWalk.i64_in _ (by omega)
  have d1 : decide ((m + 1 : Nat) = 0) = false := by simp
  have d2 : decide ((m : Int) < 0) = false := decide_eq_false (by omega)
  have rg : ¬ (w.heap.size = gh) := fun q => by have := (h.de.lim gh h.gh_mem).2; omega
  have gr : ¬ (gh = w.heap.size) := fun q => rg q.symm
  obtain ⟨p', hp', o1', o2', _⟩ := h.hand hk
  rw [hp] at hp'
  obtain rfl := Option.some.inj hp'
  have ro1 : RowO X w (.slice (some ⟨og, off, none⟩) m cap) l := by
    obtain ⟨q', cap', e4, e5⟩ := o1'.cut m (by rw [hm]; simp)
    simp only at e4
    injection e4 with e6 _ e7
    subst e6 e7
    simpa [hm] using e5
  have HFIN : Hid (∀ W, Keep [gh] w W → LocN W gh (handL (V.set k (.slice (some ⟨og, off, none⟩) m cap, .slice q2 r.length cap2))) → DtkPost B ev pd pc pz gh mn lw hi O e X F w (⟨d.c, d.H.set k (l, r), d.P⟩, 0, o) (.returned (.tuple #[.agg #[.int .i64 o.1, .int .i64 o.2], .nilIface])) W) := fun W kk hg =>
    ⟨rfl, X, ⟨_, _, _, _, _, h.setHand k (p' := (.slice (some ⟨og, off, none⟩) m cap, .slice q2 r.length cap2)) (h' := (l, r)) hkl ro1 o2' kk hg, hF.out⟩, kk.mono (fun s q => by simp at q; subst q; exact h.offy hF.out h.gh_mem), fun _ q => .inl q, fun _ q => q⟩
  have HLOC := Lib.hid (h1.loc1 hp hkl (.slice (some ⟨og, off, none⟩) m cap))
  have HLB := Lib.hid (fun (x : Obj) => (h1.below (w' := W1.alloc x) (by repeat (first | exact Below.refl _ _ | refine Below.drew ?_ | refine below_drewN ?_ _ | refine Below.trans ?_ (Below.mono (by assumption) (by first | omega | (simp; omega) | (simp; done))) | refine Below.alloc ?_ (by first | omega | (simp; omega) | (simp; done)) _ | refine Below.setCell ?_ (by first | omega | (simp; omega) | (simp; done)) _))).loc1 hp hkl (.slice (some ⟨og, off, none⟩) m cap))
  have HB1 := Lib.hid b1; have HS1 := Lib.hid s1
  have rl : w.heap.size < W1.heap.size := by omega
  have LL := L1.out
  have v0 := LL.c 0 _ rfl; have v1 := LL.c 1 _ rfl; have vf0 := LL.f 0 (by simp); have vf1 := LL.f 1 (by simp)
  clear h h1 hI hk hp o1 o2 o1' o2' ro1 e3 hm ld et b1 s1 evp hp'
  go_enter Tryz.func33, Tryz.ntmps33
  go_wp2_with fail
  rw [← hW1]
  clear hW1
  refine HD.out.mono ?_
  rintro r' w1 ⟨rfl, rfl⟩
  go_wp2
  have M := Lib.hid ((((L1.out.far (c := gh) gr (k * 2) (.slice (some ⟨og, off, none⟩) m cap)).store2 (.int .i64 o.1) (.int .i64 o.2))).past (.cells #[.int .i64 o.1, .int .i64 o.2] 72))
  have x0 := M.out.c 0 _ rfl; have x1 := M.out.c 1 _ rfl
  refine bodyPost_ret (v := .tuple #[.agg #[.int .i64 o.1, .int .i64 o.2], .nilIface]) (by simp [x0, x1, results, Tryz.results33, go_sem]) rfl (HFIN.out _ ?_ ?_)
  · exact (((((Keep.of HB1.out).setCell (p := ⟨gh, k * 2, none⟩) (.inl (by simp)) _).setCell (p := ⟨w.heap.size, 0, none⟩) (.inr (Nat.le_refl _)) _).setCell (p := ⟨w.heap.size, 1, none⟩) (.inr (Nat.le_refl _)) _).alloc _)
  · exact ((HLOC.out.far rg 0 _).far rg 1 _).past _
set_option maxHeartbeats 2000000 in
set_option maxRecDepth 100000 in
/-- of the other magazine -/
theorem dtake_B (k : Nat) (n : Int) (u : Bool) (h : CD B w X pd pc pz gh mn lw hi O e v A V vp U d) (hF : Hid (∀ f ∈ F, f ∈ X ∧ f ∉ xd pc v A d.c.L pd gh vp)) (hI : InvD e d) {l : List Ob} {o : Ob} (hk : d.H[k]? = some ([], l ++ [o])) :
    Calls Tryz.prog 33 #[.pointer (some ⟨pd, 0, none⟩), .int .i64 k, .int .i64 n, .bool u] w (DtkPost B ev pd pc pz gh mn lw hi O e X F w (takeD mn O e d k n u)) := by
  have hkl := (List.getElem?_eq_some_iff.1 hk).1
  have hl4 := (hI.h4 _ (List.mem_of_getElem? hk)).2
  have ld : loadD ([], l ++ [o]) d.P = ((l ++ [o], []), d.P) := by unfold loadD; rw [if_pos rfl, if_neg (by simp)]
  have et : takeD mn O e d k n u = (⟨d.c, d.H.set k (l, []), d.P⟩, 0, o) := by
    rw [takeD_pop (handD_of hk) (o := o) (by rw [ld]; simp), ld]
    simp
  rw [et]
  have b1 : Below w.heap.size w (w.alloc (.cells #[.int .i64 0, .int .i64 0] 72)) := (by repeat (first | exact Below.refl _ _ | refine Below.drew ?_ | refine below_drewN ?_ _ | refine Below.trans ?_ (Below.mono (by assumption) (by first | omega | (simp; omega) | (simp; done))) | refine Below.alloc ?_ (by first | omega | (simp; omega) | (simp; done)) _ | refine Below.setCell ?_ (by first | omega | (simp; omega) | (simp; done)) _))
  have L1 := Lib.hid (show LocN (w.alloc (.cells #[.int .i64 0, .int .i64 0] 72)) w.heap.size [.int .i64 0, .int .i64 0] from LocN.mk_ w [.int .i64 0, .int .i64 0] 72 rfl)
  obtain ⟨W1, hW1⟩ : ∃ W1, W1 = w.alloc (.cells #[.int .i64 0, .int .i64 0] 72) := ⟨_, rfl⟩
  have h1 := h.below b1
  rw [← hW1] at b1 L1 h1
  have s1 : W1.heap.size = w.heap.size + 1 := by rw [hW1]; simp
  obtain ⟨p, hp, o1, o2, g0, g1, f0, f1, gl⟩ := h1.hand hk
  obtain ⟨⟨pa, pb⟩, rfl⟩ : ∃ q, q = p := ⟨_, rfl⟩
  obtain ⟨q2, cap2, e2, _, _⟩ := o1.isSlice
  obtain ⟨q, cap, e1, cp1, cp2⟩ := o2.isSlice
  simp only at e1 e2 g0 g1 hp
  subst e1 e2
  obtain ⟨og, off, rfl, ogx, ogl, t0, t1⟩ := RowO.at (by simpa using o2) (j := l.length) (o := o) (by simp)
  obtain ⟨qp, kp, evp⟩ : ∃ qp kp, vp = .slice qp d.P.length kp := by
    rcases h1.de.row.2 with ⟨a1, a2⟩ | ⟨_, cap', _, a1, _⟩
    · exact ⟨none, 0, by rw [a1, a2]⟩
    · exact ⟨_, cap', a1⟩
  have c0 := h1.de.d.c 0 _ rfl; have c1 := h1.de.d.c 1 _ rfl; have c2 := h1.de.d.c 2 _ rfl; have cl := h1.de.d.lt
  rw [evp] at c2
  have pl : d.P.length ≤ 65536 := by
    have hh := (held_len hI).1
    have h2 := obs_few hI.c
    omega
  have e3 : (l ++ [o]).length = l.length + 1 := by simp
  rw [e3] at g1 hl4 cp1
  rw [show ([] : List Ob).length = 0 from rfl] at g0
  obtain ⟨m, hm⟩ : ∃ m, m = l.length := ⟨_, rfl⟩
  rw [← hm] at g1 t0 t1 hl4 cp1
  have HD := Lib.hid (dhand_ok h1 k hkl)
  have hw1 : IntKind.i64.wrap (((m + 1 : Nat) : Int) - 1) = (m : Int) := by rw [IntWalk.i64_in _ (by omega)]; omega
  have hw2 : IntKind.i64.wrap ((d.P.length : Int) - 1) = (d.P.length : Int) - 1 := IntWalk.i64_in _ (by omega)
  have d1 : decide ((m + 1 : Nat) = 0) = false := by simp
  have d2 : decide ((m : Int) < 0) = false := decide_eq_false (by omega)
  have rg : ¬ (w.heap.size = gh) := fun q => by have := (h.de.lim gh h.gh_mem).2; omega
  have gr : ¬ (gh = w.heap.size) := fun q => rg q.symm
  obtain ⟨p', hp', o1', o2', _⟩ := h.hand hk
  rw [hp] at hp'
  obtain rfl := Option.some.inj hp'
  have ro1 : RowO X w (.slice (some ⟨og, off, none⟩) m cap) l := by
    obtain ⟨q', cap', e4, e5⟩ := o2'.cut m (by rw [hm]; simp)
    simp only at e4
    injection e4 with e6 _ e7
    subst e6 e7
    simpa [hm] using e5
  have HFIN : Hid (∀ W, Keep [gh] w W → LocN W gh (handL (V.set k (.slice (some ⟨og, off, none⟩) m cap, .slice q2 0 cap2))) → DtkPost B ev pd pc pz gh mn lw hi O e X F w (⟨d.c, d.H.set k (l, []), d.P⟩, 0, o) (.returned (.tuple #[.agg #[.int .i64 o.1, .int .i64 o.2], .nilIface])) W) := fun W kk hg =>
    ⟨rfl, X, ⟨_, _, _, _, _, h.setHand k (p' := (.slice (some ⟨og, off, none⟩) m cap, .slice q2 0 cap2)) (h' := (l, [])) hkl ro1 o1' kk hg, hF.out⟩, kk.mono (fun s q => by simp at q; subst q; exact h.offy hF.out h.gh_mem), fun _ q => .inl q, fun _ q => q⟩
  have vl : V.length = d.H.length := h1.de.hl
  have HL2 : Hid (LocN ((W1.setCell ⟨gh, k * 2, none⟩ (.slice (some ⟨og, off, none⟩) (m + 1) cap)).setCell ⟨gh, k * 2 + 1, none⟩ (.slice q2 0 cap2)).drew gh (handL (V.set k (.slice (some ⟨og, off, none⟩) (m + 1) cap, .slice q2 0 cap2)))) := by
    have a1 := hloc1 h1.de.hs hp (.slice (some ⟨og, off, none⟩) (m + 1) cap)
    have a2 := hloc2 a1 (hset2 (by omega) _) (.slice q2 0 cap2)
    rw [hset1] at a2
    exact a2.drewL
  have SW := Lib.hid (dswap_ok gh (k * 2) q2 (some ⟨og, off, none⟩) 0 (m + 1) cap2 cap _ _ rfl rfl W1 g0 g1 f0 f1 gl)
  have d3 : decide (0 < m + 1) = true := by simp
  have VL : Hid (k < V.length) := by show k < V.length; omega
  have GO : Hid (¬ (og = gh)) := fun q => ogx (q ▸ h.de.mem gh h.gh_mem)
  have PG : Hid (¬ (pd = gh)) := fun q => (List.nodup_cons.1 h.de.nd).1 (q ▸ List.mem_cons_self ..)
  have HB1 := Lib.hid b1; have HS1 := Lib.hid s1
  have rl : w.heap.size < W1.heap.size := by omega
  have LL := L1.out
  have v0 := LL.c 0 _ rfl; have v1 := LL.c 1 _ rfl; have vf0 := LL.f 0 (by simp); have vf1 := LL.f 1 (by simp)
  clear h h1 hI hk hp o1 o2 o1' o2' ro1 e3 hm ld et b1 s1 evp hp' f0 f1
  go_enter Tryz.func33, Tryz.ntmps33
  go_wp2_with fail
  rw [← hW1]
  clear hW1
  refine HD.out.mono ?_
  rintro r' w1 ⟨rfl, rfl⟩
  go_wp2_with fail
  refine SW.out.mono ?_
  rintro r' w2 ⟨rfl, hw2⟩
  rw [← hw2] at HL2
  have K2 : Keep [gh] w1 w2 := by rw [hw2]; exact (((Keep.refl _ _).setCell (p := ⟨gh, k * 2, none⟩) (.inl (by simp)) _).setCell (p := ⟨gh, k * 2 + 1, none⟩) (.inl (by simp)) _).drew
  have g0' := HL2.out.c (k * 2) _ (handL_get (hset2 VL.out _)).1
  have g1' := HL2.out.c (k * 2 + 1) _ (handL_get (hset2 VL.out _)).2
  have f0' := HL2.out.f (k * 2) (by rw [handL_length, List.length_set]; have := VL.out; omega)
  have gl' := HL2.out.lt
  have t0' := (K2.cell (o := off + m * 2) ogl (by simpa using GO.out)).trans t0
  have t1' := (K2.cell (o := off + m * 2 + 1) ogl (by simpa using GO.out)).trans t1
  have ogl' := Nat.lt_of_lt_of_le ogl K2.size
  have c2' := (K2.cell (o := 2) cl (by simpa using PG.out)).trans c2
  have cl' := Nat.lt_of_lt_of_le cl K2.size
  have LL2 := L1.out.keep K2 (by simpa using rg)
  have v0' := LL2.c 0 _ rfl; have v1' := LL2.c 1 _ rfl; have vf0' := LL2.f 0 (by simp); have vf1' := LL2.f 1 (by simp); have rl' := LL2.lt
  have KW2 := Lib.hid ((Keep.of (S := [gh]) HB1.out).then K2)
  have HL3 := Lib.hid (hloc1 HL2.out (hset2 VL.out _) (.slice (some ⟨og, off, none⟩) m cap))
  rw [hset1] at HL3
  have HLL2 := Lib.hid LL2
  clear g0 g1 t0 t1 ogl c0 c1 c2 cl LL v0 v1 vf0 vf1 rl gl hw2 K2 SW HL2 HD LL2
  go_wp2
  have M := Lib.hid ((((HLL2.out.far (c := gh) gr (k * 2) (.slice (some ⟨og, off, none⟩) m cap)).store2 (.int .i64 o.1) (.int .i64 o.2))).past (.cells #[.int .i64 o.1, .int .i64 o.2] 72))
  have x0 := M.out.c 0 _ rfl; have x1 := M.out.c 1 _ rfl
  refine bodyPost_ret (v := .tuple #[.agg #[.int .i64 o.1, .int .i64 o.2], .nilIface]) (by simp [x0, x1, results, Tryz.results33, go_sem]) rfl (HFIN.out _ ?_ ?_)
  · exact (((((KW2.out).setCell (p := ⟨gh, k * 2, none⟩) (.inl (by simp)) _).setCell (p := ⟨w.heap.size, 0, none⟩) (.inr (Nat.le_refl _)) _).setCell (p := ⟨w.heap.size, 1, none⟩) (.inr (Nat.le_refl _)) _).alloc _)
  · exact ((HL3.out.far rg 0 _).far rg 1 _).past _
set_option maxHeartbeats 2000000 in
set_option maxRecDepth 100000 in
/-- of the pile -/
theorem dtake_C (k : Nat) (n : Int) (u : Bool) (h : CD B w X pd pc pz gh mn lw hi O e v A V vp U d) (hF : Hid (∀ f ∈ F, f ∈ X ∧ f ∉ xd pc v A d.c.L pd gh vp)) (hI : InvD e d) {l : List Ob} {o : Ob} {P0 : List (List Ob)} (hk : d.H[k]? = some ([], [])) (hP : d.P = P0 ++ [l ++ [o]]) :
    Calls Tryz.prog 33 #[.pointer (some ⟨pd, 0, none⟩), .int .i64 k, .int .i64 n, .bool u] w (DtkPost B ev pd pc pz gh mn lw hi O e X F w (takeD mn O e d k n u)) := by
  have hkl := (List.getElem?_eq_some_iff.1 hk).1
  have hl4 := hI.p4 (l ++ [o]) (by rw [hP]; simp)
  have ld : loadD ([], []) d.P = ((l ++ [o], []), P0) := by unfold loadD; rw [if_pos rfl, if_pos rfl, hP]; simp
  have et : takeD mn O e d k n u = (⟨d.c, d.H.set k (l, []), P0⟩, 0, o) := by
    rw [takeD_pop (handD_of hk) (o := o) (by rw [ld]; simp), ld]
    simp
  rw [et]
  have b1 : Below w.heap.size w (w.alloc (.cells #[.int .i64 0, .int .i64 0] 72)) := (by repeat (first | exact Below.refl _ _ | refine Below.drew ?_ | refine below_drewN ?_ _ | refine Below.trans ?_ (Below.mono (by assumption) (by first | omega | (simp; omega) | (simp; done))) | refine Below.alloc ?_ (by first | omega | (simp; omega) | (simp; done)) _ | refine Below.setCell ?_ (by first | omega | (simp; omega) | (simp; done)) _))
  have L1 := Lib.hid (show LocN (w.alloc (.cells #[.int .i64 0, .int .i64 0] 72)) w.heap.size [.int .i64 0, .int .i64 0] from LocN.mk_ w [.int .i64 0, .int .i64 0] 72 rfl)
  obtain ⟨W1, hW1⟩ : ∃ W1, W1 = w.alloc (.cells #[.int .i64 0, .int .i64 0] 72) := ⟨_, rfl⟩
  have h1 := h.below b1
  rw [← hW1] at b1 L1 h1
  have s1 : W1.heap.size = w.heap.size + 1 := by rw [hW1]; simp
  obtain ⟨p, hp, o1, o2, g0, g1, f0, f1, gl⟩ := h1.hand hk
  obtain ⟨⟨pa, pb⟩, rfl⟩ : ∃ q, q = p := ⟨_, rfl⟩
  obtain ⟨q2, cap2, e2, _, _⟩ := o1.isSlice
  obtain ⟨q3, cap3, e1, _, _⟩ := o2.isSlice
  simp only at e1 e2 g0 g1 hp
  subst e1 e2
  rw [show ([] : List Ob).length = 0 from rfl] at g0 g1 hp
  -- the pile
  have pN : d.P.length = P0.length + 1 := by rw [hP]; simp
  have hUl := h1.de.ul
  obtain ⟨uu, huu⟩ : ∃ uu, U[P0.length]? = some uu := ⟨U[P0.length]'(by omega), List.getElem?_eq_getElem _⟩
  have ruu := h.de.po _ _ _ huu (show d.P[P0.length]? = some (l ++ [o]) by rw [hP]; simp)
  obtain ⟨q, cap, e4, cp1, cp2⟩ := ruu.isSlice
  subst e4
  obtain ⟨og, off, rfl, ogx, ogl, t0, t1⟩ := RowO.at ruu (j := l.length) (o := o) (by simp)
  obtain ⟨gp, kp, rfl, kp1, kp2, hru⟩ : ∃ gp kp, vp = .slice (some ⟨gp, 0, none⟩) d.P.length kp ∧ d.P.length ≤ kp ∧ kp ≤ maxLen ∧ W1.cell? ⟨gp, P0.length, none⟩ = some (.slice (some ⟨og, off, none⟩) (l ++ [o]).length cap) := by
    have ho := h1.de.row
    rcases h1.de.row.2 with ⟨a1, a2⟩ | ⟨gp, cap', cur, a1, a2, a3, a4, a5, _⟩
    · omega
    · subst a1
      refine ⟨gp, cap', rfl, a4, a5, ?_⟩
      rw [ho.cellAt _ (by omega)]
      exact huu
  have c0 := h1.de.d.c 0 _ rfl; have c1 := h1.de.d.c 1 _ rfl; have c2 := h1.de.d.c 2 _ rfl; have cl := h1.de.d.lt; have cf := h1.de.d.f 2 (by simp)
  have pl : d.P.length ≤ 65536 := by
    have hh := (held_len hI).1
    have h2 := obs_few hI.c
    omega
  have e3 : (l ++ [o]).length = l.length + 1 := by simp
  rw [e3] at hru hl4 cp1
  obtain ⟨m, hm⟩ : ∃ m, m = l.length := ⟨_, rfl⟩
  rw [← hm] at hru t0 t1 hl4 cp1
  obtain ⟨N, hN⟩ : ∃ N, N = P0.length := ⟨_, rfl⟩
  rw [pN, ← hN] at c2 kp1 pl
  rw [← hN] at hru
  have HD := Lib.hid (dhand_ok h1 k hkl)
  have hw1 : IntKind.i64.wrap (((m + 1 : Nat) : Int) - 1) = (m : Int) := by rw [IntWalk.i64_in _ (by omega)]; omega
  have hw2 : IntKind.i64.wrap (((N + 1 : Nat) : Int) - 1) = (N : Int) := by rw [IntWalk.i64_in _ (by omega)]; omega
  have d1 : decide ((m + 1 : Nat) = 0) = false := by simp
  have d2 : decide ((m : Int) < 0) = false := decide_eq_false (by omega)
  have d4 : decide ((0 : Int) ≤ (N : Int)) = true := decide_eq_true (by omega)
  have rg : ¬ (w.heap.size = gh) := fun q => by have := (h.de.lim gh h.gh_mem).2; omega
  have gr : ¬ (gh = w.heap.size) := fun q => rg q.symm
  have rp : ¬ (w.heap.size = pd) := fun q => by have := (h.de.lim pd h.pd_mem).2; omega
  have PG : ¬ (pd = gh) := fun q => (List.nodup_cons.1 h.de.nd).1 (q ▸ List.mem_cons_self ..)
  have GP : ¬ (gh = pd) := fun q => PG q.symm
  have gpl : gp < W1.heap.size := (h1.de.row.lt gp rfl).2
  have t0' := (b1.cell (p := ⟨og, off + m * 2, none⟩) ogl).trans t0
  have t1' := (b1.cell (p := ⟨og, off + m * 2 + 1, none⟩) ogl).trans t1
  have ogl' := Nat.lt_of_lt_of_le ogl b1.size
  have GO : Hid (¬ (og = gh)) := fun q => ogx (q ▸ h.de.mem gh h.gh_mem)
  have PO : Hid (¬ (og = pd)) := fun q => ogx (q ▸ h.de.mem pd h.pd_mem)
  obtain ⟨p', hp', o1', o2', _⟩ := h.hand hk
  rw [hp] at hp'
  obtain rfl := Option.some.inj hp'
  have ro1 : RowO X w (.slice (some ⟨og, off, none⟩) m cap) l := by
    obtain ⟨q', cap', e4, e5⟩ := ruu.cut m (by rw [hm]; simp)
    injection e4 with e6 _ e7
    subst e6 e7
    simpa [hm] using e5
  have vl : V.length = d.H.length := h1.de.hl
  have VL : Hid (k < V.length) := by show k < V.length; omega
  have HFIN : Hid (∀ W, Keep [gh, pd] w W → LocN W gh (handL (V.set k (.slice (some ⟨og, off, none⟩) m cap, .slice q3 0 cap3))) → LocN W pd [.pointer (some ⟨pc, 0, none⟩), .slice (some ⟨gh, 0, none⟩) d.H.length d.H.length, .slice (some ⟨gp, 0, none⟩) N kp] → DtkPost B ev pd pc pz gh mn lw hi O e X F w (⟨d.c, d.H.set k (l, []), P0⟩, 0, o) (.returned (.tuple #[.agg #[.int .i64 o.1, .int .i64 o.2], .nilIface])) W) := fun W kk hg hd => by
    have hrow : w.ownsRow B 70 1 (.slice (some ⟨gp, 0, none⟩) P0.length kp) P0.length (U.take P0.length) := by
      obtain ⟨rest, y1, y2, y3, y4, y5, y6⟩ := own_row1 h.de.row
      have := y1.own y6 (n := P0.length) (by rw [y2]; omega) (by rw [y2]; exact y5)
      rw [y2] at this
      rw [List.take_append_of_le_length (by omega)] at this
      exact this
    have hrow' : W.ownsRow B 70 1 (.slice (some ⟨gp, 0, none⟩) P0.length kp) P0.length (U.take P0.length) := own_keep hrow kk (fun s hs q => by
      have hq : s = gp := by simpa [ownX, Value.ownBlock, eq_comm] using q
      have hn := h.de.nd
      simp at hs
      rcases hs with r | r
      · exact (List.nodup_cons.1 (List.nodup_cons.1 hn).2).1 (by rw [← r, hq]; simp [ownX, Value.ownBlock])
      · exact (List.nodup_cons.1 hn).1 (List.mem_cons_of_mem _ (by rw [← r, hq]; simp [ownX, Value.ownBlock])))
    rw [hN] at hd
    refine ⟨rfl, X, ⟨_, _, _, _, _, h.setBoth k (p' := (.slice (some ⟨og, off, none⟩) m cap, .slice q3 0 cap3)) (h' := (l, [])) (U' := U.take P0.length) (P' := P0) hkl ro1 o2' kk hg hd hrow' (by rw [List.length_take]; omega) (fun i z mm hi hm' => ?_) rfl, hF.out⟩, kk.mono (fun s q => by
      simp at q
      rcases q with rfl | rfl
      · exact h.offy hF.out h.gh_mem
      · exact h.offy hF.out h.pd_mem), fun _ q => .inl q, fun _ q => q⟩
    have hil := (List.getElem?_eq_some_iff.1 hm').1
    rw [List.getElem?_take, if_pos hil] at hi
    exact h.de.po i z mm hi (by rw [hP, List.getElem?_append_left hil]; exact hm')
  have HLG := Lib.hid (hloc1 h1.de.hs hp (.slice (some ⟨og, off, none⟩) (m + 1) cap))
  have HLP := Lib.hid (h1.de.d.store 2 (.slice (some ⟨gp, 0, none⟩) N kp) (by simp))
  have h1dd := Lib.hid h1.de.d
  have HB1 := Lib.hid b1
  have rl : w.heap.size < W1.heap.size := by omega
  clear h h1 hI hk hp o1 o2 o1' o2' ro1 e3 hm ld et b1 s1 hp' f1 ruu huu hP pN hN hUl t0 t1 ogl ogx vl
  go_enter Tryz.func33, Tryz.ntmps33
  go_wp2_with fail
  rw [← hW1]
  clear hW1
  refine HD.out.mono ?_
  rintro r' w1 ⟨rfl, rfl⟩
  clear HD
  go_wp2_with fail
  go_region
  obtain rfl : m = 3 := by omega
  obtain ⟨w2, hw2'⟩ : ∃ w2, w2 = ((w1.setCell ⟨gh, k * 2, none⟩ (.slice (some ⟨og, off, none⟩) 4 cap)).setCell ⟨pd, 2, none⟩ (.slice (some ⟨gp, 0, none⟩) N kp)).drew := ⟨_, rfl⟩
  rw [← hw2']
  have K2 : Keep [gh, pd] w1 w2 := by rw [hw2']; exact (((Keep.refl _ _).setCell (p := ⟨gh, k * 2, none⟩) (.inl (by simp)) _).setCell (p := ⟨pd, 2, none⟩) (.inl (by simp)) _).drew
  have LG2 : LocN w2 gh (handL (V.set k (.slice (some ⟨og, off, none⟩) 4 cap, .slice q3 0 cap3))) := by rw [hw2']; exact (HLG.out.far PG 2 _).drewL
  have LP2 : LocN w2 pd [.pointer (some ⟨pc, 0, none⟩), .slice (some ⟨gh, 0, none⟩) d.H.length d.H.length, .slice (some ⟨gp, 0, none⟩) N kp] := by
    rw [hw2']
    have q := (h1dd.out.far GP (k * 2) (.slice (some ⟨og, off, none⟩) 4 cap)).store 2 (.slice (some ⟨gp, 0, none⟩) N kp) (by simp)
    exact q.drewL
  have g0' := LG2.c (k * 2) _ (handL_get (hset2 VL.out _)).1
  have f0' := LG2.f (k * 2) (by rw [handL_length, List.length_set]; have := VL.out; omega)
  have gl' := LG2.lt
  have t0 := (K2.cell (o := off + 3 * 2) ogl' (by simpa using ⟨GO.out, PO.out⟩)).trans t0'
  have t1 := (K2.cell (o := off + 3 * 2 + 1) ogl' (by simpa using ⟨GO.out, PO.out⟩)).trans t1'
  have ogl := Nat.lt_of_lt_of_le ogl' K2.size
  have LL2 := L1.out.keep K2 (by simpa using ⟨rg, rp⟩)
  have v0' := LL2.c 0 _ rfl; have v1' := LL2.c 1 _ rfl; have vf0' := LL2.f 0 (by simp); have vf1' := LL2.f 1 (by simp); have rl' := LL2.lt
  have KW2 := Lib.hid ((Keep.of (S := [gh, pd]) HB1.out).then K2)
  have HL3 := Lib.hid (hloc1 LG2 (hset2 VL.out _) (.slice (some ⟨og, off, none⟩) 3 cap))
  rw [hset1] at HL3
  have HP3 := Lib.hid LP2
  have HLL2 := Lib.hid LL2
  have HFIN' := HFIN
  clear g0 g1 f0 t0' t1' ogl' c0 c1 c2 cl cf rl gl hw2' K2 LG2 LP2 LL2 hru kp1 gpl HLG HLP h1dd
  go_wp2
  have M := Lib.hid ((((HLL2.out.far (c := gh) gr (k * 2) (.slice (some ⟨og, off, none⟩) 3 cap)).store2 (.int .i64 o.1) (.int .i64 o.2))).past (.cells #[.int .i64 o.1, .int .i64 o.2] 72))
  have x0 := M.out.c 0 _ rfl; have x1 := M.out.c 1 _ rfl
  refine bodyPost_ret (v := .tuple #[.agg #[.int .i64 o.1, .int .i64 o.2], .nilIface]) (by simp [x0, x1, results, Tryz.results33, go_sem]) rfl (HFIN.out _ ?_ ?_ ?_)
  · exact (((((KW2.out).setCell (p := ⟨gh, k * 2, none⟩) (.inl (by simp)) _).setCell (p := ⟨w.heap.size, 0, none⟩) (.inr (Nat.le_refl _)) _).setCell (p := ⟨w.heap.size, 1, none⟩) (.inr (Nat.le_refl _)) _).alloc _)
  · exact ((HL3.out.far rg 0 _).far rg 1 _).past _
  · exact (((HP3.out.far GP (k * 2) _).far rp 0 _).far rp 1 _).past _
set_option maxHeartbeats 2000000 in
set_option maxRecDepth 100000 in
/-- of the cache -/
theorem dtake_D (k : Nat) (n : Int) (u : Bool) (hE : ErrZ B ev w) (h : CD B w X pd pc pz gh mn lw hi O e v A V vp U d) (hF : Hid (∀ f ∈ F, f ∈ X ∧ f ∉ xd pc v A d.c.L pd gh vp)) (hI : InvD e d) (hk : d.H[k]? = some ([], [])) (hP : d.P = []) :
    Calls Tryz.prog 33 #[.pointer (some ⟨pd, 0, none⟩), .int .i64 k, .int .i64 n, .bool u] w (DtkPost B ev pd pc pz gh mn lw hi O e X F w (takeD mn O e d k n u)) := by
  have hkl := (List.getElem?_eq_some_iff.1 hk).1
  have ld : loadD ([], []) d.P = (([], []), []) := by unfold loadD; rw [if_pos rfl, if_pos rfl, hP]; simp
  have et : takeD mn O e d k n u = (⟨(takeC mn O e d.c n u).1, d.H, d.P⟩, (takeC mn O e d.c n u).2.1, (takeC mn O e d.c n u).2.2) := takeD_cache (handD_of hk) (by rw [ld]; simp)
  rw [et]
  have b1 : Below w.heap.size w (w.alloc (.cells #[.int .i64 0, .int .i64 0] 72)) := (by repeat (first | exact Below.refl _ _ | refine Below.drew ?_ | refine below_drewN ?_ _ | refine Below.trans ?_ (Below.mono (by assumption) (by first | omega | (simp; omega) | (simp; done))) | refine Below.alloc ?_ (by first | omega | (simp; omega) | (simp; done)) _ | refine Below.setCell ?_ (by first | omega | (simp; omega) | (simp; done)) _))
  have L1 := Lib.hid (show LocN (w.alloc (.cells #[.int .i64 0, .int .i64 0] 72)) w.heap.size [.int .i64 0, .int .i64 0] from LocN.mk_ w [.int .i64 0, .int .i64 0] 72 rfl)
  obtain ⟨W1, hW1⟩ : ∃ W1, W1 = w.alloc (.cells #[.int .i64 0, .int .i64 0] 72) := ⟨_, rfl⟩
  have h1 := h.below b1
  rw [← hW1] at b1 L1 h1
  obtain ⟨p, hp, o1, o2, g0, g1, f0, f1, gl⟩ := h1.hand hk
  obtain ⟨⟨pa, pb⟩, rfl⟩ : ∃ q, q = p := ⟨_, rfl⟩
  obtain ⟨q2, cap2, e2, _, _⟩ := o1.isSlice
  obtain ⟨q3, cap3, e1, _, _⟩ := o2.isSlice
  simp only at e1 e2 g0 g1 hp
  subst e1 e2
  rw [show ([] : List Ob).length = 0 from rfl] at g0 g1 hp
  obtain ⟨qp, kp, rfl⟩ : ∃ qp kp, vp = .slice qp 0 kp := by
    have hr := h1.de.row
    rw [hP] at hr
    rcases hr.2 with ⟨a1, a2⟩ | ⟨_, cap', _, a1, _⟩
    · exact ⟨none, 0, by rw [a1]⟩
    · exact ⟨_, cap', by rw [a1]; rfl⟩
  have c0 := h1.de.d.c 0 _ rfl; have c1 := h1.de.d.c 1 _ rfl; have c2 := h1.de.d.c 2 _ rfl; have cl := h1.de.d.lt
  have HD := Lib.hid (dhand_ok h1 k hkl)
  have hw1 : IntKind.i64.wrap ((0 : Int) - 1) = (0 : Int) - 1 := IntWalk.i64_in _ (by omega)
  have ST := stake_any n u (hE.go b1) ((h.cs.more (Y := w.heap.size :: X) (fun x hx => List.mem_cons_of_mem _ hx) (fun y hy => by
    rcases List.mem_cons.1 hy with rfl | q
    · exact .inr (Nat.le_refl _)
    · exact .inl q)).below b1) hI.c
  have SM := Lib.hid (takeC_same mn O e d.c n u)
  obtain ⟨⟨c', cc, x1, x2⟩, hr⟩ : ∃ r, r = takeC mn O e d.c n u := ⟨_, rfl⟩
  rw [← hr] at ST SM ⊢
  unfold StkPost at ST
  simp only [obV] at ST ⊢
  have HST := Lib.hid ST
  have NX : Hid (w.heap.size ∉ cay pc v A ++ ys d.c.L) := fun q => by
    rcases List.mem_append.1 q with r | r
    · have := (h.cs.ch.lim _ r).2; omega
    · have := (h.cs.z.b.lim _ r).2; omega
  have HFIN : Hid (∀ w2 W, (∃ X' v' A', CS B w2 pc pz mn lw hi O e X' v' A' c' ∧ Keep (cay pc v A ++ ys d.c.L) W1 w2 ∧ (∀ x ∈ w.heap.size :: X, x ∈ X') ∧ (∀ x ∈ X', x ∈ w.heap.size :: X ∨ W1.heap.size ≤ x) ∧ ∀ y ∈ cay pc v' A', y ∈ cay pc v A ∨ W1.heap.size ≤ y) → Keep [w.heap.size] w2 W → LocN W1 w.heap.size [.int .i64 0, .int .i64 0] →
      DtkPost B ev pd pc pz gh mn lw hi O e X F w (⟨c', d.H, d.P⟩, cc, (x1, x2)) (.returned (.tuple #[.agg #[.int .i64 x1, .int .i64 x2], errV ev cc])) W) := fun w2 W ⟨X', v', A', y1, y2, y3, y4, y5⟩ kk hloc => by
    have zl : w.heap.size < W1.heap.size := hloc.lt
    have z2 := y2.size
    have nc : w.heap.size ∉ cay pc v' A' := fun q => by
      rcases y5 _ q with r | r
      · exact NX.out (List.mem_append_left _ r)
      · omega
    have ny : w.heap.size ∉ ys c'.L := by
      rw [SM.out.ys]; exact fun q => NX.out (List.mem_append_right _ q)
    have kAll : Keep (cay pc v A ++ ys d.c.L) w W := ((Keep.of (S := cay pc v A ++ ys d.c.L) b1).then y2).trans kk (fun s q => by simp at q; subst q; exact .inr (Nat.le_refl _))
    have csw : CS B W pc pz mn lw hi O e X' v' A' c' := y1.keep kk (fun s q => by simp at q; subst q; exact ⟨nc, .inl ⟨y3 _ (List.mem_cons_self ..), ny⟩⟩)
    obtain ⟨q1, q2⟩ := h.cache csw kAll (fun x hx => y3 x (List.mem_cons_of_mem _ hx)) (fun x hx => by
      rcases y4 x hx with r | r
      · rcases List.mem_cons.1 r with t | t
        · exact .inr (by omega)
        · exact .inl t
      · exact .inr (by omega)) (fun y hy => (y5 y hy).imp id (fun t => by omega)) SM.out
    refine ⟨rfl, _, ⟨_, _, _, _, _, q1, h.cacheF (fun y hy => (y5 y hy).imp id (fun t => by omega)) SM.out hF.out (fun x hx => List.mem_append_left _ hx)⟩, kAll.mono (fun s q => h.offd hF.out (List.mem_append_right _ q)), q2, fun x hx => List.mem_append_left _ hx⟩
  have HB1 := Lib.hid b1
  clear h h1 hI hk hp o1 o2 ld et b1 hr hE ST hP f0 f1
  go_enter Tryz.func33, Tryz.ntmps33
  go_wp2_with fail
  rw [← hW1]
  clear hW1
  refine HD.out.mono ?_
  rintro r' w1 ⟨rfl, rfl⟩
  clear HD
  go_wp2_with fail
  refine HST.out.mono ?_
  rintro r' w2 ⟨rfl, hex⟩
  have LL2 := Lib.hid (show LocN w2 w.heap.size [.int .i64 0, .int .i64 0] from by
    obtain ⟨_, _, _, _, k2, _⟩ := hex
    exact L1.out.keep k2 NX.out)
  have v0' := LL2.out.c 0 _ rfl; have v1' := LL2.out.c 1 _ rfl; have vf0' := LL2.out.f 0 (by simp); have vf1' := LL2.out.f 1 (by simp); have rl' := LL2.out.lt
  have HEX := Lib.hid hex
  clear hex HST
  go_wp2
  have M := Lib.hid (LL2.out.store2 (.int .i64 x1) (.int .i64 x2))
  have y0 := M.out.c 0 _ rfl; have y1 := M.out.c 1 _ rfl
  refine bodyPost_ret (v := .tuple #[.agg #[.int .i64 x1, .int .i64 x2], errV ev cc]) (by simp [y0, y1, results, Tryz.results33, go_sem]) rfl (HFIN.out w2 _ HEX.out ?_ L1.out)
  exact ((Keep.refl _ _).setCell (p := ⟨w.heap.size, 0, none⟩) (.inl (by simp)) _).setCell (p := ⟨w.heap.size, 1, none⟩) (.inl (by simp)) _
theorem dtake_any (k n : Int) (u : Bool) (hE : ErrZ B ev w) (h : CD B w X pd pc pz gh mn lw hi O e v A V vp U d) (hF : Hid (∀ f ∈ F, f ∈ X ∧ f ∉ xd pc v A d.c.L pd gh vp)) (hI : InvD e d) :
    Calls Tryz.prog 33 #[.pointer (some ⟨pd, 0, none⟩), .int .i64 k, .int .i64 n, .bool u] w (DtkPost B ev pd pc pz gh mn lw hi O e X F w (takeD mn O e d k n u)) := by
  cases hh : handD d k with
  | none => exact dtake_bad k n u hE h hF hh
  | some g =>
    obtain ⟨k0, h1, h2, h3⟩ := handD_some hh
    obtain ⟨kn, hkn⟩ : ∃ kn, kn = k.toNat := ⟨_, rfl⟩
    rw [← hkn] at h1 h3
    subst h3
    obtain ⟨g1, g2⟩ := g
    rcases List.eq_nil_or_concat g1 with rfl | ⟨l, o, rfl⟩
    · rcases List.eq_nil_or_concat g2 with rfl | ⟨l, o, rfl⟩
      · rcases List.eq_nil_or_concat d.P with hP | ⟨P0, m, hP⟩
        · exact dtake_D kn n u hE h hF hI h1 hP
        · have hm := hI.p4 m (by rw [hP]; simp)
          rcases List.eq_nil_or_concat m with rfl | ⟨l, o, rfl⟩
          · simp at hm
          · exact dtake_C kn n u h hF hI h1 (by simpa using hP)
      · exact dtake_B kn n u h hF hI (by simpa using h1)
    · exact dtake_A kn n u h hF hI (by simpa using h1)
end
end Go.Proofs.YtcokmiidgdmdlaaGreatDoor
