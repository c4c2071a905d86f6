/- Lemmas and contracts for the claim's last text: DGiveB, DHeld, DNew, DLast, RowAZ, ZMin. -/
import Derived.Test.YtcokmiidgdmdlaaGreatDoorMo02
import Derived.Test.YtcokmiidgdmdlaaGreatDoorMo11
import Derived.Test.YtcokmiidgdmdlaaGreatDoorMo12
import Derived.Test.YtcokmiidgdmdlaaGreatDoorMo15
namespace Go.Proofs.YtcokmiidgdmdlaaGreatDoor
open Go.RowKit Go.Maps
set_option linter.unusedSimpArgs false
set_option linter.unusedVariables false
attribute [local go_sem ↓] Go.wp_at_zero Go.wp_at_succ

section
variable {X Y S F : List Nat} {B : Nat} {ev : Nat → Addr} {w w' : World} {pd pc pz gh e : Nat} {mn lw hi : Int} {O : List (List Int)} {v vp vp' : Value} {A : SA} {V : HV} {U U' : List Value} {d : De} {c : Ca} {P' : List (List Ob)}
theorem CD.push (h : CD B w X pd pc pz gh mn lw hi O e v A V vp U d) (k : Nat) {p' : Value × Value} {h' : Hd} (hk : k < d.H.length) (kk : Keep (gh :: pd :: ownX vp) w w')
    (hd : LocN w' pd [.pointer (some ⟨pc, 0, none⟩), .slice (some ⟨gh, 0, none⟩) d.H.length d.H.length, vp']) (row : w'.ownsRow B 70 1 vp' P'.length U') (ul : U'.length = P'.length)
    (hv : ∀ y ∈ ownX vp', y ∈ ownX vp ∨ w.heap.size ≤ y) (hg : LocN w' gh (handL (V.set k p')))
    (r1 : RowO (X ++ xd pc v A d.c.L pd gh vp') w' p'.1 h'.1) (r2 : RowO (X ++ xd pc v A d.c.L pd gh vp') w' p'.2 h'.2)
    (po : ∀ (i : Nat) (u : Value) (m : List Ob), U'[i]? = some u → P'[i]? = some m → RowO (X ++ xd pc v A d.c.L pd gh vp') w' u m) :
    CD B w' (X ++ xd pc v A d.c.L pd gh vp') pd pc pz gh mn lw hi O e v A (V.set k p') vp' U' ⟨d.c, d.H.set k h', P'⟩ ∧ ∀ x ∈ X ++ xd pc v A d.c.L pd gh vp', x ∈ X ∨ w.heap.size ≤ x := by
  obtain ⟨n0, nn⟩ := List.nodup_cons.1 h.de.nd
  obtain ⟨n1, n2⟩ := List.nodup_cons.1 nn
  have fg := h.far gh h.gh_mem
  have fp := h.far pd h.pd_mem
  have fo : ∀ y ∈ ownX vp, y ∈ X ∧ y ∉ cay pc v A ∧ y ∉ ys d.c.L := fun y hy => h.far y (List.mem_cons_of_mem _ (List.mem_cons_of_mem _ hy))
  have hS : ∀ s ∈ gh :: pd :: ownX vp, s ∈ X ∧ s ∉ cay pc v A ∧ s ∉ ys d.c.L := fun s q => by
    rcases List.mem_cons.1 q with rfl | q
    · exact fg
    · rcases List.mem_cons.1 q with rfl | q
      · exact fp
      · exact fo s q
  have new : ∀ x ∈ X ++ xd pc v A d.c.L pd gh vp', x ∈ X ∨ w.heap.size ≤ x := fun x hx => by
    rcases List.mem_append.1 hx with q | q
    · exact .inl q
    · rcases List.mem_append.1 q with q | q
      · rcases List.mem_cons.1 q with rfl | q
        · exact .inl fp.1
        · rcases List.mem_cons.1 q with rfl | q
          · exact .inl fg.1
          · exact (hv x q).imp (fun r => (fo x r).1) id
      · exact .inl (h.x x (List.mem_append_right _ q))
  have hlp := h.de.lim pd h.pd_mem
  have hlg := h.de.lim gh h.gh_mem
  have hz := kk.size
  have cs1 : CS B w' pc pz mn lw hi O e (X ++ xd pc v A d.c.L pd gh vp') v A d.c := by
    have m1 := h.cs.more (Y := X ++ xd pc v A d.c.L pd gh vp') (fun x hx => List.mem_append_left _ hx) new
    exact m1.keep kk (fun s q => ⟨(hS s q).2.1, .inl ⟨List.mem_append_left _ (hS s q).1, (hS s q).2.2⟩⟩)
  refine ⟨⟨fun y hy => List.mem_append_right _ hy, fun y hy => ?_, cs1, ?_, fun y hy => ?_⟩, new⟩
  · rcases List.mem_append.1 hy with q | q
    · exact h.limK kk y q
    · rcases List.mem_append.1 q with q | q
      · rcases List.mem_cons.1 q with rfl | q
        · exact ⟨hlp.1, by omega⟩
        · rcases List.mem_cons.1 q with rfl | q
          · exact ⟨hlg.1, by omega⟩
          · exact ownX_ge row q
      · rcases List.mem_append.1 q with q | q
        · exact ⟨(h.cs.ch.lim y q).1, by have := (h.cs.ch.lim y q).2; omega⟩
        · exact ⟨(h.cs.z.b.lim y q).1, by have := (h.cs.z.b.lim y q).2; omega⟩
  · have m1 := h.de.more (Y := X ++ xd pc v A d.c.L pd gh vp') new (fun y q => List.mem_append_left _ (h.de.mem y q))
    refine ⟨by rw [List.length_set]; exact hd, hg, by simp [h.de.hl], fun i p g hp hg' => ?_, row, ul, po, fun y hy => List.mem_append_right _ (List.mem_append_left _ hy), ?_, fun y hy => ?_⟩
    · by_cases q : k = i
      · subst q
        rw [List.getElem?_set_self (by rw [h.de.hl]; exact hk)] at hp
        rw [List.getElem?_set_self hk] at hg'
        obtain rfl := Option.some.inj hp
        obtain rfl := Option.some.inj hg'
        exact ⟨r1, r2⟩
      · rw [List.getElem?_set_ne q] at hp hg'
        have hs : ∀ s ∈ gh :: pd :: ownX vp, s ∈ X ++ xd pc v A d.c.L pd gh vp' ∨ w.heap.size ≤ s := fun s q => .inl (List.mem_append_left _ (hS s q).1)
        exact ⟨(m1.ho i p g hp hg').1.keep kk hs, (m1.ho i p g hp hg').2.keep kk hs⟩
    · refine List.nodup_cons.2 ⟨fun q => ?_, List.nodup_cons.2 ⟨fun q => ?_, by unfold ownX; cases vp'.ownBlock <;> simp⟩⟩
      · rcases List.mem_cons.1 q with r | r
        · exact n0 (r ▸ List.mem_cons_self ..)
        · rcases hv pd r with t | t
          · exact n0 (List.mem_cons_of_mem _ t)
          · omega
      · rcases hv gh q with t | t
        · exact n1 t
        · omega
    · rcases List.mem_cons.1 hy with rfl | q
      · exact ⟨hlp.1, by omega⟩
      · rcases List.mem_cons.1 q with rfl | q
        · exact ⟨hlg.1, by omega⟩
        · have := ownX_ge row q; exact this
  · rcases List.mem_cons.1 hy with rfl | q
    · exact fp.2
    · rcases List.mem_cons.1 q with rfl | q
      · exact fg.2
      · rcases hv y q with r | r
        · exact (fo y r).2
        · exact ⟨fun t => by have := (h.cs.ch.lim y t).2; omega, fun t => by have := (h.cs.z.b.lim y t).2; omega⟩
set_option maxHeartbeats 4000000 in
set_option maxRecDepth 100000 in
theorem dgive_3 (k : Nat) (o : Ob) (hE0 : B ≤ w.heap.size) (h : CD B w X pd pc pz gh mn lw hi O e v A V vp U d) (hF : Hid (∀ f ∈ F, f ∈ X ∧ f ∉ xd pc v A d.c.L pd gh vp)) (hI : InvD e d) (o1 : -9223372036854775808 ≤ o.2) (o2 : o.2 ≤ 9223372036854775807) {t r : List Ob} (hk : d.H[k]? = some (t, r)) (hl4 : t.length = 4) (hr : r ≠ []) (ho : outD e d o = true) :
    Calls Tryz.prog 34 #[.pointer (some ⟨pd, 0, none⟩), .int .i64 k, .agg #[.int .i64 o.1, .int .i64 o.2]] w (DgvPost B ev pd pc pz gh mn lw hi O e X F w (giveD e d k o)) := by
  have hkl := (List.getElem?_eq_some_iff.1 hk).1
  have fd : fillD (t, r) d.P = (([], r), d.P ++ [t]) := by unfold fillD; rw [if_pos hl4, if_neg hr]
  rw [giveD_yes hk ho, fd]
  have b1 : Below w.heap.size w (w.alloc (.cells #[.int .i64 o.1, .int .i64 o.2] 72)) := (by repeat (first | exact Below.refl _ _ | refine Below.drew ?_ | refine below_drewN ?_ _ | refine Below.trans ?_ (Below.mono (by assumption) (by first | omega | (simp; omega) | (simp; done))) | refine Below.alloc ?_ (by first | omega | (simp; omega) | (simp; done)) _ | refine Below.setCell ?_ (by first | omega | (simp; omega) | (simp; done)) _))
  have HL := Lib.hid (show LocN (w.alloc (.cells #[.int .i64 o.1, .int .i64 o.2] 72)) w.heap.size [.int .i64 o.1, .int .i64 o.2] from LocN.mk_ w [.int .i64 o.1, .int .i64 o.2] 72 rfl)
  obtain ⟨W1, hW1⟩ : ∃ W1, W1 = w.alloc (.cells #[.int .i64 o.1, .int .i64 o.2] 72) := ⟨_, rfl⟩
  rw [← hW1] at b1 HL
  have h1 := h.below b1
  have HD := Lib.hid (dhand_ok h1 k hkl)
  have pl : d.P.length ≤ 65535 := by
    have hh := (held_len hI).1
    have h2 := obs_few hI.c
    omega
  have OU := dout_ok o h1 hI o1 o2
  rw [ho] at OU
  have HOU := Lib.hid OU
  have m0 := HL.out.c 0 _ rfl; have m1 := HL.out.c 1 _ rfl; have ml := HL.out.lt
  have HB1 := Lib.hid b1; have HH := Lib.hid h; have HE0 := Lib.hid hE0
  have rg : ¬ (w.heap.size = gh) := fun q => by have := (h.de.lim gh h.gh_mem).2; omega
  have VL : Hid (k < V.length) := by show k < V.length; rw [h.de.hl]; exact hkl
  clear h b1 h1 OU hI ho
  go_enter Tryz.func34, Tryz.ntmps34
  go_wp2_with fail
  rw [← hW1]
  clear hW1
  refine HD.out.mono ?_
  rintro r' w1 ⟨rfl, rfl⟩
  go_wp2_with fail
  refine HOU.out.mono ?_
  rintro r' w2 ⟨rfl, hb2⟩
  have B2 := HB1.out.trans (hb2.mono HB1.out.size)
  obtain ⟨p, hp, r1, r2, g0, g1, f0, f1, gl⟩ := (HH.out.below B2).hand hk
  obtain ⟨p', hp', rt, rr, _⟩ := HH.out.hand hk
  rw [hp] at hp'
  obtain rfl := Option.some.inj hp'
  obtain ⟨⟨pa, pb⟩, rfl⟩ : ∃ q, q = p := ⟨_, rfl⟩
  obtain ⟨qt, ct, e1, _, _⟩ := r1.isSlice
  obtain ⟨qr, cr, e2, _, _⟩ := r2.isSlice
  simp only at e1 e2 g0 g1 hp rt rr
  rw [hl4] at e1
  subst e1 e2
  have hrl : r.length ≠ 0 := fun q => hr (List.length_eq_zero_iff.1 q)
  obtain ⟨nr, hnr⟩ : ∃ nr, nr = r.length := ⟨_, rfl⟩
  rw [← hnr] at g1 hrl
  have d5 : decide (nr = 0) = false := decide_eq_false hrl
  have d5' : ((nr : Int) == 0) = false := by simp; omega
  have HDE := Lib.hid (HH.out.below B2).de
  obtain ⟨qp, kp, rfl⟩ : ∃ qp kp, vp = .slice qp d.P.length kp := by
    rcases HDE.out.row.2 with ⟨a1, a2⟩ | ⟨_, cap', _, a1, _⟩
    · exact ⟨none, 0, by rw [a1, a2]⟩
    · exact ⟨_, cap', a1⟩
  have c2 := HDE.out.d.c 2 _ rfl; have cl := HDE.out.d.lt; have cf := HDE.out.d.f 2 (by simp)
  have HLB2 := Lib.hid (HL.out.go hb2)
  have x0 := HLB2.out.c 0 _ rfl; have x1 := HLB2.out.c 1 _ rfl; have xl := HLB2.out.lt
  have HB2 := Lib.hid B2; have HP := Lib.hid hp; have RT := Lib.hid rt; have RR := Lib.hid rr
  have HNR := Lib.hid hnr
  obtain ⟨N, hN⟩ : ∃ N, N = d.P.length := ⟨_, rfl⟩
  have EN := Lib.hid hN
  have HUL := Lib.hid (show U.length = N by rw [hN]; exact HDE.out.ul)
  rw [← hN] at c2 pl
  have OW : Hid (((w2.alloc (.cells #[.slice qt 4 ct] 70)).drew).ownsRow B 70 1 (.slice qp N kp) U.length U) := by
    have ho := HDE.out.row
    rw [← hN] at ho
    show World.ownsRow _ _ _ _ _ _ _
    rw [HUL.out]
    exact (ho.alloc _).drew
  have SRC : Hid (SrcV ((w2.alloc (.cells #[.slice qt 4 ct] 70)).drew) (some ⟨w2.heap.size, 0, none⟩) [.slice qt 4 ct]) := srcV_of ((LocN.mk_ w2 [.slice qt 4 ct] 70 rfl).drewL)
  have PGN : Hid (¬ (pd = gh)) := fun q => (List.nodup_cons.1 HDE.out.nd).1 (q ▸ List.mem_cons_self ..)
  have NPO : Hid (pd ∉ ownX (.slice qp d.P.length kp) ∧ gh ∉ ownX (.slice qp d.P.length kp)) := ⟨fun q => (List.nodup_cons.1 HDE.out.nd).1 (List.mem_cons_of_mem _ q), (List.nodup_cons.1 (List.nodup_cons.1 HDE.out.nd).2).1⟩
  have eo : ownX (.slice qp N kp) = ownX (.slice qp d.P.length kp) := by rw [hN]
  have EO := Lib.hid eo
  have bxn : w.heap.size ∉ ownX (.slice qp d.P.length kp) := fun q => by
    have := (HH.out.de.lim w.heap.size (List.mem_cons_of_mem _ (List.mem_cons_of_mem _ q))).2
    omega
  have BXN := Lib.hid bxn
  clear r1 r2 rt rr hp hp' hnr hN hr fd hl4 bxn eo B2 HD HOU m0 m1 ml
  go_wp2_with fail
  refine wp_region_cut (S := (fun w' => w'.cell? ⟨pd, 2, none⟩ = some (.slice qp N kp) ∧ w'.cell? ⟨gh, k * 2, none⟩ = some (.slice qt 4 ct))) 11 #[false, false, false, false, false, false, false, false, false, false, false] rfl (by kernel_rfl) (by kernel_rfl) (by (try dsimp only); go_keep) (fun hHeld => ?_)
  simp only [List.take_succ_cons, List.take_zero]
  refine cut_take (i := 0) (oi := _) (v := ?_) rfl (by kernel_rfl) (by kernel_rfl) (by kernel_rfl) (fun _ _ _ h => h) (Or.inl ⟨by rfl, ?_⟩) (by assumption) ?_
  rotate_left
  · (intro w hSw; (try dsimp only at hSw); go_simp <;> with_reducible rfl)
  try simp only [Act.put, List.setIfInBounds_toArray, List.set_cons_zero, List.set_cons_succ]
  refine cut_take (i := 1) (oi := _) (v := ?_) rfl (by kernel_rfl) (by kernel_rfl) (by kernel_rfl) (fun _ _ _ h => h) (Or.inl ⟨by rfl, ?_⟩) (by assumption) ?_
  rotate_left
  · (intro w hSw; (try dsimp only at hSw); go_simp <;> with_reducible rfl)
  try simp only [Act.put, List.setIfInBounds_toArray, List.set_cons_zero, List.set_cons_succ]
  refine cut_take (i := 2) (oi := _) (v := ?_) rfl (by kernel_rfl) (by kernel_rfl) (by kernel_rfl) (fun _ _ _ h => h) (Or.inl ⟨by rfl, ?_⟩) (by assumption) ?_
  rotate_left
  · (intro w hSw; (try dsimp only at hSw); go_simp <;> with_reducible rfl)
  try simp only [Act.put, List.setIfInBounds_toArray, List.set_cons_zero, List.set_cons_succ]
  refine cut_take (i := 3) (oi := _) (v := ?_) rfl (by kernel_rfl) (by kernel_rfl) (by kernel_rfl) (fun _ _ _ h => h) (Or.inl ⟨by rfl, ?_⟩) (by assumption) ?_
  rotate_left
  · (intro w hSw; (try dsimp only at hSw); go_simp <;> with_reducible rfl)
  try simp only [Act.put, List.setIfInBounds_toArray, List.set_cons_zero, List.set_cons_succ]
  refine cut_take (i := 4) (oi := _) (v := ?_) rfl (by kernel_rfl) (by kernel_rfl) (by kernel_rfl) (fun _ _ _ h => h) (Or.inl ⟨by rfl, ?_⟩) (by assumption) ?_
  rotate_left
  · (intro w hSw; (try dsimp only at hSw); go_simp <;> with_reducible rfl)
  try simp only [Act.put, List.setIfInBounds_toArray, List.set_cons_zero, List.set_cons_succ]
  refine cut_take (i := 5) (oi := _) (v := ?_) rfl (by kernel_rfl) (by kernel_rfl) (by kernel_rfl) (fun _ _ _ h => h) (Or.inl ⟨by rfl, ?_⟩) (by assumption) ?_
  rotate_left
  · (intro w hSw; (try dsimp only at hSw); go_simp <;> with_reducible rfl)
  try simp only [Act.put, List.setIfInBounds_toArray, List.set_cons_zero, List.set_cons_succ]
  refine cut_take (i := 6) (oi := _) (v := ?_) rfl (by kernel_rfl) (by kernel_rfl) (by kernel_rfl) (fun _ _ _ h => h) (Or.inl ⟨by rfl, ?_⟩) (by assumption) ?_
  rotate_left
  · (intro w hSw; (try dsimp only at hSw); go_simp <;> with_reducible rfl)
  try simp only [Act.put, List.setIfInBounds_toArray, List.set_cons_zero, List.set_cons_succ]
  refine cut_take (i := 7) (oi := _) (v := ?_) rfl (by kernel_rfl) (by kernel_rfl) (by kernel_rfl) (fun _ _ _ h => h) (Or.inl ⟨by rfl, ?_⟩) (by assumption) ?_
  rotate_left
  · (intro w hSw; (try dsimp only at hSw); go_simp <;> with_reducible rfl)
  try simp only [Act.put, List.setIfInBounds_toArray, List.set_cons_zero, List.set_cons_succ]
  refine cut_take (i := 8) (oi := _) (v := ?_) rfl (by kernel_rfl) (by kernel_rfl) (by kernel_rfl) (fun _ _ _ h => h) (Or.inl ⟨by rfl, ?_⟩) (by assumption) ?_
  rotate_left
  · (intro w hSw; (try dsimp only at hSw); go_simp <;> with_reducible rfl)
  try simp only [Act.put, List.setIfInBounds_toArray, List.set_cons_zero, List.set_cons_succ]
  refine wpAnyH_ready (rs := [9]) (by kernel_rfl) (by simp) ?_
  refine AllReadyH.cons (cut_cons rfl) (fun K hK => ?_) AllReadyH.nil
  go_simp
  refine hK.out _ _ (by (try dsimp only); go_keep) (fun hHeld => ?_)
  clear hK K
  try simp only [Act.put, List.setIfInBounds_toArray, List.set_cons_zero, List.set_cons_succ]
  refine wpAnyH_ready (rs := [10]) (by kernel_rfl) (by simp) ?_
  refine AllReadyH.cons (cut_cons rfl) (fun K hK => ?_) AllReadyH.nil
  refine step_app1 elPile (base := B) (v := .slice qp N kp) (us := U) (ms := [.slice qt 4 ct]) (p := some ⟨w2.heap.size, 0, none⟩) (by rfl) (.tmp 49) (.tmp 54) (by rfl) (by rfl) 1 (by rfl) rfl OW.out SRC.out (by intro x hx; simp at hx; subst hx; rfl) (by rw [HUL.out]; simp; omega) (by have := HE0.out; have := HB2.out.size; simp; omega) ?_
  intro q4 k4 w4 hown4 hg4 ho4
  have e5 : (U ++ [Value.slice qt 4 ct]).length = N + 1 := by simp [HUL.out]
  rw [e5] at hown4 ho4 ⊢
  have K24 : Keep (ownX (.slice qp d.P.length kp)) w2 w4 := by
    have k1 : Keep (ownX (.slice qp d.P.length kp)) w2 ((w2.alloc (.cells #[.slice qt 4 ct] 70)).drew) := Keep.of (by repeat (first | exact Below.refl _ _ | refine Below.drew ?_ | refine below_drewN ?_ _ | refine Below.trans ?_ (Below.mono (by assumption) (by first | omega | (simp; omega) | (simp; done))) | refine Below.alloc ?_ (by first | omega | (simp; omega) | (simp; done)) _ | refine Below.setCell ?_ (by first | omega | (simp; omega) | (simp; done)) _))
    have k2 := app_keep hg4
    rw [EO.out] at k2
    exact k1.then k2
  have y0 := (K24.cell (o := 2) cl NPO.out.1).trans c2
  have y1 := (K24.cell (o := k * 2) gl NPO.out.2).trans g0
  have y2 := (K24.frozen (o := 2) cl NPO.out.1).trans cf
  have y3 := (K24.frozen (o := k * 2) gl NPO.out.2).trans f0
  have yl := Nat.lt_of_lt_of_le gl K24.size
  have ycl := Nat.lt_of_lt_of_le cl K24.size
  refine hK.out _ _ (by (try dsimp only); go_keep) (fun hHeld => ?_)
  clear hK K
  try simp only [Act.put, List.setIfInBounds_toArray, List.set_cons_zero, List.set_cons_succ]
  refine wpAnyH_done (by kernel_rfl) ?_ _
  simp only [headQ, List.drop_succ_cons, List.drop_zero]
  have HOWN := Lib.hid hown4
  have HVN : Hid (∀ y ∈ ownX (.slice q4 (N + 1) k4), y ∈ ownX (.slice qp d.P.length kp) ∨ w2.heap.size ≤ y) := fun y hy => by
    rcases app_own ho4 y hy with r | r
    · rw [EO.out] at r; exact .inl r
    · exact .inr (by simp at r; omega)
  have HK24 := Lib.hid K24
  have PG := PGN.out
  have GP : ¬ (gh = pd) := fun q => PG q.symm
  have rp : ¬ (w.heap.size = pd) := fun q => by have := (HH.out.de.lim pd HH.out.pd_mem).2; omega
  clear hown4 ho4 hg4 e5 K24 hHeld
  go_wp2_with fail
  obtain ⟨w5, hw5⟩ : ∃ w5, w5 = (w4.setCell ⟨pd, 2, none⟩ (.slice q4 (N + 1) k4)).setCell ⟨gh, k * 2, none⟩ (.slice none 0 0) := ⟨_, rfl⟩
  rw [← hw5]
  have K5 : Keep [gh, pd] w4 w5 := by rw [hw5]; exact ((Keep.refl _ _).setCell (p := ⟨pd, 2, none⟩) (.inl (by simp)) _).setCell (p := ⟨gh, k * 2, none⟩) (.inl (by simp)) _
  have L5d : LocN w5 pd [.pointer (some ⟨pc, 0, none⟩), .slice (some ⟨gh, 0, none⟩) d.H.length d.H.length, .slice q4 (N + 1) k4] := by
    rw [hw5]
    exact ((HDE.out.d.keep HK24.out NPO.out.1).store 2 (.slice q4 (N + 1) k4) (by simp)).far GP _ _
  have L5h : LocN w5 gh (handL (V.set k (.slice none 0 0, .slice qr r.length cr))) := by
    rw [hw5]
    exact hloc1 ((HDE.out.hs.keep HK24.out NPO.out.2).far PG 2 (.slice q4 (N + 1) k4)) HP.out (.slice none 0 0)
  have hk5 : ∀ s ∈ ownX (.slice qp d.P.length kp), s ∈ gh :: pd :: ownX (.slice qp d.P.length kp) := fun s q => List.mem_cons_of_mem _ (List.mem_cons_of_mem _ q)
  have KW5 := Lib.hid (((Keep.of (S := gh :: pd :: ownX (.slice qp d.P.length kp)) HB2.out).then (HK24.out.mono hk5)).then (K5.mono (fun s q => by simp at q; rcases q with rfl | rfl <;> simp)))
  have g0' := L5h.c (k * 2) _ (handL_get (hset2 VL.out _)).1
  have f0' := L5h.f (k * 2) (by rw [handL_length, List.length_set]; have := VL.out; omega)
  have gl' := L5h.lt
  have HLB := Lib.hid ((HLB2.out.keep HK24.out BXN.out).keep K5 (by simpa using ⟨rg, rp⟩))
  have HO5 : Hid (w5.ownsRow B 70 1 (.slice q4 (N + 1) k4) (N + 1) (U ++ [.slice qt 4 ct])) := own_keep HOWN.out K5 (fun s hs q => by
    have hsl : s = gh ∨ s = pd := by simpa using hs
    have hlp := (HDE.out.lim pd (List.mem_cons_self ..)).2
    have hlg := (HDE.out.lim gh (List.mem_cons_of_mem _ (List.mem_cons_self ..))).2
    rcases HVN.out s q with t1 | t1
    · rcases hsl with rfl | rfl
      · exact NPO.out.2 t1
      · exact NPO.out.1 t1
    · rcases hsl with rfl | rfl <;> omega)
  have HL5d := Lib.hid L5d; have HL5h := Lib.hid L5h
  clear x0 x1 xl y0 y1 y2 y3 yl ycl c2 cl cf g0 g1 f0 f1 gl hw5 K5 L5d L5h hk5
  have x0 := HLB.out.c 0 _ rfl; have x1 := HLB.out.c 1 _ rfl; have xl := HLB.out.lt
  simp only at g0'
  have HRC : Hid (RowO X w5 (.slice none 0 0) []) := RowO.nil X w5
  have CL : Hid (∀ W, Calls Tryz.prog 88 #[.slice none 0 0] W fun e w' => e = .returned (.slice none 0 0) ∧ w' = W) := fun W => dclip_ok none 0 0 W (fun _ => rfl) (Nat.le_refl _)
  have VL3 : Hid ((V.set k (.slice none 0 0, .slice qr r.length cr))[k]? = some (.slice none 0 0, .slice qr r.length cr)) := hset2 VL.out _
  have NB0 : Hid ((w5.alloc (.cells #[.int .i64 o.1, .int .i64 o.2] 72)).drew.cell? ⟨w5.heap.size, 0 + 0, none⟩ = some (.int .i64 o.1)) := (LocN.mk_ w5 [.int .i64 o.1, .int .i64 o.2] 72 rfl).drewL.c 0 _ rfl
  have NB1 : Hid ((w5.alloc (.cells #[.int .i64 o.1, .int .i64 o.2] 72)).drew.cell? ⟨w5.heap.size, 0 + 1, none⟩ = some (.int .i64 o.2)) := (LocN.mk_ w5 [.int .i64 o.1, .int .i64 o.2] 72 rfl).drewL.c 1 _ rfl
  have FIN : Hid (∀ w4 g' k', Below w5.heap.size w5 w4 → w4.ownsRow ((w5.alloc (.cells #[.int .i64 o.1, .int .i64 o.2] 72)).drew).heap.size 72 2 (.slice (some ⟨g', 0, none⟩) (0 + 1) k') (0 + 1) (encB ([] ++ [o])) →
      DgvPost B ev pd pc pz gh mn lw hi O e X F w (⟨d.c, d.H.set k ([] ++ [o], r), d.P ++ [t]⟩, 0) (.returned .nilIface) (w4.setCell ⟨gh, k * 2, none⟩ (.slice (some ⟨g', 0, none⟩) (0 + 1) k'))) := fun w4 g' k' hb hown => by
    have hz := KW5.out.size
    have hz2 := HB2.out.size
    have kk : Keep (gh :: pd :: ownX (.slice qp d.P.length kp)) w (w4.setCell ⟨gh, k * 2, none⟩ (.slice (some ⟨g', 0, none⟩) (0 + 1) k')) := (KW5.out.step hb).setCell (p := ⟨gh, k * 2, none⟩) (.inl (by simp)) _
    have k4' : Keep [gh] w4 (w4.setCell ⟨gh, k * 2, none⟩ (.slice (some ⟨g', 0, none⟩) (0 + 1) k')) := (Keep.refl _ _).setCell (p := ⟨gh, k * 2, none⟩) (.inl (by simp)) _
    have hg4 := hown.lt g' rfl
    have hs : ((w5.alloc (.cells #[.int .i64 o.1, .int .i64 o.2] 72)).drew).heap.size = w5.heap.size + 1 := by simp
    rw [hs] at hg4
    obtain ⟨Z, hZ⟩ : ∃ Z, Z = X ++ xd pc v A d.c.L pd gh (.slice q4 (N + 1) k4) := ⟨_, rfl⟩
    have zlt : ∀ x ∈ Z, x < w5.heap.size := fun x hx => by
      rw [hZ] at hx
      have old : ∀ y ∈ X, y < w5.heap.size := fun y hy => by have := (HH.out.lim y hy).2; omega
      rcases List.mem_append.1 hx with q | q
      · exact old x q
      · rcases List.mem_append.1 q with q | q
        · rcases List.mem_cons.1 q with rfl | q
          · exact old _ (HH.out.de.mem _ HH.out.pd_mem)
          · rcases List.mem_cons.1 q with rfl | q
            · exact old _ (HH.out.de.mem _ HH.out.gh_mem)
            · exact (ownX_ge HO5.out q).2
        · exact old x (HH.out.x x (List.mem_append_right _ q))
    have hgZ : g' ∉ Z := fun q => by have := zlt g' q; omega
    have ro : RowO Z w4 (.slice (some ⟨g', 0, none⟩) (0 + 1) k') ([] ++ [o]) := own_rowO (l := [] ++ [o]) hown (fun g q => by
      have : g = g' := by simpa [Value.ownBlock, eq_comm] using q
      subst this; exact hgZ)
    have new : ∀ x ∈ Z, x ∈ X ∨ w.heap.size ≤ x := fun x hx => by
      rw [hZ] at hx
      rcases List.mem_append.1 hx with q | q
      · exact .inl q
      · rcases List.mem_append.1 q with q | q
        · rcases List.mem_cons.1 q with rfl | q
          · exact .inl (HH.out.de.mem _ HH.out.pd_mem)
          · rcases List.mem_cons.1 q with rfl | q
            · exact .inl (HH.out.de.mem _ HH.out.gh_mem)
            · rcases HVN.out x q with t1 | t1
              · exact .inl (HH.out.de.mem x (List.mem_cons_of_mem _ (List.mem_cons_of_mem _ t1)))
              · exact .inr (by omega)
        · exact .inl (HH.out.x x (List.mem_append_right _ q))
    have carry : ∀ (u : Value) (m : List Ob), RowO X w u m → RowO Z (w4.setCell ⟨gh, k * 2, none⟩ (.slice (some ⟨g', 0, none⟩) (0 + 1) k')) u m := fun u m h0 => by
      have h1 := h0.more (Y := Z) new
      exact h1.keep kk (fun s q => .inl (by
        rw [hZ]
        refine List.mem_append_left _ ?_
        rcases List.mem_cons.1 q with rfl | q
        · exact HH.out.de.mem _ HH.out.gh_mem
        · rcases List.mem_cons.1 q with rfl | q
          · exact HH.out.de.mem _ HH.out.pd_mem
          · exact HH.out.de.mem s (List.mem_cons_of_mem _ (List.mem_cons_of_mem _ q))))
    have hgm : gh ∈ Z := by rw [hZ]; exact List.mem_append_left _ (HH.out.de.mem _ HH.out.gh_mem)
    have ro' := ro.keep k4' (fun s q => by simp at q; subst q; exact .inl hgm)
    have hl := hloc1 (HL5h.out.keep (Keep.of (S := []) hb) (by simp)) VL3.out (.slice (some ⟨g', 0, none⟩) (0 + 1) k')
    rw [hset1] at hl
    have hdW := (HL5d.out.keep (Keep.of (S := []) hb) (by simp)).far GP (k * 2) (.slice (some ⟨g', 0, none⟩) (0 + 1) k')
    have e6 : N + 1 = (d.P ++ [t]).length := by rw [EN.out]; simp
    have hrow : (w4.setCell ⟨gh, k * 2, none⟩ (.slice (some ⟨g', 0, none⟩) (0 + 1) k')).ownsRow B 70 1 (.slice q4 (N + 1) k4) (N + 1) (U ++ [.slice qt 4 ct]) := own_keep (own_keep HO5.out (Keep.of (S := []) hb) (fun s q => by cases q)) k4' (fun s q r1 => by
      simp at q; subst q
      rcases HVN.out _ r1 with t1 | t1
      · exact NPO.out.2 t1
      · have := (HDE.out.lim _ (List.mem_cons_of_mem _ (List.mem_cons_self ..))).2; omega)
    rw [hZ] at carry ro'
    obtain ⟨c1, c2⟩ := HH.out.push k (p' := (.slice (some ⟨g', 0, none⟩) (0 + 1) k', .slice qr r.length cr)) (h' := ([] ++ [o], r)) (vp' := .slice q4 (N + 1) k4) (U' := U ++ [.slice qt 4 ct]) (P' := d.P ++ [t]) hkl kk hdW (by rw [← e6]; exact hrow) (by simp [HUL.out, ← e6]) (fun y hy => (HVN.out y hy).imp id (fun q => by omega)) hl ro' (carry _ _ RR.out) (fun i u m hu hm => by
      by_cases hi : i < d.P.length
      · rw [List.getElem?_append_left hi] at hm
        rw [List.getElem?_append_left (by rw [HUL.out, EN.out]; exact hi)] at hu
        exact carry u m (HH.out.de.po i u m hu hm)
      · have hi2 := (List.getElem?_eq_some_iff.1 hm).1
        have hi3 : i = d.P.length := by simp at hi2; omega
        subst hi3
        rw [List.getElem?_append_right (Nat.le_refl _)] at hm
        rw [List.getElem?_append_right (by rw [HUL.out, EN.out]; exact Nat.le_refl _)] at hu
        have e7 : d.P.length - U.length = 0 := by rw [HUL.out, EN.out]; omega
        rw [e7] at hu
        simp at hu hm
        subst hu hm
        exact carry _ _ RT.out)
    exact ⟨rfl, _, ⟨_, _, _, _, _, c1, HH.out.pushF (fun y hy => (HVN.out y hy).imp id (fun q => by omega)) hF.out (fun x hx => List.mem_append_left _ hx)⟩, kk.mono (fun s q => by
      rcases List.mem_cons.1 q with rfl | q
      · exact HH.out.offy hF.out HH.out.gh_mem
      · rcases List.mem_cons.1 q with rfl | q
        · exact HH.out.offy hF.out HH.out.pd_mem
        · exact HH.out.offy hF.out (List.mem_cons_of_mem _ (List.mem_cons_of_mem _ q))), c2, fun x hx => List.mem_append_left _ hx⟩
  have EN0 : Hid (0 = ([] : List Ob).length) := rfl
  refine wp_region_cut (S := (fun w' => w'.cell? ⟨gh, k * 2, none⟩ = some (.slice none 0 0) ∧ w'.cell? ⟨w.heap.size, 0, none⟩ = some (.int .i64 o.1) ∧ w'.cell? ⟨w.heap.size, 1, none⟩ = some (.int .i64 o.2))) 9 #[false, false, false, false, false, false, false, false, false] rfl (by kernel_rfl) (by kernel_rfl) (by (try dsimp only); go_keep) (fun hHeld => ?_)
  simp only [List.take_succ_cons, List.take_zero]
  refine cut_take (i := 0) (oi := _) (v := ?_) rfl (by kernel_rfl) (by kernel_rfl) (by kernel_rfl) (fun _ _ _ h => h) (Or.inl ⟨by rfl, ?_⟩) (by assumption) ?_
  rotate_left
  · (intro w hSw; (try dsimp only at hSw); go_simp <;> with_reducible rfl)
  try simp only [Act.put, List.setIfInBounds_toArray, List.set_cons_zero, List.set_cons_succ]
  refine cut_take (i := 1) (oi := _) (v := ?_) rfl (by kernel_rfl) (by kernel_rfl) (by kernel_rfl) (fun _ _ _ h => h) (Or.inl ⟨by rfl, ?_⟩) (by assumption) ?_
  rotate_left
  · (intro w hSw; (try dsimp only at hSw); go_simp <;> with_reducible rfl)
  try simp only [Act.put, List.setIfInBounds_toArray, List.set_cons_zero, List.set_cons_succ]
  refine cut_take (i := 2) (oi := _) (v := ?_) rfl (by kernel_rfl) (by kernel_rfl) (by kernel_rfl) (fun _ _ _ h => h) (Or.inl ⟨by rfl, ?_⟩) (by assumption) ?_
  rotate_left
  · (intro w hSw; (try dsimp only at hSw); go_simp <;> with_reducible rfl)
  try simp only [Act.put, List.setIfInBounds_toArray, List.set_cons_zero, List.set_cons_succ]
  refine cut_take (i := 3) (oi := _) (v := ?_) rfl (by kernel_rfl) (by kernel_rfl) (by kernel_rfl) (fun _ _ _ h => h) (Or.inl ⟨by rfl, ?_⟩) (by assumption) ?_
  rotate_left
  · (intro w hSw; (try dsimp only at hSw); go_simp <;> with_reducible rfl)
  try simp only [Act.put, List.setIfInBounds_toArray, List.set_cons_zero, List.set_cons_succ]
  refine cut_take (i := 4) (oi := _) (v := ?_) rfl (by kernel_rfl) (by kernel_rfl) (by kernel_rfl) (fun _ _ _ h => h) (Or.inl ⟨by rfl, ?_⟩) (by assumption) ?_
  rotate_left
  · (intro w hSw; (try dsimp only at hSw); go_simp <;> with_reducible rfl)
  try simp only [Act.put, List.setIfInBounds_toArray, List.set_cons_zero, List.set_cons_succ]
  refine cut_take (i := 6) (oi := _) (v := ?_) rfl (by kernel_rfl) (by kernel_rfl) (by kernel_rfl) (fun _ _ _ h => h) (Or.inl ⟨by rfl, ?_⟩) (by assumption) ?_
  rotate_left
  · (intro w hSw; (try dsimp only at hSw); go_simp <;> with_reducible rfl)
  try simp only [Act.put, List.setIfInBounds_toArray, List.set_cons_zero, List.set_cons_succ]
  refine wpAnyH_ready (rs := [5, 7]) (by kernel_rfl) (by simp) ?_
  refine AllReadyH.cons (cut_cons rfl) (fun K hK => ?_) (AllReadyH.cons (cut_cons rfl) (fun K hK => ?_) AllReadyH.nil)
  · refine step_call (by rfl) 88 #[.slice none 0 0] (by kernel_rfl) (.slice none 0 0) _ (CL.out _) ?_
    refine hK.out _ _ (by (try dsimp only); go_keep) (fun hHeld => ?_)
    clear hK K
    try simp only [Act.put, List.setIfInBounds_toArray, List.set_cons_zero, List.set_cons_succ]
    refine wpAnyH_ready (rs := [7]) (by kernel_rfl) (by simp) ?_
    refine AllReadyH.cons (cut_cons rfl) (fun K hK => ?_) AllReadyH.nil
    go_simp
    refine hK.out _ _ (by (try dsimp only); go_keep) (fun hHeld => ?_)
    clear hK K
    try simp only [Act.put, List.setIfInBounds_toArray, List.set_cons_zero, List.set_cons_succ]
    refine wpAnyH_ready (rs := [8]) (by kernel_rfl) (by simp) ?_
    refine AllReadyH.cons (cut_cons rfl) (fun K hK => ?_) AllReadyH.nil
    refine step_appN (X := X) (w := (w5.alloc (.cells #[.int .i64 o.1, .int .i64 o.2] 72)).drew) EN0.out (by rfl) (.tmp 66) (.tmp 68) (by rfl) (by rfl) (by rfl) ((HRC.out.below (by repeat (first | exact Below.refl _ _ | refine Below.drew ?_ | refine below_drewN ?_ _ | refine Below.trans ?_ (Below.mono (by assumption) (by first | omega | (simp; omega) | (simp; done))) | refine Below.alloc ?_ (by first | omega | (simp; omega) | (simp; done)) _ | refine Below.setCell ?_ (by first | omega | (simp; omega) | (simp; done)) _)))) (by omega) (ob := o) (ad := ⟨w5.heap.size, 0, none⟩) (by rw [addr_add]; exact NB0.out) (by rw [addr_add]; exact NB1.out) ?_
    intro g' k' w4 hown4 hb4
    have B4 : Below w5.heap.size w5 w4 := (show Below w5.heap.size w5 ((w5.alloc (.cells #[.int .i64 o.1, .int .i64 o.2] 72)).drew) from (by repeat (first | exact Below.refl _ _ | refine Below.drew ?_ | refine below_drewN ?_ _ | refine Below.trans ?_ (Below.mono (by assumption) (by first | omega | (simp; omega) | (simp; done))) | refine Below.alloc ?_ (by first | omega | (simp; omega) | (simp; done)) _ | refine Below.setCell ?_ (by first | omega | (simp; omega) | (simp; done)) _))).trans (hb4.mono (by simp))
    have y0 := (B4.cell (p := ⟨gh, k * 2, none⟩) gl').trans g0'
    have y1 := (B4.cell (p := ⟨w.heap.size, 0, none⟩) xl).trans x0
    have y2 := (B4.cell (p := ⟨w.heap.size, 1, none⟩) xl).trans x1
    have yf := (B4.frozen (p := ⟨gh, k * 2, none⟩) gl').trans f0'
    have yl : gh < w4.heap.size := Nat.lt_of_lt_of_le gl' B4.size
    refine hK.out _ _ (by (try dsimp only); go_keep) (fun hHeld => ?_)
    clear hK K
    try simp only [Act.put, List.setIfInBounds_toArray, List.set_cons_zero, List.set_cons_succ]
    refine wpAnyH_done (by kernel_rfl) ?_ _
    simp only [headQ, List.drop_succ_cons, List.drop_zero]
    have HO4 := Lib.hid hown4; have HB4 := Lib.hid B4
    clear hown4 hb4 B4 hHeld
    go_wp2
    go_ret
    exact FIN.out w4 g' k' HB4.out HO4.out
  · go_simp
    refine hK.out _ _ (by (try dsimp only); go_keep) (fun hHeld => ?_)
    clear hK K
    try simp only [Act.put, List.setIfInBounds_toArray, List.set_cons_zero, List.set_cons_succ]
    refine wpAnyH_ready (rs := [5]) (by kernel_rfl) (by simp) ?_
    refine AllReadyH.cons (cut_cons rfl) (fun K hK => ?_) AllReadyH.nil
    refine step_call (by rfl) 88 #[.slice none 0 0] (by kernel_rfl) (.slice none 0 0) _ (CL.out _) ?_
    refine hK.out _ _ (by (try dsimp only); go_keep) (fun hHeld => ?_)
    clear hK K
    try simp only [Act.put, List.setIfInBounds_toArray, List.set_cons_zero, List.set_cons_succ]
    refine wpAnyH_ready (rs := [8]) (by kernel_rfl) (by simp) ?_
    refine AllReadyH.cons (cut_cons rfl) (fun K hK => ?_) AllReadyH.nil
    refine step_appN (X := X) (w := (w5.alloc (.cells #[.int .i64 o.1, .int .i64 o.2] 72)).drew) EN0.out (by rfl) (.tmp 66) (.tmp 68) (by rfl) (by rfl) (by rfl) ((HRC.out.below (by repeat (first | exact Below.refl _ _ | refine Below.drew ?_ | refine below_drewN ?_ _ | refine Below.trans ?_ (Below.mono (by assumption) (by first | omega | (simp; omega) | (simp; done))) | refine Below.alloc ?_ (by first | omega | (simp; omega) | (simp; done)) _ | refine Below.setCell ?_ (by first | omega | (simp; omega) | (simp; done)) _)))) (by omega) (ob := o) (ad := ⟨w5.heap.size, 0, none⟩) (by rw [addr_add]; exact NB0.out) (by rw [addr_add]; exact NB1.out) ?_
    intro g' k' w4 hown4 hb4
    have B4 : Below w5.heap.size w5 w4 := (show Below w5.heap.size w5 ((w5.alloc (.cells #[.int .i64 o.1, .int .i64 o.2] 72)).drew) from (by repeat (first | exact Below.refl _ _ | refine Below.drew ?_ | refine below_drewN ?_ _ | refine Below.trans ?_ (Below.mono (by assumption) (by first | omega | (simp; omega) | (simp; done))) | refine Below.alloc ?_ (by first | omega | (simp; omega) | (simp; done)) _ | refine Below.setCell ?_ (by first | omega | (simp; omega) | (simp; done)) _))).trans (hb4.mono (by simp))
    have y0 := (B4.cell (p := ⟨gh, k * 2, none⟩) gl').trans g0'
    have y1 := (B4.cell (p := ⟨w.heap.size, 0, none⟩) xl).trans x0
    have y2 := (B4.cell (p := ⟨w.heap.size, 1, none⟩) xl).trans x1
    have yf := (B4.frozen (p := ⟨gh, k * 2, none⟩) gl').trans f0'
    have yl : gh < w4.heap.size := Nat.lt_of_lt_of_le gl' B4.size
    refine hK.out _ _ (by (try dsimp only); go_keep) (fun hHeld => ?_)
    clear hK K
    try simp only [Act.put, List.setIfInBounds_toArray, List.set_cons_zero, List.set_cons_succ]
    refine wpAnyH_done (by kernel_rfl) ?_ _
    simp only [headQ, List.drop_succ_cons, List.drop_zero]
    have HO4 := Lib.hid hown4; have HB4 := Lib.hid B4
    clear hown4 hb4 B4 hHeld
    go_wp2
    go_ret
    exact FIN.out w4 g' k' HB4.out HO4.out
end
end Go.Proofs.YtcokmiidgdmdlaaGreatDoor

namespace Go.Proofs.YtcokmiidgdmdlaaGreatDoor
open Go.RowKit Go.Maps
set_option linter.unusedSimpArgs false
set_option linter.unusedVariables false
attribute [local go_sem ↓] Go.wp_at_zero Go.wp_at_succ

section
variable {X Y S F : List Nat} {B : Nat} {ev : Nat → Addr} {w w' : World} {pd pc pz gh e : Nat} {mn lw hi : Int} {O : List (List Int)} {v vp vp' : Value} {A : SA} {V : HV} {U U' : List Value} {d : De} {c : Ca} {P' : List (List Ob)}
theorem dgive_any (k : Int) (o : Ob) (hE : ErrS B ev w) (h : CD B w X pd pc pz gh mn lw hi O e v A V vp U d) (hF : Hid (∀ f ∈ F, f ∈ X ∧ f ∉ xd pc v A d.c.L pd gh vp)) (hI : InvD e d) (o1 : -9223372036854775808 ≤ o.2) (o2 : o.2 ≤ 9223372036854775807) :
    Calls Tryz.prog 34 #[.pointer (some ⟨pd, 0, none⟩), .int .i64 k, .agg #[.int .i64 o.1, .int .i64 o.2]] w (DgvPost B ev pd pc pz gh mn lw hi O e X F w (giveD e d k o)) := by
  cases hh : handD d k with
  | none => exact dgive_bad k o hE h hF hh
  | some g =>
    obtain ⟨k0, h1, h2, h3⟩ := handD_some hh
    obtain ⟨kn, hkn⟩ : ∃ kn, kn = k.toNat := ⟨_, rfl⟩
    rw [← hkn] at h1 h3
    subst h3
    have h4 := (hI.h4 g (List.mem_of_getElem? h1))
    obtain ⟨g1, g2⟩ := g
    simp only at h4
    cases ho : outD e d o with
    | false => exact dgive_stale kn o hE h hF hI o1 o2 h1 ho
    | true =>
      by_cases q : g1.length = 4
      · cases g2 with
        | nil => exact dgive_2 kn o h hF hI o1 o2 h1 q ho
        | cons a r => exact dgive_3 kn o hE.size h hF hI o1 o2 h1 q (by simp) ho
      · exact dgive_1 kn o h hF hI o1 o2 h1 (by omega) ho
/-- how many objects hands hold -/
def handN (H : List Hd) : Nat := (H.map fun h => h.1.length + h.2.length).sum
theorem handN_snoc {H : List Hd} {i : Nat} {h : Hd} (hs : H[i]? = some h) : handN (H.take (i + 1)) = handN (H.take i) + (h.1.length + h.2.length) := by
  rw [List.take_add_one, hs]
  unfold handN
  simp
set_option maxHeartbeats 4000000 in
set_option maxRecDepth 100000 in
theorem dheld_ok (h : CD B w X pd pc pz gh mn lw hi O e v A V vp U d) (hI : InvD e d) :
    Calls Tryz.prog 84 #[.pointer (some ⟨pd, 0, none⟩)] w fun r w' => r = .returned (.tuple #[.int .i64 (handN d.H), .int .i64 ((d.P.length * 4 : Nat) : Int)]) ∧ Below w.heap.size w w' := by
  have c1 := h.de.d.c 1 _ rfl; have cl := h.de.d.lt
  have HH := Lib.hid h; have HI := Lib.hid hI
  have hH4 := hI.hl
  have ALL : Hid (d.H.take d.H.length = d.H) := by show _ = _; simp
  obtain ⟨n, hn⟩ : ∃ n, n = d.H.length := ⟨_, rfl⟩
  have EN := Lib.hid hn
  rw [← hn] at c1 hH4 ALL
  have pl : Hid (d.P.length ≤ 65536) := by
    show d.P.length ≤ 65536
    have hh := (held_len hI).1
    have h2 := obs_few hI.c
    omega
  have BD : Hid (∀ i, i ≤ n → handN (d.H.take i) ≤ 8 * i) := by
    intro i
    induction i with
    | zero => intro _; simp [handN]
    | succ i ih =>
      intro hi
      obtain ⟨g, hg⟩ : ∃ g, d.H[i]? = some g := ⟨d.H[i]'(by omega), List.getElem?_eq_getElem _⟩
      rw [handN_snoc hg]
      have := ih (by omega)
      have h4 := hI.h4 g (List.mem_of_getElem? hg)
      omega
  clear h hI hn
  go_enter Tryz.func84, Tryz.ntmps84
  go_wp2_with fail
  go_loopw [2, 11] (fun tv iv wr => ∃ i : Nat, i ≤ n ∧ iv = .int .i64 i ∧ tv = .int .i64 (handN (d.H.take i)) ∧ Below w.heap.size w wr) (fun _ iv _ => n - (intOf iv).toNat)
  case atStart => exact ⟨0, by omega, by go_num, by simp [handN], Below.refl _ _⟩
  case round =>
    obtain ⟨i, hile, rfl, rfl, hbel⟩ := hrel
    have zr := hbel.size
    by_cases hin : i < n
    · obtain ⟨g, hg⟩ : ∃ g, d.H[i]? = some g := ⟨d.H[i]'(by rw [← EN.out]; exact hin), List.getElem?_eq_getElem _⟩
      obtain ⟨⟨pa, pb⟩, hp, r1, r2, g0, g1, _, _, gl⟩ := (HH.out.below hbel).hand hg
      obtain ⟨qa, ca, e1, _⟩ := r1.isSlice
      obtain ⟨qb, cb, e2, _⟩ := r2.isSlice
      simp only at e1 e2 g0 g1
      subst e1 e2
      have l4 := HI.out.h4 g (List.mem_of_getElem? hg)
      have SN := Lib.hid (handN_snoc hg)
      have bd := BD.out i (by omega)
      have j1 : (i : Int) < (n : Int) := by omega
      generalize g.1.length = na at *
      generalize g.2.length = nb at *
      generalize handN (d.H.take i) = t at *
      clear r1 r2 hp hg
      go_wp2
      go_round
      case rel => exact ⟨i + 1, by omega, by go_num, by rw [SN.out]; go_num, hbel.trans (by repeat (first | exact Below.refl _ _ | refine Below.drew ?_ | refine below_drewN ?_ _ | refine Below.trans ?_ (Below.mono (by assumption) (by first | omega | (simp; omega) | (simp; done))) | refine Below.alloc ?_ (by first | omega | (simp; omega) | (simp; done)) _ | refine Below.setCell ?_ (by first | omega | (simp; omega) | (simp; done)) _))⟩
      case measure => simp [intOf]; omega
    · obtain rfl : i = n := by omega
      rw [ALL.out]
      obtain ⟨q, k, evp, k1, k2, _⟩ := (HH.out.below hbel).de.pile
      have c2 := (HH.out.below hbel).de.d.c 2 _ rfl; have cl2 := (HH.out.below hbel).de.d.lt
      rw [evp] at c2
      have pl' := pl.out
      obtain ⟨np, hnp⟩ : ∃ np, np = d.P.length := ⟨_, rfl⟩
      have HNP := Lib.hid hnp
      rw [← hnp] at c2 pl'
      clear hnp
      have hw1 : IntKind.i64.wrap ((np : Int) * 4) = (np : Int) * 4 := IntWalk.i64_in _ (by omega)
      clear evp k1 k2
      go_wp2_with fail
      go_quiet (fail)
      go_wp2
      go_ret2
      exact ⟨by rw [← HNP.out]; simp, hbel.trans (by repeat (first | exact Below.refl _ _ | refine Below.drew ?_ | refine below_drewN ?_ _ | refine Below.trans ?_ (Below.mono (by assumption) (by first | omega | (simp; omega) | (simp; done))) | refine Below.alloc ?_ (by first | omega | (simp; omega) | (simp; done)) _ | refine Below.setCell ?_ (by first | omega | (simp; omega) | (simp; done)) _))⟩
end
end Go.Proofs.YtcokmiidgdmdlaaGreatDoor

namespace Go.Proofs.YtcokmiidgdmdlaaGreatDoor
open Go.RowKit Go.Maps
set_option linter.unusedSimpArgs false
set_option linter.unusedVariables false

section
variable {X Y S F : List Nat} {B : Nat} {ev : Nat → Addr} {w w' w0 : World} {pd pc pz gh e : Nat} {mn lw hi : Int} {O : List (List Int)} {v vp : Value} {A : SA} {d d' : De} {c : Ca}
theorem CD.start (h : CS B w pc pz mn lw hi O e X v A c) (hB : B ≤ w.heap.size) (n : Nat)
    (hw' : w' = (w.alloc (.cells (handL (List.replicate n nilH)).toArray 157)).alloc (.cells #[.pointer (some ⟨pc, 0, none⟩), .slice (some ⟨w.heap.size, 0, none⟩) n n, .slice none 0 0] 152)) :
    CDx B w' (xd pc v A c.L (w.heap.size + 1) w.heap.size (.slice none 0 0)) [] (w.heap.size + 1) pc pz w.heap.size mn lw hi O e ⟨c, List.replicate n ([], []), []⟩ := by
  have b : Below w.heap.size w w' := by rw [hw']; exact (by repeat (first | exact Below.refl _ _ | refine Below.drew ?_ | refine below_drewN ?_ _ | refine Below.trans ?_ (Below.mono (by assumption) (by first | omega | (simp; omega) | (simp; done))) | refine Below.alloc ?_ (by first | omega | (simp; omega) | (simp; done)) _ | refine Below.setCell ?_ (by first | omega | (simp; omega) | (simp; done)) _))
  have ed : day (w.heap.size + 1) w.heap.size (.slice none 0 0) = [w.heap.size + 1, w.heap.size] := rfl
  have sz : w'.heap.size = w.heap.size + 2 := by rw [hw']; simp
  have m1 : CS B w pc pz mn lw hi O e (day (w.heap.size + 1) w.heap.size (.slice none 0 0) ++ X) v A c := h.more (fun x hx => List.mem_append_right _ hx) (fun y hy => by
    rcases List.mem_append.1 hy with q | q
    · rw [ed] at q
      simp at q
      exact .inr (by omega)
    · exact .inl q)
  suffices h0 : CD B w' (xd pc v A c.L (w.heap.size + 1) w.heap.size (.slice none 0 0)) (w.heap.size + 1) pc pz w.heap.size mn lw hi O e v A (List.replicate n nilH) (.slice none 0 0) [] ⟨c, List.replicate n ([], []), []⟩ from ⟨_, _, _, _, _, h0, fun f hf => (by cases hf)⟩
  refine ⟨fun y hy => hy, fun y hy => ?_, (m1.below b).sub (fun y hy => ?_) (fun y hy => List.mem_append_right _ (List.mem_append_left _ hy)) (fun y hy => List.mem_append_right _ (List.mem_append_right _ hy)), ⟨?_, ?_, by simp, fun i p g hp hg => ?_, ⟨rfl, .inl ⟨rfl, rfl⟩⟩, rfl, fun i u m hu => by simp at hu, fun y hy => List.mem_append_left _ hy, ?_, fun y hy => ?_⟩, fun y hy => ?_⟩
  · rcases List.mem_append.1 hy with q | q
    · rw [ed] at q; simp at q; omega
    · rcases List.mem_append.1 q with q | q
      · exact ⟨(h.ch.lim y q).1, by have := (h.ch.lim y q).2; omega⟩
      · exact ⟨(h.z.b.lim y q).1, by have := (h.z.b.lim y q).2; omega⟩
  · rcases List.mem_append.1 hy with q | q
    · exact List.mem_append_left _ q
    · rcases List.mem_append.1 q with q | q
      · exact List.mem_append_right _ (h.ch.mem y q)
      · exact List.mem_append_right _ (h.z.mem y q)
  · rw [hw']
    simp only [List.length_replicate]
    exact LocN.mk_ _ [.pointer (some ⟨pc, 0, none⟩), .slice (some ⟨w.heap.size, 0, none⟩) n n, .slice none 0 0] 152 (by simp)
  · rw [hw']
    exact (LocN.mk_ w (handL (List.replicate n nilH)) 157 rfl).past _
  · rw [List.getElem?_replicate] at hp hg
    split at hp
    · rw [if_pos (by assumption)] at hg
      obtain rfl := Option.some.inj hp
      obtain rfl := Option.some.inj hg
      exact ⟨RowO.nil _ _, RowO.nil _ _⟩
    · cases hp
  · rw [ed]; simp
  · rw [ed] at hy; simp at hy; omega
  · rw [ed] at hy
    simp at hy
    refine ⟨fun q => ?_, fun q => ?_⟩
    · have := (h.ch.lim y q).2; omega
    · have := (h.z.b.lim y q).2; omega
theorem InvD.start (h : InvC e c) (n : Nat) (n1 : 1 ≤ n) (n4 : n ≤ 4) : InvD e ⟨c, List.replicate n ([], []), []⟩ := by
  have hh : ∀ n, held ⟨c, List.replicate n ([], []), []⟩ = [] := fun n => by
    unfold held heldH
    simp
  refine ⟨h, (by simp; omega), fun o ho => (by rw [hh n] at ho; cases ho), (by rw [hh n]; exact List.nodup_nil), fun g hg => ?_, fun m hm => (by cases hm)⟩
  rw [List.mem_replicate] at hg
  rw [hg.2]; simp
/-- a depot that acts are done on -/
structure DpS (B : Nat) (w0 : World) (pd pc pz gh : Nat) (mn lw hi : Int) (O : List (List Int)) (e : Nat) (X F : List Nat) (d : De) (w : World) : Prop where
  cd : CDx B w X F pd pc pz gh mn lw hi O e d
  inv : InvD e d
  bel : Below B w0 w
theorem DpS.go (h : DpS B w0 pd pc pz gh mn lw hi O e X F d w) (hB : B ≤ w.heap.size) (k : Below w.heap.size w w') : DpS B w0 pd pc pz gh mn lw hi O e X F d w' := ⟨h.cd.below k, h.inv, h.bel.trans (k.mono hB)⟩
theorem DpS.ord (h : DpS B w0 pd pc pz gh mn lw hi O e X F d w) : OrdZ O d.c.L.length := by
  obtain ⟨v, A, V, vp, U, q, hf⟩ := h.cd
  exact q.cs.z.ord
theorem dp_take (k n : Int) (u : Bool) (hE : ErrS B ev w0) (h : DpS B w0 pd pc pz gh mn lw hi O e X F d w) :
    Calls Tryz.prog 33 #[.pointer (some ⟨pd, 0, none⟩), .int .i64 k, .int .i64 n, .bool u] w fun r w' => r = .returned (.tuple #[obV (takeD mn O e d k n u).2.2, errV ev (takeD mn O e d k n u).2.1]) ∧ Keep (off X F) w w' ∧ ∃ X', (∀ x ∈ X', x ∈ X ∨ w.heap.size ≤ x) ∧ (∀ x ∈ X, x ∈ X') ∧ DpS B w0 pd pc pz gh mn lw hi O e X' F (takeD mn O e d k n u).1 w' := by
  have hB := Nat.le_trans hE.size h.bel.size
  obtain ⟨v, A, V, vp, U, q, hf⟩ := h.cd
  refine (dtake_any k n u ((hE.below h.bel).z) q hf h.inv).mono fun r w' ⟨hr, X', h1, h2, h3, h4⟩ => ⟨hr, h2, X', h3, h4, h1, takeD_inv q.cs.z.ord h.inv, h.bel.trans (h2.below hB fun s hs => (q.lim s (off_mem.1 hs).1).1)⟩
theorem dp_give (k : Int) (o : Ob) (hE : ErrS B ev w0) (h : DpS B w0 pd pc pz gh mn lw hi O e X F d w) (o1 : -9223372036854775808 ≤ o.2) (o2 : o.2 ≤ 9223372036854775807) :
    Calls Tryz.prog 34 #[.pointer (some ⟨pd, 0, none⟩), .int .i64 k, .agg #[.int .i64 o.1, .int .i64 o.2]] w fun r w' => r = .returned (errV ev (giveD e d k o).2) ∧ Keep (off X F) w w' ∧ ∃ X', (∀ x ∈ X', x ∈ X ∨ w.heap.size ≤ x) ∧ (∀ x ∈ X, x ∈ X') ∧ DpS B w0 pd pc pz gh mn lw hi O e X' F (giveD e d k o).1 w' := by
  have hB := Nat.le_trans hE.size h.bel.size
  obtain ⟨v, A, V, vp, U, q, hf⟩ := h.cd
  refine (dgive_any k o (hE.below h.bel) q hf h.inv o1 o2).mono fun r w' ⟨hr, X', h1, h2, h3, h4⟩ => ⟨hr, h2, X', h3, h4, h1, giveD_inv h.inv, h.bel.trans (h2.below hB fun s hs => (q.lim s (off_mem.1 hs).1).1)⟩
theorem dp_held (h : DpS B w0 pd pc pz gh mn lw hi O e X F d w) (hB : B ≤ w.heap.size) :
    Calls Tryz.prog 84 #[.pointer (some ⟨pd, 0, none⟩)] w fun r w' => r = .returned (.tuple #[.int .i64 (handN d.H), .int .i64 ((d.P.length * 4 : Nat) : Int)]) ∧ Below w.heap.size w w' ∧ DpS B w0 pd pc pz gh mn lw hi O e X F d w' := by
  obtain ⟨v, A, V, vp, U, q, _⟩ := id h.cd
  exact (dheld_ok q h.inv).mono fun r w' ⟨h1, h2⟩ => ⟨h1, h2, h.go hB h2⟩
theorem DpS.other (h : DpS B w0 pd pc pz gh mn lw hi O e X F d w) (hB : B ≤ w.heap.size) (k : Keep S w w') (hs : ∀ s ∈ S, s ∈ F) : DpS B w0 pd pc pz gh mn lw hi O e X F d w' := by
  obtain ⟨v, A, V, vp, U, q, hf⟩ := h.cd
  exact ⟨⟨v, A, V, vp, U, q.other k (fun s hs' => ⟨.inl (hf s (hs s hs')).1, (hf s (hs s hs')).2⟩), hf⟩, h.inv, h.bel.trans (k.below hB fun s hs' => (q.lim s (hf s (hs s hs')).1).1)⟩
theorem DpS.add (h : DpS B w0 pd pc pz gh mn lw hi O e X F d w) (hB : B ≤ w.heap.size) {G : List Nat} {w1 : World} (k : Below w.heap.size w w1) (hG : ∀ g ∈ G, w.heap.size ≤ g ∧ g < w1.heap.size) : DpS B w0 pd pc pz gh mn lw hi O e (G ++ X) (G ++ F) d w1 := by
  obtain ⟨v, A, V, vp, U, q, hf⟩ := h.cd
  refine ⟨⟨v, A, V, vp, U, q.add k hG hB, fun f hff => ?_⟩, h.inv, h.bel.trans (k.mono hB)⟩
  rcases List.mem_append.1 hff with r | r
  · exact ⟨List.mem_append_left _ r, fun t => by have := (q.lim f (q.x f t)).2; have := (hG f r).1; omega⟩
  · exact ⟨List.mem_append_right _ (hf f r).1, (hf f r).2⟩
end
end Go.Proofs.YtcokmiidgdmdlaaGreatDoor

namespace Go.Proofs.YtcokmiidgdmdlaaGreatDoor
set_option linter.unusedSimpArgs false
set_option linter.unusedVariables false

/-- a hand behind so many gives from an empty one -/
def h0 (l : List Ob) (i : Nat) : Hd := if i ≤ 4 then (l.take i, []) else ((l.take i).drop 4, l.take 4)
def stH (l : List Ob) (i : Nat) (h : Hd) : Prop := h = h0 l i ∨ (i = 4 ∧ h = ([], l.take 4))
theorem take_snocO {l : List Ob} {i : Nat} {o : Ob} (h : l[i]? = some o) : l.take (i + 1) = l.take i ++ [o] := by rw [List.take_add_one, h]; rfl
theorem give_step {l : List Ob} {i : Nat} {o : Ob} (hl : l.length ≤ 8) (ho : l[i]? = some o) :
    ((fillD (h0 l i) []).1.1 ++ [o], (fillD (h0 l i) []).1.2) = h0 l (i + 1) ∧ (fillD (h0 l i) []).2 = [] := by
  have hi := (List.getElem?_eq_some_iff.1 ho).1
  rcases Nat.lt_trichotomy i 4 with q | q | q
  · have e : h0 l i = (l.take i, []) := by unfold h0; rw [if_pos (by omega)]
    have f : fillD (h0 l i) [] = ((l.take i, []), []) := by
      rw [e]; unfold fillD
      rw [if_neg (by simp only [List.length_take]; omega)]
    rw [f]
    refine ⟨?_, rfl⟩
    unfold h0
    rw [if_pos (by omega), take_snocO ho]
  · subst q
    have e : h0 l 4 = (l.take 4, []) := by unfold h0; rw [if_pos (by omega)]
    have f : fillD (h0 l 4) [] = (([], l.take 4), []) := by
      rw [e]; unfold fillD
      rw [if_pos (by simp only [List.length_take]; omega), if_pos rfl]
    rw [f]
    refine ⟨?_, rfl⟩
    unfold h0
    rw [if_neg (by omega), take_snocO ho, List.drop_append_of_le_length (by rw [List.length_take]; omega), List.drop_eq_nil_of_le (by rw [List.length_take]; omega)]
  · have e : h0 l i = ((l.take i).drop 4, l.take 4) := by unfold h0; rw [if_neg (by omega)]
    have f : fillD (h0 l i) [] = (((l.take i).drop 4, l.take 4), []) := by
      rw [e]; unfold fillD
      rw [if_neg (by simp only [List.length_take, List.length_drop]; omega)]
    rw [f]
    refine ⟨?_, rfl⟩
    unfold h0
    rw [if_neg (by omega), take_snocO ho, List.drop_append_of_le_length (by rw [List.length_take]; omega)]
theorem pop_step {l : List Ob} {i : Nat} {o : Ob} {h : Hd} (hl : l.length ≤ 8) (ho : l[i]? = some o) (hs : stH l (i + 1) h) :
    (loadD h []).1.1.getLast? = some o ∧ stH l i ((loadD h []).1.1.dropLast, (loadD h []).1.2) ∧ (loadD h []).2 = [] := by
  have hi := (List.getElem?_eq_some_iff.1 ho).1
  rcases hs with rfl | ⟨q, rfl⟩
  · by_cases q : i + 1 ≤ 4
    · have e : h0 l (i + 1) = (l.take i ++ [o], []) := by unfold h0; rw [if_pos q, take_snocO ho]
      have f : loadD (h0 l (i + 1)) [] = ((l.take i ++ [o], []), []) := by rw [e]; unfold loadD; rw [if_neg (by simp)]
      rw [f]
      refine ⟨by simp, .inl ?_, rfl⟩
      unfold h0
      rw [if_pos (by omega)]
      simp
    · have e : h0 l (i + 1) = ((l.take i).drop 4 ++ [o], l.take 4) := by
        unfold h0
        rw [if_neg q, take_snocO ho, List.drop_append_of_le_length (by rw [List.length_take]; omega)]
      have f : loadD (h0 l (i + 1)) [] = (((l.take i).drop 4 ++ [o], l.take 4), []) := by rw [e]; unfold loadD; rw [if_neg (by simp)]
      rw [f]
      refine ⟨by simp, ?_, rfl⟩
      simp only [List.dropLast_concat]
      by_cases q4 : i = 4
      · subst q4
        exact .inr ⟨rfl, by rw [List.drop_eq_nil_of_le (by rw [List.length_take]; omega)]⟩
      · left
        unfold h0
        rw [if_neg (by omega)]
  · obtain rfl : i = 3 := by omega
    have e : l.take 4 = l.take 3 ++ [o] := take_snocO ho
    have f : loadD (([], l.take 4) : Hd) [] = ((l.take 3 ++ [o], []), []) := by
      rw [e]; unfold loadD
      rw [if_pos rfl, if_neg (by simp)]
    rw [f]
    refine ⟨by simp, .inl ?_, rfl⟩
    unfold h0
    rw [if_pos (by omega)]
    simp
section
variable {e n p : Nat} {d : De} {k : Int}
theorem FullI.ord {c : Ca} (h : FullI p e n c) (hO : OrdZ [[0]] 1) : OrdZ [[0]] c.L.length := by
  obtain ⟨x, hx, _⟩ := h.one
  rw [hx]; exact hO
theorem ls_take (hO : OrdZ [[0]] 1) (hI : InvD e d) (hF : FullI p e n d.c) (hn : n < p * roomE e) (hk : handD d k = some ([], [])) (hP : d.P = []) :
    (takeD 0 [[0]] e d k 0 true).2.1 = 0 ∧ (takeD 0 [[0]] e d k 0 true).2.2 ∉ obsC e d.c.C ∧ (∀ x, x ∈ obsC e (takeD 0 [[0]] e d k 0 true).1.c.C ↔ x = (takeD 0 [[0]] e d k 0 true).2.2 ∨ x ∈ obsC e d.c.C) ∧
    (takeD 0 [[0]] e d k 0 true).1.H = d.H ∧ (takeD 0 [[0]] e d k 0 true).1.P = [] ∧ FullI p e (n + 1) (takeD 0 [[0]] e d k 0 true).1.c ∧ InvD e (takeD 0 [[0]] e d k 0 true).1 := by
  have ld : (loadD ([], []) d.P).1.1.getLast? = none := by rw [hP]; rfl
  have hi := takeD_inv (mn := 0) (O := [[0]]) (k := k) (v := 0) (u := true) (hF.ord hO) hI
  rw [takeD_cache hk ld] at hi ⊢
  obtain ⟨t1, t2, t3⟩ := hF.take (mn := 0) (O := [[0]]) hO hn
  rcases take_obs (mn := 0) (O := [[0]]) (hF.ord hO) hI.c 0 true with ⟨_, q1, q2⟩ | ⟨q, _⟩
  · exact ⟨t1, q1, q2, rfl, hP, t3, hi⟩
  · exact absurd t1 q
theorem ls_pop {l : List Ob} {i : Nat} {o : Ob} {h : Hd} {R : List Hd} (hl : l.length ≤ 8) (ho : l[i]? = some o) (hs : stH l (i + 1) h) (hH : d.H = h :: R) (hP : d.P = []) :
    (takeD 0 [[0]] e d 0 0 true).2 = (0, o) ∧ (∃ h', (takeD 0 [[0]] e d 0 0 true).1.H = h' :: R ∧ stH l i h') ∧ (takeD 0 [[0]] e d 0 0 true).1.P = [] ∧ (takeD 0 [[0]] e d 0 0 true).1.c = d.c := by
  have hk : handD d 0 = some h := by unfold handD; rw [if_neg (by omega), hH]; rfl
  obtain ⟨p1, p2, p3⟩ := pop_step hl ho hs
  rw [takeD_pop hk (o := o) (by rw [hP]; exact p1), hP, hH]
  exact ⟨rfl, ⟨_, rfl, p2⟩, p3, rfl⟩
theorem ls_give {l : List Ob} {i : Nat} {o : Ob} {R : List Hd} (hl : l.length ≤ 8) (ho : l[i]? = some o) (hH : d.H = h0 l i :: R) (hP : d.P = []) (hout : outD e d o = true) :
    (giveD e d 0 o).2 = 0 ∧ (giveD e d 0 o).1.H = h0 l (i + 1) :: R ∧ (giveD e d 0 o).1.P = [] ∧ (giveD e d 0 o).1.c = d.c := by
  have hk : handD d 0 = some (h0 l i) := by unfold handD; rw [if_neg (by omega), hH]; rfl
  obtain ⟨p1, p2⟩ := give_step hl ho
  have : giveD e d 0 o = (⟨d.c, d.H.set (0 : Int).toNat ((fillD (h0 l i) d.P).1.1 ++ [o], (fillD (h0 l i) d.P).1.2), (fillD (h0 l i) d.P).2⟩, 0) := by unfold giveD; rw [hk]; simp only [hout, if_true]
  rw [this, hP, hH, p1, p2]
  exact ⟨rfl, rfl, rfl, rfl⟩
theorem h0_mem {l : List Ob} {i : Nat} {x : Ob} : x ∈ (h0 l i).1 ++ (h0 l i).2 → x ∈ l.take i := by
  unfold h0
  split
  · simp
  · intro h
    rcases List.mem_append.1 h with q | q
    · exact List.mem_of_mem_drop q
    · have : l.take 4 = (l.take i).take 4 := by rw [List.take_take]; congr 1; omega
      simp only at q
      rw [this] at q
      exact List.mem_of_mem_take q
theorem ls_out {l : List Ob} {i : Nat} {o : Ob} {R : List Hd} (hR : heldH R = []) (hnd : l.Nodup) (ho : l[i]? = some o) (hH : d.H = h0 l i :: R) (hP : d.P = []) (hs : ∀ x ∈ l, x ∈ obsC e d.c.C) : outD e d o = true := by
  refine outD_iff.2 ⟨hs o (List.mem_of_getElem? ho), fun q => ?_⟩
  unfold held at q
  rw [hH, hP] at q
  have e1 : heldH (h0 l i :: R) = (h0 l i).1 ++ (h0 l i).2 ++ heldH R := by unfold heldH; rw [List.flatMap_cons]
  rw [e1, hR] at q
  simp only [List.append_nil, List.flatten_nil] at q
  have hm := h0_mem q
  obtain ⟨j, hj, hg⟩ := List.mem_iff_getElem.1 hm
  have hj' : j < i := by rw [List.length_take] at hj; omega
  rw [List.getElem_take] at hg
  have hi := (List.getElem?_eq_some_iff.1 ho)
  obtain ⟨hil, hie⟩ := hi
  have := List.pairwise_iff_getElem.1 hnd j i (by omega) hil hj'
  rw [hg, hie] at this
  exact this rfl
end
end Go.Proofs.YtcokmiidgdmdlaaGreatDoor

namespace Go.Proofs.YtcokmiidgdmdlaaGreatDoor
open Go.RowKit Go.ChangeShapes
set_option linter.unusedSimpArgs false

structure ZActD where
  kind : ByteArray
  node : Int
  order : Int
  urgent : Bool
  pn : Int
  pa : Int
  pk : Int
def ZActD.cells (x : ZActD) : List Value := [.string x.kind, .int .i64 x.node, .int .i64 x.order, .bool x.urgent, .int .i64 x.pn, .int .i64 x.pa, .int .i64 x.pk]
def ZActD.fits (x : ZActD) : Prop := x.kind.size ≤ maxLen ∧ Fit64 x.node ∧ Fit64 x.order ∧ Fit64 x.pn ∧ Fit64 x.pa ∧ Fit64 x.pk
def RowZAct (w : World) (v : Value) (xs : List ZActD) : Prop := RowG 7 ZActD.cells ZActD.fits w v xs
end Go.Proofs.YtcokmiidgdmdlaaGreatDoor

namespace Go.Proofs.YtcokmiidgdmdlaaGreatDoor
open Go.RowKit Go.Maps
set_option linter.unusedSimpArgs false
set_option linter.unusedVariables false

end Go.Proofs.YtcokmiidgdmdlaaGreatDoor
