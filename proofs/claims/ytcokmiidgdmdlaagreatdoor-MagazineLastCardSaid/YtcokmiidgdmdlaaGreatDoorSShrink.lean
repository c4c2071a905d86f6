/- Package slab: Shrink by its contract. -/
import Derived.Test.YtcokmiidgdmdlaaGreatDoorSFind
import Derived.Test.YtcokmiidgdmdlaaGreatDoorSFullW
import Derived.Test.YtcokmiidgdmdlaaGreatDoorSDel
namespace Go.Proofs.YtcokmiidgdmdlaaGreatDoor
open Go.RowKit Go.Maps
set_option linter.unusedSimpArgs false
set_option linter.unusedVariables false
attribute [local go_sem ↓] Go.wp_at_zero Go.wp_at_succ

theorem sptrs_del (A : SA) (i : Nat) : sptrs (A.eraseIdx i) = (sptrs A).eraseIdx i := by
  unfold sptrs
  rw [List.eraseIdx_eq_take_drop_succ, List.eraseIdx_eq_take_drop_succ]
  simp [List.map_take, List.map_drop]
theorem ay_del (A : SA) (i : Nat) : (ay (A.eraseIdx i)).Sublist (ay A) := by
  induction A generalizing i with
  | nil => simp
  | cons a A ih =>
    cases i with
    | zero =>
      simp only [List.eraseIdx_cons_zero, ay, List.flatMap_cons]
      exact List.sublist_append_right _ _
    | succ i =>
      simp only [List.eraseIdx_cons_succ, ay, List.flatMap_cons]
      exact List.Sublist.append (List.Sublist.refl _) (ih i)
section
variable {B : Nat} {ev : Nat → Addr} {pc pz e : Nat} {mn lw hi : Int} {O : List (List Int)} {X : List Nat} {vs : Value} {A : SA} {c : Ca} {w w1 w' : World}
/-- a slab less: the slice was written, then the cache's cell -/
theorem CacB.del {C : List Sl} {g k i : Nat} (h : CacB X B w pc pz e (.slice (some ⟨g, 0, none⟩) C.length k) A C) (hi : i < C.length) (kk : Keep [g] w w1) (own : w1.ownsRow B 160 1 (.slice (some ⟨g, 0, none⟩) (C.length - 1) k) (C.length - 1) (sptrs (A.eraseIdx i))) (hw' : w' = w1.setCell ⟨pc, 2, none⟩ (.slice (some ⟨g, 0, none⟩) (C.length - 1) k)) :
    CacB X B w' pc pz e (.slice (some ⟨g, 0, none⟩) (C.length - 1) k) (A.eraseIdx i) (C.eraseIdx i) ∧ Keep [pc, g] w w' ∧ ∀ y ∈ cay pc (.slice (some ⟨g, 0, none⟩) (C.length - 1) k) (A.eraseIdx i), y ∈ cay pc (.slice (some ⟨g, 0, none⟩) C.length k) A := by
  obtain ⟨n0, nn⟩ := List.nodup_cons.1 h.nd
  obtain ⟨no, na, nx⟩ := List.nodup_append.1 nn
  have eo : ownX (.slice (some ⟨g, 0, none⟩) (C.length - 1) k) = ownX (.slice (some ⟨g, 0, none⟩) C.length k) := rfl
  have hg : g ∈ ownX (.slice (some ⟨g, 0, none⟩) C.length k) := by simp [ownX, Value.ownBlock]
  have hpg : pc ≠ g := fun q => n0 (List.mem_append_left _ (q ▸ hg))
  have hga : g ∉ ay A := fun q => nx _ hg _ q rfl
  have hpa : pc ∉ ay A := fun q => n0 (List.mem_append_right _ q)
  have K' : Keep [pc, g] w w' := by rw [hw']; exact (kk.mono (fun y q => by simp at q; simp [q])).setCell (p := ⟨pc, 2, none⟩) (.inl (by simp)) _
  have sub : ∀ y ∈ cay pc (.slice (some ⟨g, 0, none⟩) (C.length - 1) k) (A.eraseIdx i), y ∈ cay pc (.slice (some ⟨g, 0, none⟩) C.length k) A := fun y hy => by
    rcases List.mem_cons.1 hy with q | q
    · subst q; exact List.mem_cons_self ..
    · rcases List.mem_append.1 q with r | r
      · exact List.mem_cons_of_mem _ (List.mem_append_left _ (eo ▸ r))
      · exact List.mem_cons_of_mem _ (List.mem_append_right _ ((ay_del A i).subset r))
  have el : (C.eraseIdx i).length = C.length - 1 := by rw [List.length_eraseIdx, if_pos hi]
  refine ⟨⟨?_, ?_, ?_, fun j r z hr hz => ?_, fun y hy => h.mem y (sub y hy), ?_, fun y hy => ⟨(h.lim y (sub y hy)).1, Nat.lt_of_lt_of_le (h.lim y (sub y hy)).2 K'.size⟩⟩, K', sub⟩
  · rw [hw']
    exact (h.c.keep kk (by simpa using hpg)).store 2 _ (by simp)
  · rw [el, hw']
    exact own_keep own ((Keep.refl [pc] _).setCell (p := ⟨pc, 2, none⟩) (.inl (by simp)) _) (fun x hx q => by
      simp at hx; subst hx
      simp [ownX, Value.ownBlock] at q
      exact hpg q)
  · rw [el, List.length_eraseIdx, if_pos (by rw [h.len]; exact hi), h.len]
  · rw [List.getElem?_eraseIdx] at hr hz
    have old : ∀ j r z, A[j]? = some r → C[j]? = some z → SlabB w' r z := fun j r z hr hz => by
      have hm := List.mem_of_getElem? hr
      have a1 : r.1 ∈ ay A := ay_mem.2 ⟨r, hm, .inl rfl⟩
      have a2 : r.2 ∈ ay A := ay_mem.2 ⟨r, hm, .inr rfl⟩
      refine (h.sl j r z hr hz).keep K' (fun q => ?_) (fun q => ?_)
      · simp at q
        rcases q with t | t
        · exact hpa (t ▸ a1)
        · exact hga (t ▸ a1)
      · simp at q
        rcases q with t | t
        · exact hpa (t ▸ a2)
        · exact hga (t ▸ a2)
    split at hr
    · rename_i q; rw [if_pos q] at hz; exact old _ r z hr hz
    · rename_i q; rw [if_neg q] at hz; exact old _ r z hr hz
  · refine List.nodup_cons.2 ⟨fun q => n0 ?_, List.nodup_append.2 ⟨no, na.sublist (ay_del A i), fun a ha b hb hab => nx a ha b ((ay_del A i).subset hb) hab⟩⟩
    rcases List.mem_append.1 q with r | r
    · exact List.mem_append_left _ r
    · exact List.mem_append_right _ ((ay_del A i).subset r)
theorem CS.del {g k i : Nat} (h : CS B w pc pz mn lw hi O e X (.slice (some ⟨g, 0, none⟩) c.C.length k) A c) (hi' : i < c.C.length) (kk : Keep [g] w w1) (own : w1.ownsRow B 160 1 (.slice (some ⟨g, 0, none⟩) (c.C.length - 1) k) (c.C.length - 1) (sptrs (A.eraseIdx i))) (hw' : w' = w1.setCell ⟨pc, 2, none⟩ (.slice (some ⟨g, 0, none⟩) (c.C.length - 1) k)) :
    CS B w' pc pz mn lw hi O e X (.slice (some ⟨g, 0, none⟩) (c.C.length - 1) k) (A.eraseIdx i) ⟨c.L, c.C.eraseIdx i⟩ ∧ Keep (cay pc (.slice (some ⟨g, 0, none⟩) c.C.length k) A) w w' ∧ ∀ y ∈ cay pc (.slice (some ⟨g, 0, none⟩) (c.C.length - 1) k) (A.eraseIdx i), y ∈ cay pc (.slice (some ⟨g, 0, none⟩) c.C.length k) A := by
  obtain ⟨q1, q2, q3⟩ := h.ch.del hi' kk own hw'
  have mg : ∀ s ∈ [pc, g], s ∈ cay pc (.slice (some ⟨g, 0, none⟩) c.C.length k) A := fun s hs => by
    simp at hs
    rcases hs with rfl | rfl
    · exact List.mem_cons_self ..
    · exact List.mem_cons_of_mem _ (List.mem_append_left _ (by simp [ownX, Value.ownBlock]))
  exact ⟨⟨h.z.keep q2 (fun s hs => .inl ⟨h.ch.mem s (mg s hs), h.ne s (mg s hs)⟩), q1, fun y hy => h.ne y (q3 y hy), h.l0⟩, q2.mono mg, q3⟩
theorem giveZ_page {L : List Nd} {s : Sl} (h : TakenP L s) : (giveZ L s.nd s.pg 0).2 = 0 := by
  obtain ⟨h0, x, hx, hg⟩ := h
  have hl := (List.getElem?_eq_some_iff.1 hx).1
  have hv : ¬ (s.nd < 0 ∨ (L.length : Int) ≤ s.nd) := by omega
  unfold giveZ
  rw [if_neg hv, hx]
  simp only [hg, if_true]

set_option maxHeartbeats 1000000 in
theorem sshrink_bad (v most : Int) (hE : ErrZ B ev w) (h : CS B w pc pz mn lw hi O e X vs A c) (hv : v < 0 ∨ (c.L.length : Int) ≤ v ∨ most < 0) :
    Calls Tryz.prog 40 #[.pointer (some ⟨pc, 0, none⟩), .int .i64 v, .int .i64 most] w fun r w' => r = .returned (.tuple #[.int .i64 0, errV ev 2]) ∧ Below w.heap.size w w' := by
  have e1 : errV ev 2 = .iface 291 (.pointer (some (ev 2))) := rfl
  by_cases hb : v < 0 ∨ (c.L.length : Int) ≤ v
  · have NO := Lib.hid (cnode_err hE.c h v hb)
    rw [e1] at NO ⊢
    clear h hv hE e1 hb
    go_enter Tryz.func40, Tryz.ntmps40
    go_wp2_with fail
    refine NO.out.mono ?_
    rintro r w1 ⟨rfl, hb1⟩
    go_wp2
    go_ret2
    exact ⟨rfl, hb1⟩
  · obtain ⟨n, rfl⟩ : ∃ n : Nat, v = n := ⟨v.toNat, by omega⟩
    have NO := Lib.hid (cnode_ok h n (by omega))
    have hm : most < 0 := by omega
    have HE := Lib.hid hE; have E1 := Lib.hid e1
    have d1 : decide (most < 0) = true := decide_eq_true hm
    rw [e1]
    clear h hv hE e1 hb
    go_enter Tryz.func40, Tryz.ntmps40
    go_wp2_with fail
    refine NO.out.mono ?_
    rintro r w1 ⟨rfl, hb1⟩
    have g2 := (HE.out.go hb1).c.c2; have g2l := Nat.lt_of_lt_of_le HE.out.c.l2 (Nat.le_trans HE.out.size hb1.size)
    rw [E1.out] at g2
    go_wp2_with fail
    go_quiet (fail)
    go_wp2
    go_ret2
    exact ⟨rfl, (by repeat (first | exact Below.refl _ _ | refine Below.drew ?_ | refine below_drewN ?_ _ | refine Below.trans ?_ (Below.mono (by assumption) (by first | omega | (simp; omega) | (simp; done))) | refine Below.alloc ?_ (by first | omega | (simp; omega) | (simp; done)) _ | refine Below.setCell ?_ (by first | omega | (simp; omega) | (simp; done)) _))⟩

set_option maxHeartbeats 4000000 in
set_option maxRecDepth 100000 in
theorem sshrink_ok (v : Nat) (most : Int) (hE : ErrZ B ev w) (h : CS B w pc pz mn lw hi O e X vs A c) (hI : InvC e c) (hv : v < c.L.length) (hm : 0 ≤ most) :
    Calls Tryz.prog 40 #[.pointer (some ⟨pc, 0, none⟩), .int .i64 v, .int .i64 most] w fun r w' => r = .returned (.tuple #[.int .i64 (shrinkC v most c.C.length (c, 0)).2, .nilIface]) ∧
      ∃ v' A', CS B w' pc pz mn lw hi O e X v' A' (shrinkC v most c.C.length (c, 0)).1 ∧ Keep (cay pc vs A ++ ys c.L) w w' ∧ ∀ y ∈ cay pc v' A', y ∈ cay pc vs A := by
  have hB := hE.size
  have NO := Lib.hid (cnode_ok h v hv)
  have HH := Lib.hid h; have HE := Lib.hid hE; have HI := Lib.hid hI
  obtain ⟨R, hR⟩ : ∃ R, R = shrinkC v most c.C.length (c, 0) := ⟨_, rfl⟩
  have dm : decide (most < 0) = false := decide_eq_false (by omega)
  have few := hI.few
  obtain ⟨N, hN⟩ : ∃ N, N = c.C.length := ⟨_, rfl⟩
  rw [← hN] at few
  have HN := Lib.hid hN
  rw [← hR]
  have HR := Lib.hid hR
  clear h hE hI hR hN
  go_enter Tryz.func40, Tryz.ntmps40
  go_wp2_with fail
  refine NO.out.mono ?_
  rintro r w1 ⟨rfl, hb1⟩
  have H1 := Lib.hid (HH.out.below hb1)
  have K1 := Lib.hid (Keep.of (S := cay pc vs A ++ ys c.L) hb1)
  have c2 := H1.out.ch.c.c 2 _ rfl; have cl := H1.out.ch.c.lt
  obtain ⟨qv, kv, evs, kv1, kv2, hrow⟩ := H1.out.ch.form
  subst evs
  rw [← HN.out] at c2
  have hw1 : IntKind.i64.wrap ((N : Int) - 1) = (N : Int) - 1 := IntWalk.i64_in _ (by omega)
  clear NO hb1 hrow
  go_wp2_with fail
  go_loopw [9, 10] (fun nv iv wr => ∃ (i n : Nat) (v' : Value) (A' : SA) (c' : Ca), iv = .int .i64 ((i : Int) - 1) ∧ nv = .int .i64 n ∧ i ≤ c'.C.length ∧ n + i ≤ N ∧ Hid (R = shrinkC v most i (c', n)) ∧ Hid (CS B wr pc pz mn lw hi O e X v' A' c') ∧ Hid (InvC e c') ∧ Hid (SameZ c.L c'.L) ∧ Hid (Keep (cay pc (.slice qv c.C.length kv) A ++ ys c.L) w wr) ∧ Hid (∀ y ∈ cay pc v' A', y ∈ cay pc (.slice qv c.C.length kv) A)) (fun _ iv _ => (intOf iv + 1).toNat)
  case atStart => exact ⟨N, 0, _, A, c, by go_num, by go_num, by rw [HN.out]; exact Nat.le_refl _, by omega, by rw [HN.out]; exact HR, H1, HI, SameZ.refl _, K1, fun y q => q⟩
  case round =>
    obtain ⟨i, n, v', A', c', rfl, rfl, hic, hni, HRr, HCr, HIr, HSr, HKr, HYr⟩ := hrel
    cases i with
    | zero =>
      have d1 : decide ((0 : Int) ≤ ((0 : Nat) : Int) - 1) = false := decide_eq_false (by omega)
      have er : R = (c', n) := HRr.out
      subst er
      go_wp2
      go_ret2
      exact ⟨rfl, v', A', HCr.out, HKr.out, HYr.out⟩
    | succ j =>
      have ej : ((j + 1 : Nat) : Int) - 1 = (j : Int) := by omega
      rw [ej]
      have d1 : decide ((0 : Int) ≤ (j : Int)) = true := decide_eq_true (by omega)
      have hw3 : IntKind.i64.wrap ((j : Int) - 1) = (j : Int) - 1 := IntWalk.i64_in _ (by omega)
      by_cases hnm : (n : Int) < most
      · have d2 : decide ((n : Int) < most) = true := decide_eq_true hnm
        obtain ⟨s, hs⟩ : ∃ s, c'.C[j]? = some s := ⟨c'.C[j]'(by omega), List.getElem?_eq_getElem _⟩
        obtain ⟨p, hp, hsl, _⟩ := HCr.out.ch.at hs
        obtain ⟨qr, kr, evr, kr1, kr2, hrowr⟩ := HCr.out.ch.form
        subst evr
        obtain ⟨g, rfl, hg, ck⟩ := hrowr j p hp
        obtain ⟨d0, d1', _, d3, d4, dl, dl2⟩ := hsl.cells
        have y0 := HCr.out.ch.c.c 0 _ rfl; have y2 := HCr.out.ch.c.c 2 _ rfl; have yl := HCr.out.ch.c.lt
        have few' := HIr.out.few
        obtain ⟨m, hm'⟩ : ∃ m, m = c'.C.length := ⟨_, rfl⟩
        have EM := Lib.hid hm'
        rw [← hm'] at y2 kr1 few' hic
        clear hm'
        have hjm : (j : Int) < (m : Int) := by omega
        have hjk : j < kr := by omega
        unfold maxLen at kr2
        have SH : R = if (n : Int) < most ∧ goS v s = true then shrinkC v most j (⟨(giveZ c'.L s.nd s.pg 0).1, c'.C.eraseIdx j⟩, n + 1) else shrinkC v most j (c', n) := by
          rw [HRr.out]
          show (match c'.C[j]? with | none => _ | some s => _) = _
          rw [hs]
        by_cases hgo : goS v s = true
        · rw [if_pos ⟨hnm, hgo⟩] at SH
          have hgo' : s.nd = v ∧ manyS s = 0 := by simpa [goS] using hgo
          obtain ⟨g1, g2⟩ := hgo'
          have b1 : (s.nd == (v : Int)) = true := by simp [g1]
          have b1' : decide (s.nd = (v : Int)) = true := by simp [g1]
          rw [g2] at d4
          have HSH := Lib.hid SH; have HS := Lib.hid hs; have HP := Lib.hid hp
          clear hgo hs hp hrowr
          have sm := HS.out
          have smem := List.mem_of_getElem? sm
          obtain ⟨r1, r2, r3, r4⟩ := HIr.out.rng smem
          have G0 := Lib.hid (giveZ_page (HIr.out.tk s smem))
          have SZ := Lib.hid (giveZ_same c'.L s.nd s.pg 0)
          have BW := HH.out.belowK hB HKr.out
          have GV : Hid (∀ W, Below wr.heap.size wr W → Calls Tryz.prog 25 #[.pointer (some ⟨pz, 0, none⟩), .agg #[.int .i64 v, .int .i64 s.pg, .int .i64 0]] W (GivePost B ev pz mn lw hi O c'.L W (giveZ c'.L s.nd s.pg 0))) := fun W b => by
            rw [← g1]
            exact zgive_any pz mn lw hi O c'.L s.nd s.pg 0 W ((HE.out.below BW).go b) (HCr.out.below b).z.toB HCr.out.l0 (by simp [Lit.wf, IntKind.min, IntKind.max, IntKind.signed, IntKind.bits]; omega)
          have HIV := Lib.hid (HIr.out.gone sm)
          clear smem sm BW
          go_wp2_with fail
          refine wp_tail 8 (by kernel_rfl) (by kernel_rfl) ?_
          simp only [List.take_succ_cons, List.take_zero, List.drop_succ_cons, List.drop_zero]
          repeat still_step
          refine wpStill_nil ?_
          have GW := GV.out wr.drew (Below.refl _ _).drew
          go_wp2_with fail
          refine GW.mono ?_
          rintro r w5 ⟨hr, hz5, hk5⟩
          rw [G0.out] at hr
          simp only [errV] at hr
          subst hr
          have HD := Lib.hid ((HCr.out.below (w' := wr.drew) (by repeat (first | exact Below.refl _ _ | refine Below.drew ?_ | refine below_drewN ?_ _ | refine Below.trans ?_ (Below.mono (by assumption) (by first | omega | (simp; omega) | (simp; done))) | refine Below.alloc ?_ (by first | omega | (simp; omega) | (simp; done)) _ | refine Below.setCell ?_ (by first | omega | (simp; omega) | (simp; done)) _))).zone hk5 hz5 SZ.out)
          have HK5 := Lib.hid (show Keep (ys c'.L) wr w5 from (Keep.of (S := ys c'.L) (w' := wr.drew) (by repeat (first | exact Below.refl _ _ | refine Below.drew ?_ | refine below_drewN ?_ _ | refine Below.trans ?_ (Below.mono (by assumption) (by first | omega | (simp; omega) | (simp; done))) | refine Below.alloc ?_ (by first | omega | (simp; omega) | (simp; done)) _ | refine Below.setCell ?_ (by first | omega | (simp; omega) | (simp; done)) _))).then hk5)
          have z2 : w5.cell? ⟨pc, 2, none⟩ = some (.slice (some ⟨g, 0, none⟩) m kr) := by
            have q := HD.out.ch.c.c 2 _ rfl
            rw [EM.out]; exact q
          have zf := HD.out.ch.c.f 2 (by simp); have zl := HD.out.ch.c.lt
          have hw4 : IntKind.i64.wrap ((j : Int) + 1) = (j : Int) + 1 := IntWalk.i64_in _ (by omega)
          have DL : Hid (Calls Tryz.prog 93 #[.slice (some ⟨g, 0, none⟩) m kr, .int .i64 j, .int .i64 ((j : Int) + 1)] w5 fun e w' => e = .returned (.slice (some ⟨g, 0, none⟩) (m - 1) kr) ∧ w'.ownsRow B 160 1 (.slice (some ⟨g, 0, none⟩) (m - 1) kr) (m - 1) (sptrs (A'.eraseIdx j)) ∧ Keep [g] w5 w') := by
            have el : (sptrs A').length = m := by rw [sptrs_length, HCr.out.ch.len, ← EM.out]
            have ho : w5.ownsRow B 160 1 (.slice (some ⟨g, 0, none⟩) c'.C.length kr) c'.C.length (sptrs A') := HD.out.ch.row
            rw [← EM.out] at ho
            obtain ⟨rest, o1, o2, o3, o4, o5, o6⟩ := own_row1 ho
            have D := sdel_ok (B := B) g kr j (sptrs A') rest w5 o1 o2 (by unfold maxLen; omega) o6 (by rw [el]; omega) (sptrs_one A') (by rw [el]; omega)
            rw [el] at D
            refine D.mono fun e w' ⟨h1, h2, h3⟩ => ⟨by rw [h1, el], ?_, h3⟩
            rw [sptrs_del]
            rw [el] at h2
            exact h2
          clear GW GV hz5 hk5 d0 d1' d3 d4 y0 y2 hsl ck
          go_wp2_with fail
          refine DL.out.mono ?_
          rintro r w6 ⟨rfl, hown, hk6⟩
          have C6 := HD.out.ch.c.keep hk6 (fun q => by
            simp at q
            exact (List.nodup_cons.1 HD.out.ch.nd).1 (List.mem_append_left _ (by simp [ownX, Value.ownBlock, q])))
          have u2 := C6.c 2 _ rfl; have uf := C6.f 2 (by simp); have ul := C6.lt
          have HO := Lib.hid hown; have HK6 := Lib.hid hk6
          clear hown hk6 C6 z2 zf zl DL
          go_wp2
          go_round
          case rel =>
            have em := EM.out
            have h1 := HO.out
            have CD := CS.del (c := ⟨(giveZ c'.L s.nd s.pg 0).1, c'.C⟩) (i := j) (w1 := w6) HD.out (by show j < c'.C.length; omega) HK6.out (by show World.ownsRow _ _ _ _ (.slice _ (c'.C.length - 1) _) (c'.C.length - 1) _; rw [← em]; exact h1) rfl
            obtain ⟨x1, x2, x3⟩ := CD
            refine ⟨j, n + 1, .slice (some ⟨g, 0, none⟩) (m - 1) kr, A'.eraseIdx j, _, by go_num, by go_num, ?_, by omega, HSH, ?_, HIV, ?_, ?_, ?_⟩
            · show j ≤ (c'.C.eraseIdx j).length
              rw [List.length_eraseIdx]; split <;> omega
            · have : CS B _ pc pz mn lw hi O e X _ _ _ := x1
              rw [em]; exact this
            · exact HSr.out.trans SZ.out
            · rw [em]
              have a1 := HKr.out.then (HK5.out.mono (fun y q => List.mem_append_right _ (by rw [← HSr.out.ys]; exact q)))
              exact a1.then (x2.mono (fun y q => List.mem_append_left _ (HYr.out y q)))
            · intro y hy
              exact HYr.out y (x3 y (by rw [em] at hy; exact hy))
          case measure => first | (simp [intOf]; done) | (simp [intOf]; omega)
        · rw [if_neg (fun q => hgo q.2)] at SH
          have HSH := Lib.hid SH
          have FIN : Hid (∀ W, Below wr.heap.size wr W → Hid (CS B W pc pz mn lw hi O e X (.slice (some ⟨g, 0, none⟩) c'.C.length kr) A' c') ∧ Hid (Keep (cay pc (.slice qv c.C.length kv) A ++ ys c.L) w W)) := fun W b => ⟨HCr.out.below b, HKr.out.step b⟩
          by_cases h1 : s.nd = v
          · have b1 : (s.nd == (v : Int)) = true := by simp [h1]
            have b1' : decide (s.nd = (v : Int)) = true := by simp [h1]
            have h2 : ¬ (manyS s = 0) := fun q => hgo (by simp [goS, h1, q])
            have b2 : ((manyS s : Int) == 0) = false := by simp; omega
            have b2' : decide ((manyS s : Int) = 0) = false := by simp; omega
            clear hs hp hrowr hgo hsl SH
            generalize manyS s = a at *
            go_wp2
            go_round
            case rel => exact ⟨j, n, _, A', c', by go_num, by go_num, by rw [← EM.out]; omega, by omega, HSH, (FIN.out _ (by repeat (first | exact Below.refl _ _ | refine Below.drew ?_ | refine below_drewN ?_ _ | refine Below.trans ?_ (Below.mono (by assumption) (by first | omega | (simp; omega) | (simp; done))) | refine Below.alloc ?_ (by first | omega | (simp; omega) | (simp; done)) _ | refine Below.setCell ?_ (by first | omega | (simp; omega) | (simp; done)) _))).1, HIr, HSr, (FIN.out _ (by repeat (first | exact Below.refl _ _ | refine Below.drew ?_ | refine below_drewN ?_ _ | refine Below.trans ?_ (Below.mono (by assumption) (by first | omega | (simp; omega) | (simp; done))) | refine Below.alloc ?_ (by first | omega | (simp; omega) | (simp; done)) _ | refine Below.setCell ?_ (by first | omega | (simp; omega) | (simp; done)) _))).2, HYr⟩
            case measure => first | (simp [intOf]; done) | (simp [intOf]; omega)
          · have b1 : (s.nd == (v : Int)) = false := by simp [h1]
            have b1' : decide (s.nd = (v : Int)) = false := by simp [h1]
            clear hs hp hrowr hgo hsl SH
            generalize manyS s = a at *
            go_wp2
            go_round
            case rel => exact ⟨j, n, _, A', c', by go_num, by go_num, by rw [← EM.out]; omega, by omega, HSH, (FIN.out _ (by repeat (first | exact Below.refl _ _ | refine Below.drew ?_ | refine below_drewN ?_ _ | refine Below.trans ?_ (Below.mono (by assumption) (by first | omega | (simp; omega) | (simp; done))) | refine Below.alloc ?_ (by first | omega | (simp; omega) | (simp; done)) _ | refine Below.setCell ?_ (by first | omega | (simp; omega) | (simp; done)) _))).1, HIr, HSr, (FIN.out _ (by repeat (first | exact Below.refl _ _ | refine Below.drew ?_ | refine below_drewN ?_ _ | refine Below.trans ?_ (Below.mono (by assumption) (by first | omega | (simp; omega) | (simp; done))) | refine Below.alloc ?_ (by first | omega | (simp; omega) | (simp; done)) _ | refine Below.setCell ?_ (by first | omega | (simp; omega) | (simp; done)) _))).2, HYr⟩
            case measure => first | (simp [intOf]; done) | (simp [intOf]; omega)
      · have d2 : decide ((n : Int) < most) = false := decide_eq_false hnm
        have er : R = (c', n) := by rw [HRr.out]; exact shrinkC_full (by omega)
        subst er
        go_wp2
        go_ret2
        exact ⟨rfl, v', A', HCr.out, HKr.out, HYr.out⟩
end
end Go.Proofs.YtcokmiidgdmdlaaGreatDoor
