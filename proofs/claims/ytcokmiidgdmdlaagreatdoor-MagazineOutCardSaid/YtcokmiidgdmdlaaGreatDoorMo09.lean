/- Lemmas and contracts for the claim's last text: SGrow. -/
import Derived.Laws.MakeOwn
import Derived.Test.YtcokmiidgdmdlaaGreatDoorMo07
import Derived.Test.YtcokmiidgdmdlaaGreatDoorMo08
namespace Go.Proofs.YtcokmiidgdmdlaaGreatDoor
open Go.RowKit Go.Maps
set_option linter.unusedSimpArgs false
set_option linter.unusedVariables false
attribute [local go_sem ↓] Go.wp_at_zero Go.wp_at_succ

set_option maxHeartbeats 1000000 in
theorem snew_ok (pz e : Nat) (w : World) (e1 : 1 ≤ e) (e2 : e ≤ 64) :
    Calls Tryz.prog 31 #[.pointer (some ⟨pz, 0, none⟩), .int .i64 e] w fun r w' => r = .returned (.tuple #[.pointer (some ⟨w.heap.size, 0, none⟩), .nilIface]) ∧ w' = w.alloc (.cells #[.pointer (some ⟨pz, 0, none⟩), .int .i64 e, .slice none 0 0] 149) := by
  have d1 : decide ((e : Int) < 1) = false := decide_eq_false (by omega)
  have d2 : decide ((64 : Int) < e) = false := decide_eq_false (by omega)
  have d3 : decide (64 < e) = false := decide_eq_false (by omega)
  go_enter Tryz.func31, Tryz.ntmps31
  go_wp2
  go_ret2
  exact ⟨rfl, rfl⟩
set_option maxHeartbeats 1000000 in
theorem snew_err {B : Nat} {ev : Nat → Addr} (pz : Nat) (e : Int) (w : World) (hE : ErrC B ev w) (he : e < 1 ∨ 64 < e) :
    Calls Tryz.prog 31 #[.pointer (some ⟨pz, 0, none⟩), .int .i64 e] w fun r w' => r = .returned (.tuple #[.pointer none, errV ev 2]) ∧ Below w.heap.size w w' := by
  have r2 := hE.c2
  have e1 : errV ev 2 = .iface 291 (.pointer (some (ev 2))) := rfl
  rw [e1]
  clear hE e1
  by_cases h1 : e < 1
  · have d1 : decide (e < 1) = true := decide_eq_true h1
    go_enter Tryz.func31, Tryz.ntmps31
    go_wp2_with fail
    go_quiet (fail)
    go_wp2
    go_ret2
    exact ⟨rfl, (by repeat (first | exact Below.refl _ _ | refine Below.drew ?_ | refine below_drewN ?_ _ | refine Below.trans ?_ (Below.mono (by assumption) (by first | omega | (simp; omega) | (simp; done))) | refine Below.alloc ?_ (by first | omega | (simp; omega) | (simp; done)) _ | refine Below.setCell ?_ (by first | omega | (simp; omega) | (simp; done)) _))⟩
  · have d1 : decide (e < 1) = false := decide_eq_false h1
    have d2 : decide ((64 : Int) < e) = true := decide_eq_true (by omega)
    go_enter Tryz.func31, Tryz.ntmps31
    go_wp2_with fail
    go_quiet (fail)
    go_wp2
    go_ret2
    exact ⟨rfl, (by repeat (first | exact Below.refl _ _ | refine Below.drew ?_ | refine below_drewN ?_ _ | refine Below.trans ?_ (Below.mono (by assumption) (by first | omega | (simp; omega) | (simp; done))) | refine Below.alloc ?_ (by first | omega | (simp; omega) | (simp; done)) _ | refine Below.setCell ?_ (by first | omega | (simp; omega) | (simp; done)) _))⟩

section
variable {B : Nat} {ev : Nat → Addr} {pc pz e : Nat} {mn lw hi : Int} {O : List (List Int)} {X : List Nat} {vs : Value} {A : SA} {c : Ca} {w : World}
set_option maxHeartbeats 1000000 in
theorem cnode_ok (h : CS B w pc pz mn lw hi O e X vs A c) (v : Nat) (hv : v < c.L.length) :
    Calls Tryz.prog 89 #[.pointer (some ⟨pc, 0, none⟩), .int .i64 v] w fun r w' => r = .returned .nilIface ∧ Below w.heap.size w w' := by
  obtain ⟨x, hx⟩ : ∃ x, c.L[v]? = some x := ⟨c.L[v], List.getElem?_eq_getElem _⟩
  have FR := Lib.hid (zfree_ok pz mn lw hi O c.L v x w h.z.toB hx)
  have c0 := h.ch.c.c 0 _ rfl; have cl := h.ch.c.lt
  clear h hx
  go_enter Tryz.func89, Tryz.ntmps89
  go_wp2_with fail
  refine FR.out.mono ?_
  rintro r w1 ⟨rfl, hb1⟩
  go_wp2
  go_ret
  exact ⟨rfl, hb1⟩
set_option maxHeartbeats 1000000 in
theorem cnode_err (hE : ErrC B ev w) (h : CS B w pc pz mn lw hi O e X vs A c) (v : Int) (hv : v < 0 ∨ (c.L.length : Int) ≤ v) :
    Calls Tryz.prog 89 #[.pointer (some ⟨pc, 0, none⟩), .int .i64 v] w fun r w' => r = .returned (errV ev 2) ∧ Below w.heap.size w w' := by
  have FR := Lib.hid (zfree_err pz mn lw hi O c.L v w hE h.z.toB h.l0 hv)
  have c0 := h.ch.c.c 0 _ rfl; have cl := h.ch.c.lt
  have e1 : errV ev 2 = .iface 291 (.pointer (some (ev 2))) := rfl
  rw [e1] at FR ⊢
  clear h hv hE e1
  go_enter Tryz.func89, Tryz.ntmps89
  go_wp2_with fail
  refine FR.out.mono ?_
  rintro r w1 ⟨rfl, hb1⟩
  go_wp2
  go_ret
  exact ⟨rfl, hb1⟩

/-- grow where the zone has no page -/
def GrowNo (B : Nat) (ev : Nat → Addr) (pc pz : Nat) (mn lw hi : Int) (O : List (List Int)) (e : Nat) (X : List Nat) (vs : Value) (A : SA) (c : Ca) (w : World) (L' : List Nd) (q : Nat) (r : Ending) (w' : World) : Prop :=
  r = .returned (.tuple #[.pointer none, errV ev q]) ∧ CS B w' pc pz mn lw hi O e X vs A ⟨L', c.C⟩ ∧ Keep (ys c.L) w w'
set_option maxHeartbeats 2000000 in
set_option maxRecDepth 100000 in
theorem cgrow_no (v : Int) (u : Bool) (hE : ErrZ B ev w) (h : CS B w pc pz mn lw hi O e X vs A c) (L' : List Nd) (q : Nat) (nd pg k : Int) (ht : takeZ mn O c.L v 0 u = (L', q + 1, (nd, pg, k))) :
    Calls Tryz.prog 90 #[.pointer (some ⟨pc, 0, none⟩), .int .i64 v, .bool u] w (GrowNo B ev pc pz mn lw hi O e X vs A c w L' (q + 1)) := by
  have TK := ztake_any pz mn lw hi O c.L v 0 u w hE h.z.toB h.l0
  have SZ := Lib.hid (takeZ_same mn O c.L v 0 u)
  rw [ht] at TK SZ
  have HT := Lib.hid TK; have HH := Lib.hid h
  have c0 := h.ch.c.c 0 _ rfl; have cl := h.ch.c.lt
  obtain ⟨vv, hvv⟩ : ∃ vv, vv = ev (q + 1) := ⟨_, rfl⟩
  have e1 : errV ev (q + 1) = .iface 291 (.pointer (some vv)) := by rw [hvv]; rfl
  unfold GrowNo
  rw [e1]
  have E1 := Lib.hid e1
  clear h TK e1 hvv ht
  go_enter Tryz.func90, Tryz.ntmps90
  go_wp2_with fail
  refine HT.out.mono ?_
  rintro r w1 ⟨hr, hz1, hk1⟩
  simp only [E1.out, plV] at hr
  subst hr
  have H1 := Lib.hid (HH.out.zone hk1 hz1 SZ.out)
  have HK1 := Lib.hid hk1
  have z1 := hk1.size
  clear hz1 hk1
  go_wp2
  go_ret2
  exact ⟨rfl, H1.out.below (by repeat (first | exact Below.refl _ _ | refine Below.drew ?_ | refine below_drewN ?_ _ | refine Below.trans ?_ (Below.mono (by assumption) (by first | omega | (simp; omega) | (simp; done))) | refine Below.alloc ?_ (by first | omega | (simp; omega) | (simp; done)) _ | refine Below.setCell ?_ (by first | omega | (simp; omega) | (simp; done)) _)), HK1.out.step (by repeat (first | exact Below.refl _ _ | refine Below.drew ?_ | refine below_drewN ?_ _ | refine Below.trans ?_ (Below.mono (by assumption) (by first | omega | (simp; omega) | (simp; done))) | refine Below.alloc ?_ (by first | omega | (simp; omega) | (simp; done)) _ | refine Below.setCell ?_ (by first | omega | (simp; omega) | (simp; done)) _))⟩

theorem step_make {P : Program} {ops : Array Oper} {o : Oper} {a : Act} {w : World} {K : Act → World → Prop} {Q : Exit → Act → World → Prop} {E : Prop}
    (hg : o.guard = none) (t : TypeId) (x y : Operand) (hop : o.op = Op.makeSlice t x y) (u v : Value) (hx : a.eval x = u) (hy : a.eval y = v) {v' : Value} {w' : World} (hr : (Instr.makeSlice t u v).run P w = .ok v' w') (hK : K (a.put o.dst v') w') :
    if Region.wanted o (yielded ops a.tmps) = true then Oper.wp P o a w K Q else E := by
  have hw : Region.wanted o (yielded ops a.tmps) = true := by simp [Region.wanted, hg]
  rw [if_pos hw]
  unfold Oper.wp
  simp [execOp, hop, hx, hy, hr, Result.andThen]
  exact hK

theorem made_bools (e : Nat) : madeCells (Value.bool false).cells (roomE e) = (bools (noneT e)).toArray := by
  unfold madeCells bools noneT
  apply Array.ext
  · simp [Value.cells]
  · intro i h1 h2
    simp [Value.cells, Nat.mod_one]
/-- grow where the zone has a page -/
def GrowYes (B : Nat) (pc pz : Nat) (mn lw hi : Int) (O : List (List Int)) (e : Nat) (X : List Nat) (vs : Value) (A : SA) (c : Ca) (w : World) (L' : List Nd) (s : Sl) (r : Ending) (w' : World) : Prop :=
  ∃ p X' v' A', r = .returned (.tuple #[.pointer (some ⟨p.1, 0, none⟩), .nilIface]) ∧ CS B w' pc pz mn lw hi O e X' v' A' ⟨L', insS c.C s⟩ ∧ A'[posS s.nd s.pg c.C]? = some p ∧ Keep (cay pc vs A ++ ys c.L) w w' ∧ (∀ x ∈ X, x ∈ X') ∧ (∀ x ∈ X', x ∈ X ∨ w.heap.size ≤ x) ∧ ∀ y ∈ cay pc v' A', y ∈ cay pc vs A ∨ w.heap.size ≤ y
set_option maxHeartbeats 4000000 in
set_option maxRecDepth 100000 in
theorem cgrow_yes (v : Int) (u : Bool) (hE : ErrZ B ev w) (h : CS B w pc pz mn lw hi O e X vs A c) (hI : InvC e c) (hB : B ≤ w.heap.size) (L' : List Nd) (nd pg : Int) (ht : takeZ mn O c.L v 0 u = (L', 0, (nd, pg, 0))) :
    Calls Tryz.prog 90 #[.pointer (some ⟨pc, 0, none⟩), .int .i64 v, .bool u] w (GrowYes B pc pz mn lw hi O e X vs A c w L' ⟨nd, pg, noneT e⟩) := by
  obtain ⟨qv, kv, evs, _⟩ := h.ch.form
  subst evs
  have TK := ztake_any pz mn lw hi O c.L v 0 u w hE h.z.toB h.l0
  have SZ := Lib.hid (takeZ_same mn O c.L v 0 u)
  rw [ht] at TK SZ
  have HT := Lib.hid TK; have HH := Lib.hid h
  have c0 := h.ch.c.c 0 _ rfl; have cl := h.ch.c.lt
  have HI := Lib.hid hI
  have e1 := hI.e1; have e2 := hI.e2
  clear h TK ht hI
  go_enter Tryz.func90, Tryz.ntmps90
  go_wp2_with fail
  refine HT.out.mono ?_
  rintro r w1 ⟨hr, hz1, hk1⟩
  simp only [plV, errV] at hr
  subst hr
  have H1 := HH.out.zone hk1 hz1 SZ.out
  have HK1 := Lib.hid hk1
  have z1 := hk1.size
  have k1 := H1.ch.c.c 1 _ rfl; have k2 := H1.ch.c.c 2 _ rfl; have kl := H1.ch.c.lt
  have H1' := Lib.hid H1
  clear hz1 hk1 H1 c0 cl
  go_wp2_with fail
  obtain ⟨W2, hW2⟩ : ∃ W2, W2 = w1.alloc (.cells #[.int .i64 nd, .int .i64 pg, .int .i64 0] 41) := ⟨_, rfl⟩
  rw [← hW2]
  have P2 : LocN W2 w1.heap.size [.int .i64 nd, .int .i64 pg, .int .i64 0] := by rw [hW2]; exact LocN.mk_ w1 [.int .i64 nd, .int .i64 pg, .int .i64 0] 41 rfl
  have b2 : Below w1.heap.size w1 W2 := by rw [hW2]; exact (by repeat (first | exact Below.refl _ _ | refine Below.drew ?_ | refine below_drewN ?_ _ | refine Below.trans ?_ (Below.mono (by assumption) (by first | omega | (simp; omega) | (simp; done))) | refine Below.alloc ?_ (by first | omega | (simp; omega) | (simp; done)) _ | refine Below.setCell ?_ (by first | omega | (simp; omega) | (simp; done)) _))
  have s2 : W2.heap.size = w1.heap.size + 1 := by rw [hW2]; simp
  clear hW2
  have p0 := P2.c 0 _ rfl; have p1 := P2.c 1 _ rfl; have p2 := P2.c 2 _ rfl; have pl := P2.lt
  have g1 : W2.cell? ⟨pc, 1, none⟩ = some (.int .i64 e) := (b2.cell (p := ⟨pc, 1, none⟩) kl).trans k1
  have g2 : W2.cell? ⟨pc, 2, none⟩ = some (.slice qv c.C.length kv) := (b2.cell (p := ⟨pc, 2, none⟩) kl).trans k2
  have gl : pc < W2.heap.size := by omega
  have en0 : ¬ ((e : Int) = 0) := by omega
  have en1 : ¬ (e = 0) := by omega
  have hq0 : (64 : Int) / (e : Int) = (roomE e : Int) := by unfold roomE; rw [Int.natCast_ediv]; rfl
  have hq : (64 : Int).tdiv (e : Int) = (roomE e : Int) := by rw [Int.tdiv_eq_ediv_of_nonneg (by omega)]; exact hq0
  have r64 : roomE e ≤ 64 := by unfold roomE; exact Nat.div_le_self _ _
  have hwr : IntKind.i64.wrap ((roomE e : Nat) : Int) = (roomE e : Int) := IntWalk.i64_in _ (by omega)
  have MK : Hid (∀ W : World, (Instr.makeSlice 161 (.int .i64 (roomE e : Nat)) (.int .i64 (roomE e : Nat))).run Tryz.prog W = .ok (.slice (some ⟨W.heap.size, 0, none⟩) (roomE e) (roomE e)) (W.alloc (.cells (bools (noneT e)).toArray 4))) := fun W => by
    obtain ⟨i0, hi0, hz0, hzs, hzb⟩ := info_parts (P := Tryz.prog) (e := 4) (z := .bool false) (size := 1) (bytes := 1) (by kernel_rfl)
    have := run_make (P := Tryz.prog) W 161 4 i0 _ Tryz.underlying161 hi0 hz0 .i64 .i64 (roomE e : Nat) (roomE e : Nat) (by omega) (Int.le_refl _) (by rw [hzb]; omega) (by omega)
    rw [this, hzs]
    simp only [Int.toNat_natCast, Nat.mul_one]
    have em : madeCells (Value.bool false).cells (roomE e) = (bools (noneT e)).toArray := made_bools e
    rw [em]
  refine wp_region_cut (S := (fun w' => w'.cell? ⟨w1.heap.size, 0, none⟩ = some (.int .i64 nd) ∧ w'.cell? ⟨w1.heap.size, 1, none⟩ = some (.int .i64 pg) ∧ w'.cell? ⟨w1.heap.size, 2, none⟩ = some (.int .i64 0) ∧ w'.cell? ⟨pc, 1, none⟩ = some (.int .i64 e))) 9 #[false, false, false, false, false, false, false, false, false] rfl (by kernel_rfl) (by kernel_rfl) (by (try dsimp only); go_keep) (fun hHeld => ?_)
  simp only [List.take_succ_cons, List.take_zero]
  refine cut_take (i := 0) (oi := _) (v := ?_) rfl (by kernel_rfl) (by kernel_rfl) (by kernel_rfl) (fun _ _ _ h => h) (Or.inl ⟨by rfl, ?_⟩) (by assumption) ?_
  rotate_left
  · (intro w hSw; (try dsimp only at hSw); go_simp <;> with_reducible rfl)
  try simp only [Act.put, List.setIfInBounds_toArray, List.set_cons_zero, List.set_cons_succ]
  refine cut_take (i := 1) (oi := _) (v := ?_) rfl (by kernel_rfl) (by kernel_rfl) (by kernel_rfl) (fun _ _ _ h => h) (Or.inl ⟨by rfl, ?_⟩) (by assumption) ?_
  rotate_left
  · (intro w hSw; (try dsimp only at hSw); go_simp <;> with_reducible rfl)
  try simp only [Act.put, List.setIfInBounds_toArray, List.set_cons_zero, List.set_cons_succ]
  refine cut_take (i := 2) (oi := _) (v := ?_) rfl (by kernel_rfl) (by kernel_rfl) (by kernel_rfl) (fun _ _ _ h => h) (Or.inl ⟨by rfl, ?_⟩) (by assumption) ?_
  rotate_left
  · (intro w hSw; (try dsimp only at hSw); go_simp <;> with_reducible rfl)
  try simp only [Act.put, List.setIfInBounds_toArray, List.set_cons_zero, List.set_cons_succ]
  refine cut_take (i := 3) (oi := _) (v := ?_) rfl (by kernel_rfl) (by kernel_rfl) (by kernel_rfl) (fun _ _ _ h => h) (Or.inl ⟨by rfl, ?_⟩) (by assumption) ?_
  rotate_left
  · (intro w hSw; (try dsimp only at hSw); go_simp <;> with_reducible rfl)
  try simp only [Act.put, List.setIfInBounds_toArray, List.set_cons_zero, List.set_cons_succ]
  refine cut_take (i := 4) (oi := _) (v := ?_) rfl (by kernel_rfl) (by kernel_rfl) (by kernel_rfl) (fun _ _ _ h => h) (Or.inl ⟨by rfl, ?_⟩) (by assumption) ?_
  rotate_left
  · (intro w hSw; (try dsimp only at hSw); go_simp <;> with_reducible rfl)
  try simp only [Act.put, List.setIfInBounds_toArray, List.set_cons_zero, List.set_cons_succ]
  refine cut_take (i := 5) (oi := _) (v := ?_) rfl (by kernel_rfl) (by kernel_rfl) (by kernel_rfl) (fun _ _ _ h => h) (Or.inl ⟨by rfl, ?_⟩) (by assumption) ?_
  rotate_left
  · (intro w hSw; (try dsimp only at hSw); go_simp <;> with_reducible rfl)
  try simp only [Act.put, List.setIfInBounds_toArray, List.set_cons_zero, List.set_cons_succ]
  refine wpAnyH_ready (rs := [6]) (by kernel_rfl) (by simp) ?_
  refine AllReadyH.cons (cut_cons rfl) (fun K hK => ?_) AllReadyH.nil
  refine step_make (by rfl) 161 (.tmp 31) (.tmp 31) (by rfl) _ _ (by rfl) (by rfl) (MK.out _) ?_
  refine hK.out _ _ (by (try dsimp only); go_keep) (fun hHeld => ?_)
  clear hK K
  try simp only [Act.put, List.setIfInBounds_toArray, List.set_cons_zero, List.set_cons_succ]
  refine cut_take (i := 7) (oi := _) (v := ?_) rfl (by kernel_rfl) (by kernel_rfl) (by kernel_rfl) (fun _ _ _ h => h) (Or.inl ⟨by rfl, ?_⟩) (by assumption) ?_
  rotate_left
  · (intro w hSw; (try dsimp only at hSw); go_simp <;> with_reducible rfl)
  try simp only [Act.put, List.setIfInBounds_toArray, List.set_cons_zero, List.set_cons_succ]
  refine wpAnyH_ready (rs := [8]) (by kernel_rfl) (by simp) ?_
  refine AllReadyH.cons (cut_cons rfl) (fun K hK => ?_) AllReadyH.nil
  go_simp
  refine hK.out _ _ (by (try dsimp only); go_keep) (fun hHeld => ?_)
  clear hK K
  try simp only [Act.put, List.setIfInBounds_toArray, List.set_cons_zero, List.set_cons_succ]
  refine wpAnyH_done (by kernel_rfl) ?_ _
  simp only [headQ, List.drop_succ_cons, List.drop_zero]
  go_wp2_with fail
  have nl : (noneT e).length = roomE e := by unfold noneT; simp
  obtain ⟨W3, hW3⟩ : ∃ W3, W3 = ((W2.alloc (.cells (bools (noneT e)).toArray 4)).alloc (.cells #[.int .i64 nd, .int .i64 pg, .int .i64 0, .slice (some ⟨w1.heap.size + 1, 0, none⟩) (roomE e) (roomE e), .int .i64 0] 163)).drew := ⟨_, rfl⟩
  rw [← hW3]
  have LG : LocN W3 (w1.heap.size + 1) (bools (noneT e)) := by
    rw [hW3]; exact ((LocN.mk_ W2 (bools (noneT e)) 4 s2).past _).drewL
  have LS : LocN W3 (w1.heap.size + 1 + 1) [.int .i64 nd, .int .i64 pg, .int .i64 0, .slice (some ⟨w1.heap.size + 1, 0, none⟩) (roomE e) (roomE e), .int .i64 0] := by
    rw [hW3]; exact (LocN.mk_ (W2.alloc (.cells (bools (noneT e)).toArray 4)) [.int .i64 nd, .int .i64 pg, .int .i64 0, .slice (some ⟨w1.heap.size + 1, 0, none⟩) (roomE e) (roomE e), .int .i64 0] 163 (by simp [s2])).drewL
  have b3 : Below W2.heap.size W2 W3 := by rw [hW3]; exact (by repeat (first | exact Below.refl _ _ | refine Below.drew ?_ | refine below_drewN ?_ _ | refine Below.trans ?_ (Below.mono (by assumption) (by first | omega | (simp; omega) | (simp; done))) | refine Below.alloc ?_ (by first | omega | (simp; omega) | (simp; done)) _ | refine Below.setCell ?_ (by first | omega | (simp; omega) | (simp; done)) _))
  have s3 : W3.heap.size = w1.heap.size + 1 + 1 + 1 := by rw [hW3]; simp [s2]
  have SB3 := Lib.hid (show SlabB W3 (w1.heap.size + 1 + 1, w1.heap.size + 1) ⟨nd, pg, noneT e⟩ from ⟨by
    have e0 : slabCells ⟨nd, pg, noneT e⟩ (w1.heap.size + 1) = [.int .i64 nd, .int .i64 pg, .int .i64 0, .slice (some ⟨w1.heap.size + 1, 0, none⟩) (roomE e) (roomE e), .int .i64 0] := by
      have m0 : manyS ⟨nd, pg, noneT e⟩ = 0 := manyT_none e
      unfold slabCells; rw [m0]; simp [nl]
    show LocN W3 (w1.heap.size + 1 + 1) (slabCells ⟨nd, pg, noneT e⟩ (w1.heap.size + 1))
    rw [e0]; exact LS, LG⟩)
  have B13 := Lib.hid (show Below w1.heap.size w1 W3 from b2.trans (b3.mono (by omega)))
  have q0 := (P2.go b3).c 0 _ rfl; have q1 := (P2.go b3).c 1 _ rfl; have q2 := (P2.go b3).c 2 _ rfl; have ql := (P2.go b3).lt
  have x2 : W3.cell? ⟨pc, 2, none⟩ = some (.slice qv c.C.length kv) := (b3.cell (p := ⟨pc, 2, none⟩) gl).trans g2
  have xl : pc < W3.heap.size := by omega
  obtain ⟨i, hi⟩ : ∃ i, i = posS nd pg c.C := ⟨_, rfl⟩
  have hil : i ≤ c.C.length := by rw [hi]; exact posS_le _ _ _
  have few := HI.out.few
  have LA := H1'.out.ch.len
  have BS : Hid (∀ W, Below W3.heap.size W3 W → Calls Tryz.prog 138 #[.slice qv c.C.length kv, .agg #[.int .i64 nd, .int .i64 pg, .int .i64 0], .func (.func 139) #[] #[]] W fun r w' => r = .returned (.tuple #[.int .i64 i, .bool (hitS nd pg c.C)]) ∧ Below W.heap.size W w') := fun W b => by
    rw [hi]
    exact bsearch_ok nd pg W (H1'.out.ch.below (B13.out.trans (b.mono (by omega)))) HI.out.srt few
  have IN : Hid (∀ W vb, Below W3.heap.size W3 W → Row1 W vb 160 [.pointer (some ⟨w1.heap.size + 1 + 1, 0, none⟩)] → W3.heap.size ≤ vb → Calls Tryz.prog 141 #[.slice qv c.C.length kv, .int .i64 i, .slice (some ⟨vb, 0, none⟩) 1 1] W (InsPost B (.slice qv c.C.length kv) (sptrs A) i (.pointer (some ⟨w1.heap.size + 1 + 1, 0, none⟩)) W)) := fun W vb b hr hvb => by
    have hc := H1'.out.ch.below (B13.out.trans (b.mono (by omega)))
    have el : c.C.length = (sptrs A).length := by rw [sptrs_length, LA]
    have ho : W.ownsRow B 160 1 (.slice qv c.C.length kv) (sptrs A).length (sptrs A) := by rw [← el]; exact hc.row
    rw [el] at ho
    rw [el]
    refine sins_ok (.slice qv (sptrs A).length kv) i (sptrs A) _ vb W ho (by rw [← el]; exact hil) (sptrs_one A) rfl (by rw [← el]; omega) hr (fun q => ?_) (by have := b.size; have := HK1.out.size; omega)
    rw [← el] at q
    have := (H1'.out.ch.lim vb (List.mem_cons_of_mem _ (List.mem_append_left _ q))).2
    omega
  have HIP := Lib.hid hi; have S3 := Lib.hid s3
  clear s3 P2 p0 p1 p2 pl g1 g2 gl en0 en1 hq0 hq hwr MK b2 b3 LG LS hW3 k1 k2 kl hi hHeld nl r64
  refine wp_region_behind (by kernel_rfl) (by kernel_rfl) ?_
  repeat (go_big_quiet_step (((go_at_call 138; exact Calls.behind (BS.out _ (Behind.h _))))))
  refine wpQuiet_nil ?_
  intro w4 hw'
  have hb4 := behind_out hw'
  clear hw'
  obtain ⟨c4, f4⟩ := bcell hb4; have z4 := hb4.size; try simp at z4 c4 f4
  have B14 := Lib.hid (B13.out.trans (hb4.mono (by have := S3.out; omega)))
  have HB4 := Lib.hid hb4
  have HC4 := Lib.hid (H1'.out.ch.below B14.out)
  have y2 := HC4.out.c.c 2 _ rfl; have yf := HC4.out.c.f 2 (by simp); have yl := HC4.out.c.lt
  have S4 := Lib.hid z4
  have SB4 := Lib.hid (SB3.out.keep (Keep.of (S := []) hb4) (by simp) (by simp))
  clear q0 q1 q2 ql x2 xl z4 hb4
  go_wp2_with fail
  obtain ⟨W5, hW5⟩ : ∃ W5, W5 = w4.alloc (.cells #[.pointer (some ⟨w1.heap.size + 1 + 1, 0, none⟩)] 160) := ⟨_, rfl⟩
  rw [← hW5]
  have R5 : Row1 W5 w4.heap.size 160 [.pointer (some ⟨w1.heap.size + 1 + 1, 0, none⟩)] := ⟨_, by rw [hW5]; exact World.alloc_heap_new w4 _, rfl⟩
  have b5 : Below w4.heap.size w4 W5 := by rw [hW5]; exact (by repeat (first | exact Below.refl _ _ | refine Below.drew ?_ | refine below_drewN ?_ _ | refine Below.trans ?_ (Below.mono (by assumption) (by first | omega | (simp; omega) | (simp; done))) | refine Below.alloc ?_ (by first | omega | (simp; omega) | (simp; done)) _ | refine Below.setCell ?_ (by first | omega | (simp; omega) | (simp; done)) _))
  clear hW5
  have HB5 := Lib.hid b5
  refine (IN.out W5 w4.heap.size (HB4.out.trans (b5.mono (by have := S4.out; omega))) R5 (by have := S4.out; omega)).mono ?_
  rintro r w6 ⟨q6, k6, rfl, hown6, hk6, hv6⟩
  have HC5 := HC4.out.below b5
  have hpv : pc ∉ ownX (.slice qv c.C.length kv) := fun q => (List.nodup_cons.1 HC5.nd).1 (List.mem_append_left _ q)
  have C6 := HC5.c.keep hk6 hpv
  have u2 := C6.c 2 _ rfl; have uf := C6.f 2 (by simp); have ul := C6.lt
  have HO6 := Lib.hid hown6; have HK6 := Lib.hid hk6; have HV6 := Lib.hid hv6; have HC5' := Lib.hid HC5
  clear hown6 hk6 hv6 HC5 C6 R5 b5 y2 yf yl hpv
  go_wp2
  go_ret2
  have el : (sptrs A).length = c.C.length := by rw [sptrs_length, LA]
  have s3 := S3.out; have s4 := S4.out; have zk := HK1.out.size
  have own6 := HO6.out
  have v6 := HV6.out
  rw [← sptrs_ins A i (w1.heap.size + 1 + 1, w1.heap.size + 1)] at own6
  simp only [el] at own6 v6 ⊢
  have lmc := H1'.out.ch.lim
  have lmz := H1'.out.z.b.lim
  obtain ⟨n1, n2, n3⟩ := HC5'.out.ins (w1 := w6) (w' := w6.setCell ⟨pc, 2, none⟩ (.slice q6 (c.C.length + 1) k6)) (p := (w1.heap.size + 1 + 1, w1.heap.size + 1)) (i := i) (s := ⟨nd, pg, noneT e⟩) (n := 0) hil HK6.out own6 rfl (SB4.out.keep (Keep.of (S := []) HB5.out) (by simp) (by simp)) (fun q => by have := (lmc _ q).2; omega) (fun q => by have := (lmc _ q).2; omega) (by simp) (by show B ≤ _; omega) (by show B ≤ _; omega) v6
  have z5 := HB5.out.size
  refine ⟨(w1.heap.size + 1 + 1, w1.heap.size + 1), _, _, _, rfl, ⟨?_, by unfold insS; rw [← HIP.out]; exact n1, fun y hy => ?_, H1'.out.l0⟩, ?_, ?_, ?_, ?_, ?_⟩
  · have zA := H1'.out.z.more (Y := (w1.heap.size + 1 + 1) :: (w1.heap.size + 1) :: X) (fun x hx => by simp [hx]) (fun y hy => by
      simp at hy
      rcases hy with rfl | rfl | hy
      · exact .inr (by omega)
      · exact .inr (by omega)
      · exact .inl hy)
    have zB := zA.below (B14.out.trans (HB5.out.mono (by omega)))
    have zC := zB.more (Y := (w1.heap.size + 1 + 1) :: (w1.heap.size + 1) :: (ownX (.slice q6 (c.C.length + 1) k6) ++ X)) (fun x hx => by
      simp at hx ⊢
      rcases hx with h | h | h
      · simp [h]
      · simp [h]
      · simp [h]) (fun y hy => by
      simp only [List.mem_cons, List.mem_append] at hy ⊢
      rcases hy with h | h | h | h
      · exact .inl (.inl h)
      · exact .inl (.inr (.inl h))
      · rcases v6 y h with t | t
        · exact .inl (.inr (.inr (H1'.out.ch.mem y (List.mem_cons_of_mem _ (List.mem_append_left _ t)))))
        · exact .inr t
      · exact .inl (.inr (.inr h)))
    exact zC.keep n2 (fun s hs => .inl ⟨by
      have : s ∈ X := H1'.out.ch.mem s (by
        rcases List.mem_cons.1 hs with t | t
        · subst t; exact List.mem_cons_self ..
        · exact List.mem_cons_of_mem _ (List.mem_append_left _ t))
      simp [this], H1'.out.ne s (by
        rcases List.mem_cons.1 hs with t | t
        · subst t; exact List.mem_cons_self ..
        · exact List.mem_cons_of_mem _ (List.mem_append_left _ t))⟩)
  · intro q
    have ql : y < w1.heap.size := (lmz y q).2
    rcases n3 y (by rw [HIP.out] at hy ⊢; exact hy) with t | t | t | t
    · exact H1'.out.ne y t q
    · simp at t; omega
    · simp at t; omega
    · omega
  · show (A.take i ++ _ :: A.drop i)[posS nd pg c.C]? = _
    have la : i ≤ A.length := by have : A.length = c.C.length := LA; omega
    rw [← HIP.out, get_ins la i]
    simp
  · refine Keep.then (b := W5) ((HK1.out.mono (fun y q => List.mem_append_right _ q)).step (B14.out.trans (HB5.out.mono (by omega)))) (n2.mono (fun y q => List.mem_append_left _ ?_))
    rcases List.mem_cons.1 q with t | t
    · subst t; exact List.mem_cons_self ..
    · exact List.mem_cons_of_mem _ (List.mem_append_left _ t)
  · intro x hx
    simp [hx]
  · intro x hx
    simp only [List.mem_cons, List.mem_append] at hx
    rcases hx with h | h | h | h
    · exact .inr (by omega)
    · exact .inr (by omega)
    · rcases v6 x h with t | t
      · exact .inl (H1'.out.ch.mem x (List.mem_cons_of_mem _ (List.mem_append_left _ t)))
      · exact .inr (by omega)
    · exact .inl h
  · intro y hy
    rcases n3 y hy with t | t | t | t
    · exact .inl t
    · exact .inr (by simp at t; omega)
    · exact .inr (by simp at t; omega)
    · exact .inr (by omega)
end
end Go.Proofs.YtcokmiidgdmdlaaGreatDoor
