/- Package slab: Taken, Slabs by their contracts. -/
import Derived.Test.YtcokmiidgdmdlaaGreatDoorSTake
namespace Go.Proofs.YtcokmiidgdmdlaaGreatDoor
open Go.RowKit Go.Maps
set_option linter.unusedSimpArgs false
set_option linter.unusedVariables false
attribute [local go_sem ↓] Go.wp_at_zero Go.wp_at_succ

/-- an element type of so many cells -/
structure ElS (T E : TypeId) (z : Value) (s b : Nat) : Prop where
  und : Tryz.prog.underlying T = some (.slice E)
  info : (Tryz.prog.info? E).map (fun i => (i.zero, i.size, i.bytes)) = some (some z, s, b)
  one : z.cells.size = s
  pos : 0 < s
  few : b ≤ 64
theorem elObj : ElS 70 72 (.agg #[.int .i64 0, .int .i64 0]) 2 16 := ⟨Tryz.underlying70, by kernel_rfl, rfl, by omega, by omega⟩
theorem elPl : ElS 86 41 (.agg #[.int .i64 0, .int .i64 0, .int .i64 0]) 3 24 := ⟨Tryz.underlying86, by kernel_rfl, rfl, by omega, by omega⟩
/-- append of one struct to a slice of the call's own -/
theorem run_appS {T E : TypeId} {z : Value} {s b : Nat} (hE : ElS T E z s b) {w : World} (ty : TypeId) {base : Nat} {v : Value} {n : Nat} {xs ms : List Value} (hown : w.ownsRow base E s v n xs) {a : Addr} {c : Nat} (hm : ms.length = s) (hc : ∀ (j : Nat) (u : Value), ms[j]? = some u → w.cell? (a.add j) = some u) (h1 : ∀ u ∈ ms, u.oneCell' = true)
    (hl : n ≤ 70000) (hb : base ≤ w.heap.size) :
    ∃ q k w', (Builtin.append_ #[T, T] ty #[v, .slice (some a) 1 c]).run Tryz.prog w = .ok (.slice q (n + 1) k) w' ∧ w'.ownsRow base E s (.slice q (n + 1) k) (n + 1) (xs ++ ms) ∧ w.grownBy w' v.ownBlock := by
  obtain ⟨i0, hi, hz0, hz1, hz2⟩ := info_parts hE.info
  have hfew := hE.few
  obtain ⟨v', w', hrun, h2, h3, _, h5⟩ := run_append_own_at (P := Tryz.prog) w base T ty E i0 z s b hE.und hi hz0 hz1 hz2 hE.one hE.pos v n xs hown a 1 c ms
    (by omega) hc h1 (by unfold maxLen; omega) (by
      have : (n + 1) * b ≤ 70001 * 64 := Nat.mul_le_mul (by omega) hfew
      omega) hb
  have hf : ∃ q k, v' = .slice q (n + 1) k := by
    rcases h2.2 with ⟨e, e2⟩ | ⟨g', cap', cur, e, _⟩
    · exact ⟨none, 0, by rw [e, e2]⟩
    · exact ⟨_, _, e⟩
  obtain ⟨q, k, rfl⟩ := hf
  exact ⟨q, k, w', hrun, h2, h3⟩
theorem step_appS {T E : TypeId} {z : Value} {s b : Nat} (hE : ElS T E z s b) {base : Nat} {v : Value} {n : Nat} {xs ms : List Value} {w : World} {ad : Addr} {c : Nat} {ops : Array Oper} {o : Oper} {a : Act} {K : Act → World → Prop} {Q : Exit → Act → World → Prop} {F : Prop} (hgd : o.guard = none) (sl x : Operand)
    (ho : o.op = .call { callee := .builtin .append, args := #[sl, x], argTypes := #[T, T] }) (hv : a.eval sl = v) (hx : a.eval x = .slice (some ad) 1 c)
    (hown : w.ownsRow base E s v n xs) (hm : ms.length = s) (hc : ∀ (j : Nat) (u : Value), ms[j]? = some u → w.cell? (ad.add j) = some u) (h1 : ∀ u ∈ ms, u.oneCell' = true) (hl : n ≤ 70000) (hb : base ≤ w.heap.size)
    (h : ∀ q k w', w'.ownsRow base E s (.slice q (n + 1) k) (n + 1) (xs ++ ms) → w.grownBy w' v.ownBlock → K (a.put o.dst (.slice q (n + 1) k)) w') :
    if Region.wanted o (yielded ops a.tmps) = true then Oper.wp Tryz.prog o a w K Q else F := by
  have hw : Region.wanted o (yielded ops a.tmps) = true := by simp [Region.wanted, hgd]
  rw [if_pos hw]
  obtain ⟨q, k, w', hrun, h2, h3⟩ := run_appS hE (w := w) o.type hown hm hc h1 hl hb (c := c)
  unfold Oper.wp execOp
  simp only [ho, resolve, invoke, builtin, Sem.run_bind, Sem.run_pure, Result.andThen_ok, List.map_toArray, List.map_cons, List.map_nil, hv, hx, hrun]
  exact h q k w' h2 h3
theorem wpList_appS {T E : TypeId} {z : Value} {s b : Nat} (hE : ElS T E z s b) {base : Nat} {v : Value} {n : Nat} {xs ms : List Value} {w : World} {ad : Addr} {c : Nat} {ops : Array Oper} {rest : List Oper} {o : Oper} {a : Act} {Q : Exit → Act → World → Prop} (hgd : o.guard = none) (sl x : Operand)
    (ho : o.op = .call { callee := .builtin .append, args := #[sl, x], argTypes := #[T, T] }) (hv : a.eval sl = v) (hx : a.eval x = .slice (some ad) 1 c)
    (hown : w.ownsRow base E s v n xs) (hm : ms.length = s) (hc : ∀ (j : Nat) (u : Value), ms[j]? = some u → w.cell? (ad.add j) = some u) (h1 : ∀ u ∈ ms, u.oneCell' = true) (hl : n ≤ 70000) (hb : base ≤ w.heap.size)
    (h : ∀ q k w', w'.ownsRow base E s (.slice q (n + 1) k) (n + 1) (xs ++ ms) → w.grownBy w' v.ownBlock → wpList Tryz.prog ops Q rest (a.put o.dst (.slice q (n + 1) k)) w') : wpList Tryz.prog ops Q (o :: rest) a w := by
  refine wpList_plain hgd fun K hK => ?_
  obtain ⟨q, k, w', hrun, h2, h3⟩ := run_appS hE (w := w) o.type hown hm hc h1 hl hb (c := c)
  unfold Oper.wp execOp
  simp only [ho, resolve, invoke, builtin, Sem.run_bind, Sem.run_pure, Result.andThen_ok, List.map_toArray, List.map_cons, List.map_nil, hv, hx, hrun]
  exact hK _ _ (h q k w' h2 h3)
theorem new_three (w : World) (u0 u1 u2 : Value) (t : TypeId) : ∀ j u, [u0, u1, u2][j]? = some u → (w.alloc (.cells #[u0, u1, u2] t)).cell? ((⟨w.heap.size, 0, none⟩ : Addr).add j) = some u := by
  intro j u hu
  match j, hu with
  | 0, hu => simp at hu; subst hu; simp [Addr.add]
  | 1, hu => simp at hu; subst hu; simp [Addr.add]
  | 2, hu => simp at hu; subst hu; simp [Addr.add]

/-- of a slab: the first k objects' taken ones -/
def obsK (e : Nat) (s : Sl) (k : Nat) : List Ob := (List.range k).filterMap fun k => if s.T[k]? = some true then some (obOf e s k) else none
theorem obsK_all (e : Nat) (s : Sl) : obsK e s s.T.length = obsS e s := rfl
theorem obsK_yes {e : Nat} {s : Sl} {k : Nat} (h : s.T[k]? = some true) : obsK e s (k + 1) = obsK e s k ++ [obOf e s k] := by
  unfold obsK
  rw [List.range_succ, List.filterMap_append]
  simp [h]
theorem obsK_no {e : Nat} {s : Sl} {k : Nat} (h : s.T[k]? = some false) : obsK e s (k + 1) = obsK e s k := by
  unfold obsK
  rw [List.range_succ, List.filterMap_append]
  simp [h]
theorem obsK_len (e : Nat) (s : Sl) (k : Nat) : (obsK e s k).length ≤ k := by
  unfold obsK
  have := List.length_filterMap_le (fun k => if s.T[k]? = some true then some (obOf e s k) else none) (List.range k)
  simpa using this
theorem obsC_snoc {e : Nat} {C : List Sl} {i : Nat} {s : Sl} (h : C[i]? = some s) : obsC e (C.take (i + 1)) = obsC e (C.take i) ++ obsS e s := by
  rw [List.take_add_one, h]
  unfold obsC
  simp
theorem obsC_len {e : Nat} : ∀ {C : List Sl}, (∀ s ∈ C, s.T.length ≤ 64) → (obsC e C).length ≤ 64 * C.length
  | [], _ => Nat.zero_le _
  | s :: C, h => by
    have h1 := obsC_len (e := e) (C := C) fun x hx => h x (List.mem_cons_of_mem _ hx)
    have h2 := h s (by simp)
    have h3 := obsK_len e s s.T.length
    rw [obsK_all] at h3
    have : obsC e (s :: C) = obsS e s ++ obsC e C := by simp [obsC]
    rw [this, List.length_append, List.length_cons]
    omega
/-- a slice of objects of the call's own -/
def OwnO (w w' : World) (v : Value) (l : List Ob) : Prop := w'.ownsRow w.heap.size 72 2 v l.length (encB l) ∧ Below w.heap.size w w'

section
variable {B : Nat} {ev : Nat → Addr} {pc pz e : Nat} {mn lw hi : Int} {O : List (List Int)} {X : List Nat} {vs : Value} {A : SA} {c : Ca} {w : World}
set_option maxHeartbeats 4000000 in
set_option maxRecDepth 100000 in
theorem staken_ok (h : CS B w pc pz mn lw hi O e X vs A c) (hI : InvC e c) :
    Calls Tryz.prog 38 #[.pointer (some ⟨pc, 0, none⟩)] w fun r w' => ∃ v, r = .returned v ∧ OwnO w w' v (obsC e c.C) := by
  obtain ⟨qv, kv, evs, kv1, kv2, hrow⟩ := h.ch.form
  subst evs
  have e1 := hI.e1; have e2 := hI.e2
  have few := hI.few
  have HIN := Lib.hid hI
  have HROW := Lib.hid hrow; have HC := Lib.hid h.ch
  have HL64 : Hid (∀ s ∈ c.C, s.T.length ≤ 64) := fun s hs => by rw [hI.len s hs]; unfold roomE; exact Nat.div_le_self _ _
  have c1 := h.ch.c.c 1 _ rfl; have c2 := h.ch.c.c 2 _ rfl; have cl := h.ch.c.lt
  have ALL : Hid (c.C.take c.C.length = c.C) := by show _ = _; simp
  obtain ⟨nn, hnn⟩ : ∃ nn, nn = c.C.length := ⟨_, rfl⟩
  have EN := Lib.hid hnn
  rw [← hnn] at c2 few kv1 ALL
  have OL : Hid (∀ i, i ≤ nn → (obsC e (c.C.take i)).length ≤ 65536) := fun i hi => by
    have := obsC_len (e := e) (C := c.C.take i) fun s hs => HL64.out s (List.mem_of_mem_take hs)
    rw [List.length_take] at this
    omega
  unfold maxLen at kv2
  clear h hI hrow hnn
  go_enter Tryz.func38, Tryz.ntmps38
  go_wp2_with fail
  go_loopw [3, 13] (fun ov iv wr => ∃ (i : Nat), i ≤ nn ∧ iv = .int .i64 i ∧ Hid (wr.ownsRow w.heap.size 72 2 ov (obsC e (c.C.take i)).length (encB (obsC e (c.C.take i)))) ∧ Below w.heap.size w wr) (fun _ iv _ => nn - (intOf iv).toNat)
  case atStart => exact ⟨0, by omega, by go_num, World.ownsRow_nil _ _ _ _, Below.refl _ _⟩
  case round =>
    obtain ⟨i, hile, rfl, HO, hbel⟩ := hrel
    by_cases hin : i < nn
    · obtain ⟨s, hs⟩ : ∃ s, c.C[i]? = some s := ⟨c.C[i]'(by rw [← EN.out]; exact hin), List.getElem?_eq_getElem _⟩
      obtain ⟨p, hp, hsl, _⟩ := (HC.out.below hbel).at hs
      obtain ⟨g, rfl, hg, hc0⟩ := HROW.out i p hp
      have ck : wr.cell? ⟨g, i, none⟩ = some (.pointer (some ⟨p.1, 0, none⟩)) := (hbel.cell (p := ⟨g, i, none⟩) hg).trans hc0
      have gl : g < wr.heap.size := Nat.lt_of_lt_of_le hg hbel.size
      have hik : i < kv := by omega
      obtain ⟨d0, d1, _, d3, d4, dl, dl2⟩ := hsl.cells
      have hsm := List.mem_of_getElem? hs
      obtain ⟨_, _, r3, r4⟩ := HIN.out.rng hsm
      have l64 := HL64.out s hsm
      have SW := Lib.hid ((HC.out).sl i p s hp hs)
      have OLi := OL.out i hile
      have SN := Lib.hid (obsC_snoc (e := e) hs)
      have HKA := Lib.hid (obsK_all e s)
      obtain ⟨l, hll⟩ : ∃ l, l = s.T.length := ⟨_, rfl⟩
      have HLL := Lib.hid hll
      rw [← hll] at l64 d3 HKA
      clear hc0 hsl hs hp hsm hll
      go_wp2_with fail
      go_loopw [3, 22] (fun ov kv wi => ∃ (k : Nat), k ≤ l ∧ kv = .int .i64 k ∧ Hid (wi.ownsRow w.heap.size 72 2 ov ((obsC e (c.C.take i)).length + (obsK e s k).length) (encB (obsC e (c.C.take i) ++ obsK e s k))) ∧ Below w.heap.size w wi) (fun _ kv _ => l - (intOf kv).toNat)
      case atStart => exact ⟨0, by omega, by go_num, (show wr.ownsRow _ _ _ _ _ _ from by have := HO.out; simpa [obsK] using this), hbel⟩
      case round =>
        obtain ⟨k, hkl, rfl, HOk, hbk⟩ := hrel
        obtain ⟨y0, y1, _, y3, y4, yl, yl2⟩ := (SW.out.keep (Keep.of (S := []) hbk) (by simp) (by simp)).cells
        have yb := Lib.hid (SW.out.keep (Keep.of (S := []) hbk) (by simp) (by simp))
        have p1 : wr.cell? ⟨pc, 1, none⟩ = some (.int .i64 e) := (hbk.cell (p := ⟨pc, 1, none⟩) cl).trans c1
        have pl : pc < wr.heap.size := Nat.lt_of_lt_of_le cl hbk.size
        by_cases hlt : k < l
        · obtain ⟨bt, hbt⟩ : ∃ bt, s.T[k]? = some bt := ⟨s.T[k]'(by rw [← HLL.out]; exact hlt), List.getElem?_eq_getElem _⟩
          have ct := yb.out.2.c k _ (bools_get hbt)
          cases bt with
          | false =>
            have KN := Lib.hid (obsK_no (e := e) hbt)
            clear hbt
            go_wp2
            go_round
            case rel => exact ⟨k + 1, by omega, by go_num, by rw [KN.out]; exact HOk, hbk⟩
            case measure => simp [intOf]; omega
          | true =>
            have KN := Lib.hid (obsK_yes (e := e) hbt)
            have ke0 : (0 : Int) ≤ (k : Int) * (e : Int) := Int.mul_nonneg (by omega) (by omega)
            have ke1 : (k : Int) * (e : Int) ≤ 4096 := by
              have := Nat.mul_le_mul (show k ≤ 64 by omega) e2
              have h2 : ((k * e : Nat) : Int) ≤ ((64 * 64 : Nat) : Int) := by omega
              simpa using h2
            have OLK := obsK_len e s k
            have HB2 := Lib.hid hbk
            have hw1 : IntKind.i64.wrap (s.pg * 64) = s.pg * 64 := IntWalk.i64_in _ (by omega)
            have hw2 : IntKind.i64.wrap ((k : Int) * (e : Int)) = (k : Int) * (e : Int) := IntWalk.i64_in _ (by omega)
            have hw3 : IntKind.i64.wrap (s.pg * 64 + (k : Int) * (e : Int)) = s.pg * 64 + (k : Int) * (e : Int) := IntWalk.i64_in _ (by omega)
            clear hbt
            go_wp2_with fail
            refine wp_region_cut (S := (fun w' => w'.cell? ⟨p.1, 0, none⟩ = some (.int .i64 s.nd) ∧ w'.cell? ⟨p.1, 1, none⟩ = some (.int .i64 s.pg) ∧ w'.cell? ⟨pc, 1, none⟩ = some (.int .i64 e))) 23 #[false, false, false, false, false, false, false, false, false, false, false, false, false, false, false, false, false, false, false, false, false, false, false] rfl (by kernel_rfl) (by kernel_rfl) (by (try dsimp only); go_keep) (fun hHeld => ?_)
            simp only [List.take_succ_cons, List.take_zero]
            refine cut_take (i := 0) (oi := _) (v := ?_) rfl (by kernel_rfl) (by kernel_rfl) (by kernel_rfl) (fun _ _ _ h => h) (Or.inl ⟨by rfl, ?_⟩) (by assumption) ?_
            rotate_left
            · (intro w hSw; (try dsimp only at hSw); go_simp <;> with_reducible rfl)
            try simp only [Act.put, List.setIfInBounds_toArray, List.set_cons_zero, List.set_cons_succ]
            refine cut_take (i := 1) (oi := _) (v := ?_) rfl (by kernel_rfl) (by kernel_rfl) (by kernel_rfl) (fun _ _ _ h => h) (Or.inl ⟨by rfl, ?_⟩) (by assumption) ?_
            rotate_left
            · (intro w hSw; (try dsimp only at hSw); go_simp <;> with_reducible rfl)
            try simp only [Act.put, List.setIfInBounds_toArray, List.set_cons_zero, List.set_cons_succ]
            refine cut_take (i := 2) (oi := _) (v := ?_) rfl (by kernel_rfl) (by kernel_rfl) (by kernel_rfl) (fun _ _ _ h => h) (Or.inl ⟨by rfl, ?_⟩) (by assumption) ?_
            rotate_left
            · (intro w hSw; (try dsimp only at hSw); go_simp <;> with_reducible rfl)
            try simp only [Act.put, List.setIfInBounds_toArray, List.set_cons_zero, List.set_cons_succ]
            refine cut_take (i := 3) (oi := _) (v := ?_) rfl (by kernel_rfl) (by kernel_rfl) (by kernel_rfl) (fun _ _ _ h => h) (Or.inl ⟨by rfl, ?_⟩) (by assumption) ?_
            rotate_left
            · (intro w hSw; (try dsimp only at hSw); go_simp <;> with_reducible rfl)
            try simp only [Act.put, List.setIfInBounds_toArray, List.set_cons_zero, List.set_cons_succ]
            refine cut_take (i := 4) (oi := _) (v := ?_) rfl (by kernel_rfl) (by kernel_rfl) (by kernel_rfl) (fun _ _ _ h => h) (Or.inl ⟨by rfl, ?_⟩) (by assumption) ?_
            rotate_left
            · (intro w hSw; (try dsimp only at hSw); go_simp <;> with_reducible rfl)
            try simp only [Act.put, List.setIfInBounds_toArray, List.set_cons_zero, List.set_cons_succ]
            refine cut_take (i := 5) (oi := _) (v := ?_) rfl (by kernel_rfl) (by kernel_rfl) (by kernel_rfl) (fun _ _ _ h => h) (Or.inl ⟨by rfl, ?_⟩) (by assumption) ?_
            rotate_left
            · (intro w hSw; (try dsimp only at hSw); go_simp <;> with_reducible rfl)
            try simp only [Act.put, List.setIfInBounds_toArray, List.set_cons_zero, List.set_cons_succ]
            refine cut_take (i := 6) (oi := _) (v := ?_) rfl (by kernel_rfl) (by kernel_rfl) (by kernel_rfl) (fun _ _ _ h => h) (Or.inl ⟨by rfl, ?_⟩) (by assumption) ?_
            rotate_left
            · (intro w hSw; (try dsimp only at hSw); go_simp <;> with_reducible rfl)
            try simp only [Act.put, List.setIfInBounds_toArray, List.set_cons_zero, List.set_cons_succ]
            refine cut_take (i := 7) (oi := _) (v := ?_) rfl (by kernel_rfl) (by kernel_rfl) (by kernel_rfl) (fun _ _ _ h => h) (Or.inl ⟨by rfl, ?_⟩) (by assumption) ?_
            rotate_left
            · (intro w hSw; (try dsimp only at hSw); go_simp <;> with_reducible rfl)
            try simp only [Act.put, List.setIfInBounds_toArray, List.set_cons_zero, List.set_cons_succ]
            refine cut_take (i := 8) (oi := _) (v := ?_) rfl (by kernel_rfl) (by kernel_rfl) (by kernel_rfl) (fun _ _ _ h => h) (Or.inl ⟨by rfl, ?_⟩) (by assumption) ?_
            rotate_left
            · (intro w hSw; (try dsimp only at hSw); go_simp <;> with_reducible rfl)
            try simp only [Act.put, List.setIfInBounds_toArray, List.set_cons_zero, List.set_cons_succ]
            refine cut_take (i := 9) (oi := _) (v := ?_) rfl (by kernel_rfl) (by kernel_rfl) (by kernel_rfl) (fun _ _ _ h => h) (Or.inl ⟨by rfl, ?_⟩) (by assumption) ?_
            rotate_left
            · (intro w hSw; (try dsimp only at hSw); go_simp <;> with_reducible rfl)
            try simp only [Act.put, List.setIfInBounds_toArray, List.set_cons_zero, List.set_cons_succ]
            refine cut_take (i := 10) (oi := _) (v := ?_) rfl (by kernel_rfl) (by kernel_rfl) (by kernel_rfl) (fun _ _ _ h => h) (Or.inl ⟨by rfl, ?_⟩) (by assumption) ?_
            rotate_left
            · (intro w hSw; (try dsimp only at hSw); go_simp <;> with_reducible rfl)
            try simp only [Act.put, List.setIfInBounds_toArray, List.set_cons_zero, List.set_cons_succ]
            refine cut_take (i := 11) (oi := _) (v := ?_) rfl (by kernel_rfl) (by kernel_rfl) (by kernel_rfl) (fun _ _ _ h => h) (Or.inl ⟨by rfl, ?_⟩) (by assumption) ?_
            rotate_left
            · (intro w hSw; (try dsimp only at hSw); go_simp <;> with_reducible rfl)
            try simp only [Act.put, List.setIfInBounds_toArray, List.set_cons_zero, List.set_cons_succ]
            refine cut_take (i := 12) (oi := _) (v := ?_) rfl (by kernel_rfl) (by kernel_rfl) (by kernel_rfl) (fun _ _ _ h => h) (Or.inl ⟨by rfl, ?_⟩) (by assumption) ?_
            rotate_left
            · (intro w hSw; (try dsimp only at hSw); go_simp <;> with_reducible rfl)
            try simp only [Act.put, List.setIfInBounds_toArray, List.set_cons_zero, List.set_cons_succ]
            refine cut_take (i := 13) (oi := _) (v := ?_) rfl (by kernel_rfl) (by kernel_rfl) (by kernel_rfl) (fun _ _ _ h => h) (Or.inl ⟨by rfl, ?_⟩) (by assumption) ?_
            rotate_left
            · (intro w hSw; (try dsimp only at hSw); go_simp <;> with_reducible rfl)
            try simp only [Act.put, List.setIfInBounds_toArray, List.set_cons_zero, List.set_cons_succ]
            refine cut_take (i := 14) (oi := _) (v := ?_) rfl (by kernel_rfl) (by kernel_rfl) (by kernel_rfl) (fun _ _ _ h => h) (Or.inl ⟨by rfl, ?_⟩) (by assumption) ?_
            rotate_left
            · (intro w hSw; (try dsimp only at hSw); go_simp <;> with_reducible rfl)
            try simp only [Act.put, List.setIfInBounds_toArray, List.set_cons_zero, List.set_cons_succ]
            refine cut_take (i := 15) (oi := _) (v := ?_) rfl (by kernel_rfl) (by kernel_rfl) (by kernel_rfl) (fun _ _ _ h => h) (Or.inl ⟨by rfl, ?_⟩) (by assumption) ?_
            rotate_left
            · (intro w hSw; (try dsimp only at hSw); go_simp <;> with_reducible rfl)
            try simp only [Act.put, List.setIfInBounds_toArray, List.set_cons_zero, List.set_cons_succ]
            refine cut_take (i := 16) (oi := _) (v := ?_) rfl (by kernel_rfl) (by kernel_rfl) (by kernel_rfl) (fun _ _ _ h => h) (Or.inl ⟨by rfl, ?_⟩) (by assumption) ?_
            rotate_left
            · (intro w hSw; (try dsimp only at hSw); go_simp <;> with_reducible rfl)
            try simp only [Act.put, List.setIfInBounds_toArray, List.set_cons_zero, List.set_cons_succ]
            refine cut_take (i := 17) (oi := _) (v := ?_) rfl (by kernel_rfl) (by kernel_rfl) (by kernel_rfl) (fun _ _ _ h => h) (Or.inl ⟨by rfl, ?_⟩) (by assumption) ?_
            rotate_left
            · (intro w hSw; (try dsimp only at hSw); go_simp <;> with_reducible rfl)
            try simp only [Act.put, List.setIfInBounds_toArray, List.set_cons_zero, List.set_cons_succ]
            refine cut_take (i := 18) (oi := _) (v := ?_) rfl (by kernel_rfl) (by kernel_rfl) (by kernel_rfl) (fun _ _ _ h => h) (Or.inl ⟨by rfl, ?_⟩) (by assumption) ?_
            rotate_left
            · (intro w hSw; (try dsimp only at hSw); go_simp <;> with_reducible rfl)
            try simp only [Act.put, List.setIfInBounds_toArray, List.set_cons_zero, List.set_cons_succ]
            refine cut_take (i := 19) (oi := _) (v := ?_) rfl (by kernel_rfl) (by kernel_rfl) (by kernel_rfl) (fun _ _ _ h => h) (Or.inl ⟨by rfl, ?_⟩) (by assumption) ?_
            rotate_left
            · (intro w hSw; (try dsimp only at hSw); go_simp <;> with_reducible rfl)
            try simp only [Act.put, List.setIfInBounds_toArray, List.set_cons_zero, List.set_cons_succ]
            refine cut_take (i := 20) (oi := _) (v := ?_) rfl (by kernel_rfl) (by kernel_rfl) (by kernel_rfl) (fun _ _ _ h => h) (Or.inl ⟨by rfl, ?_⟩) (by assumption) ?_
            rotate_left
            · (intro w hSw; (try dsimp only at hSw); go_simp <;> with_reducible rfl)
            try simp only [Act.put, List.setIfInBounds_toArray, List.set_cons_zero, List.set_cons_succ]
            refine wpAnyH_ready (rs := [21]) (by kernel_rfl) (by simp) ?_
            refine AllReadyH.cons (cut_cons rfl) (fun K hK => ?_) AllReadyH.nil
            go_simp
            refine hK.out _ _ (by (try dsimp only); go_keep) (fun hHeld => ?_)
            clear hK K
            try simp only [Act.put, List.setIfInBounds_toArray, List.set_cons_zero, List.set_cons_succ]
            refine wpAnyH_ready (rs := [22]) (by kernel_rfl) (by simp) ?_
            refine AllReadyH.cons (cut_cons rfl) (fun K hK => ?_) AllReadyH.nil
            refine step_appS elObj (base := w.heap.size) (ms := [.int .i64 s.nd, .int .i64 (s.pg * 64 + (k : Int) * (e : Int))]) (by rfl) (.tmp 28) (.tmp 49) (by rfl) (by rfl) (by rfl) ((HOk.out.alloc _).drew) rfl (fun j u hj => new_two wr _ _ _ j u hj) (one_two _ _) (by omega) (by have := HB2.out.size; simp; omega) ?_
            intro q4 k4 w4 hown4 hg4
            have hb4 : Below w.heap.size w w4 := (HB2.out.alloc (by have := HB2.out.size; simpa using this) _).drew.grown hg4 (by have := HB2.out.size; simp; omega) (fun r hr => (HOk.out.lt r hr).1)
            obtain ⟨z0, z1, _, _, _, zl, _⟩ := (SW.out.keep (Keep.of (S := []) hb4) (by simp) (by simp)).cells
            have zp : w4.cell? ⟨pc, 1, none⟩ = some (.int .i64 e) := (hb4.cell (p := ⟨pc, 1, none⟩) cl).trans c1
            refine hK.out _ _ (by (try dsimp only); go_keep) (fun hHeld => ?_)
            clear hK K
            try simp only [Act.put, List.setIfInBounds_toArray, List.set_cons_zero, List.set_cons_succ]
            refine wpAnyH_done (by kernel_rfl) ?_ _
            simp only [headQ, List.drop_succ_cons, List.drop_zero]
            go_wp2
            go_round
            case rel =>
              refine ⟨k + 1, by omega, by go_num, ?_, hb4⟩
              show World.ownsRow _ _ _ _ _ _ _
              rw [KN.out, List.length_append, ← Nat.add_assoc, ← List.append_assoc, encB_snoc]
              exact hown4
            case measure => simp [intOf]; omega
        · obtain rfl : k = l := by omega
          go_wp2
          go_round
          case rel =>
            refine ⟨i + 1, by omega, by go_num, ?_, hbk⟩
            show World.ownsRow _ _ _ _ _ _ _
            have := HOk.out
            rw [HKA.out, ← List.length_append, ← SN.out] at this
            exact this
          case measure => simp [intOf]; omega
    · obtain rfl : i = nn := by omega
      have HO' := HO.out
      rw [ALL.out] at HO'
      have HOO := Lib.hid HO'
      clear HO HO'
      go_wp2
      go_ret
      exact ⟨_, rfl, HOO.out, hbel⟩
/-- places as cells -/
def encP (l : List Pl) : List Value := l.flatMap fun p => [.int .i64 p.1, .int .i64 p.2.1, .int .i64 p.2.2]
theorem encP_snoc (l : List Pl) (p : Pl) : encP (l ++ [p]) = encP l ++ [.int .i64 p.1, .int .i64 p.2.1, .int .i64 p.2.2] := by simp [encP]
theorem places_snoc {C : List Sl} {i : Nat} {s : Sl} (h : C[i]? = some s) : placesC (C.take (i + 1)) = placesC (C.take i) ++ [(s.nd, s.pg, 0)] := by
  rw [List.take_add_one, h]
  unfold placesC
  simp
theorem places_len (C : List Sl) : (placesC C).length = C.length := by unfold placesC; simp
set_option maxHeartbeats 4000000 in
set_option maxRecDepth 100000 in
theorem sslabs_ok (h : CS B w pc pz mn lw hi O e X vs A c) (hI : InvC e c) :
    Calls Tryz.prog 41 #[.pointer (some ⟨pc, 0, none⟩)] w fun r w' => ∃ q k, r = .returned (.slice q c.C.length k) ∧ w'.ownsRow w.heap.size 41 3 (.slice q c.C.length k) c.C.length (encP (placesC c.C)) ∧ Below w.heap.size w w' := by
  obtain ⟨qv, kv, evs, kv1, kv2, hrow⟩ := h.ch.form
  subst evs
  have few := hI.few
  have HROW := Lib.hid hrow; have HC := Lib.hid h.ch
  have c2 := h.ch.c.c 2 _ rfl; have cl := h.ch.c.lt
  have ALL : Hid (c.C.take c.C.length = c.C) := by show _ = _; simp
  obtain ⟨nn, hnn⟩ : ∃ nn, nn = c.C.length := ⟨_, rfl⟩
  have EN := Lib.hid hnn
  rw [← hnn] at c2 few kv1 ALL ⊢
  unfold maxLen at kv2
  clear h hI hrow hnn
  go_enter Tryz.func41, Tryz.ntmps41
  go_wp2_with fail
  go_loopw [3, 11] (fun ov iv wr => ∃ (i : Nat) (q : Option Addr) (k : Nat), i ≤ nn ∧ iv = .int .i64 i ∧ ov = .slice q i k ∧ Hid (wr.ownsRow w.heap.size 41 3 (.slice q i k) i (encP (placesC (c.C.take i)))) ∧ Below w.heap.size w wr) (fun _ iv _ => nn - (intOf iv).toNat)
  case atStart => exact ⟨0, none, 0, by omega, by go_num, rfl, World.ownsRow_nil _ _ _ _, Below.refl _ _⟩
  case round =>
    obtain ⟨i, q, k, hile, rfl, rfl, HO, hbel⟩ := hrel
    by_cases hin : i < nn
    · obtain ⟨s, hs⟩ : ∃ s, c.C[i]? = some s := ⟨c.C[i]'(by rw [← EN.out]; exact hin), List.getElem?_eq_getElem _⟩
      obtain ⟨p, hp, hsl, _⟩ := (HC.out.below hbel).at hs
      obtain ⟨g, rfl, hg, hc0⟩ := HROW.out i p hp
      have ck : wr.cell? ⟨g, i, none⟩ = some (.pointer (some ⟨p.1, 0, none⟩)) := (hbel.cell (p := ⟨g, i, none⟩) hg).trans hc0
      have gl : g < wr.heap.size := Nat.lt_of_lt_of_le hg hbel.size
      have hik : i < kv := by omega
      obtain ⟨d0, d1, d2, d3, d4, dl, dl2⟩ := hsl.cells
      have SN := Lib.hid (places_snoc hs)
      have HB := Lib.hid hbel
      clear hc0 hsl hs hp
      go_wp2_with (first | (at_builtin; refine wpList_appS elPl (base := w.heap.size) (v := .slice q i k) (n := i) (ms := [.int .i64 s.nd, .int .i64 s.pg, .int .i64 0]) (by rfl) (.tmp 15) (.tmp 20) (by rfl) (by rfl) (by rfl) (HO.out.alloc _) rfl (new_three _ _ _ _ _) (by intro u hu; simp at hu; rcases hu with rfl | rfl | rfl <;> rfl) (by omega) (by have := HB.out.size; simp; omega) ?_; intro q4 k4 w4 hown4 hg4))
      have hb4 : Below w.heap.size w w4 := (HB.out.alloc (by have := HB.out.size; simpa using this) _).grown hg4 (by have := HB.out.size; simp; omega) (fun r hr => (HO.out.lt r hr).1)
      have HO4 := Lib.hid hown4
      clear hown4 hg4
      go_wp2
      go_round
      case rel => exact ⟨i + 1, q4, k4, by omega, by go_num, rfl, (show World.ownsRow _ _ _ _ _ _ _ by rw [SN.out, encP_snoc]; exact HO4.out), hb4⟩
      case measure => simp [intOf]; omega
    · obtain rfl : i = nn := by omega
      have HO' := HO.out
      rw [ALL.out] at HO'
      have HOO := Lib.hid HO'
      clear HO HO'
      go_wp2
      go_ret
      exact ⟨_, _, rfl, HOO.out, hbel⟩
end
end Go.Proofs.YtcokmiidgdmdlaaGreatDoor
