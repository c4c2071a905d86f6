/- Package magazine: Give by its contract. -/
import Derived.Test.YtcokmiidgdmdlaaGreatDoorDOut
namespace Go.Proofs.YtcokmiidgdmdlaaGreatDoor
open Go.RowKit Go.Maps
set_option linter.unusedSimpArgs false
set_option linter.unusedVariables false
attribute [local go_sem ↓] Go.wp_at_zero Go.wp_at_succ

/-- the errors that a depot tells -/
structure ErrS (B : Nat) (ev : Nat → Addr) (w : World) : Prop where
  z : ErrZ B ev w
  l9 : 4 < B
  c9 : w.cell? ⟨4, 0, none⟩ = some (errV ev 9)
theorem ErrS.below {B : Nat} {ev : Nat → Addr} {w w' : World} (h : ErrS B ev w) (hb : Below B w w') : ErrS B ev w' := ⟨h.z.below hb, h.l9, by rw [hb.cell (p := ⟨4, 0, none⟩) h.l9]; exact h.c9⟩
theorem ErrS.size {B : Nat} {ev : Nat → Addr} {w : World} (h : ErrS B ev w) : B ≤ w.heap.size := h.z.size
theorem ErrS.go {B : Nat} {ev : Nat → Addr} {w w' : World} (h : ErrS B ev w) (hb : Below w.heap.size w w') : ErrS B ev w' := h.below (hb.mono h.size)
theorem ErrS.up {B B' : Nat} {ev : Nat → Addr} {w : World} (h : ErrS B ev w) (hb : B ≤ B') (hs : B' ≤ w.heap.size) : ErrS B' ev w := ⟨h.z.up hb hs, Nat.lt_of_lt_of_le h.l9 hb, h.c9⟩
theorem Errs.s {B : Nat} {ev : Nat → Addr} {w : World} (h : Errs B ev w) : ErrS B ev w := ⟨h.z, h.glob 9 (by decide) (by decide), h.cell 9 (by decide) (by decide)⟩

section
variable {X Y S : List Nat} {B : Nat} {ev : Nat → Addr} {w w' : World} {pd pc pz gh e : Nat} {mn lw hi : Int} {O : List (List Int)} {v vp vp' : Value} {A : SA} {V : HV} {U U' : List Value} {d : De} {c : Ca} {P' : List (List Ob)}
theorem dclip_ok (q : Option Addr) (n cap : Nat) (w : World) (hq : q = none → n = 0) (hn : n ≤ cap) :
    Calls Tryz.prog 88 #[.slice q n cap] w fun e w' => e = .returned (.slice q n n) ∧ w' = w := by
  cases q with
  | none =>
    have := hq rfl
    subst this
    by_cases hc : cap = 0
    · subst hc
      go_enter Tryz.func88, Tryz.ntmps88
      go_wp2
      go_ret
      exact ⟨rfl, rfl⟩
    · go_enter Tryz.func88, Tryz.ntmps88
      go_wp2
      go_ret
      exact ⟨rfl, rfl⟩
  | some a =>
    obtain ⟨g, o, p⟩ := a
    have h1 : (n : Int) ≤ (cap : Int) := by omega
    go_enter Tryz.func88, Tryz.ntmps88
    go_wp2
    go_ret
    exact ⟨rfl, rfl⟩
/-- one object more: a slice that is full grows -/
theorem run_appO {q : Option Addr} {l : List Ob} (h : RowO X w (.slice q l.length l.length) l) (hl : l.length ≤ 65536) (ty : TypeId) {a : Addr} {cp : Nat} {o : Ob} (h0 : w.cell? (a.add 0) = some (.int .i64 o.1)) (h1 : w.cell? (a.add 1) = some (.int .i64 o.2)) :
    ∃ g k w', (Builtin.append_ #[70, 70] ty #[.slice q l.length l.length, .slice (some a) 1 cp]).run Tryz.prog w = .ok (.slice (some ⟨g, 0, none⟩) (l.length + 1) k) w' ∧ w'.ownsRow w.heap.size 72 2 (.slice (some ⟨g, 0, none⟩) (l.length + 1) k) (l.length + 1) (encB (l ++ [o])) ∧ Below w.heap.size w w' := by
  obtain ⟨i0, hi, hz0, hz1, hz2⟩ := info_parts (P := Tryz.prog) (e := 72) (z := .agg #[.int .i64 0, .int .i64 0]) (size := 2) (bytes := 16) (by kernel_rfl)
  have hms : ∀ (j : Nat) (u : Value), [Value.int .i64 o.1, .int .i64 o.2][j]? = some u → w.cell? (a.add j) = some u := fun j u hj => by
    cases j with
    | zero => simp at hj; subst hj; exact h0
    | succ j =>
      cases j with
      | zero => simp at hj; subst hj; exact h1
      | succ j => simp at hj
  have fin : ∀ v' w', w'.ownsRow w.heap.size 72 2 v' (l.length + 1) (encB (l ++ [o])) → w.grownBy w' none → ∃ g k, v' = .slice (some ⟨g, 0, none⟩) (l.length + 1) k := fun v' w' ho _ => by
    rcases ho.2 with ⟨rfl, h3⟩ | ⟨g, cap, cur, rfl, _⟩
    · exact absurd h3 (by omega)
    · exact ⟨g, cap, rfl⟩
  have elen : (encB l).length = l.length * 2 := by rw [encB_length]; omega
  cases q with
  | none =>
    obtain ⟨p', cap', e1, e2, e3, e4⟩ := h
    have hl0 : l = [] := by
      have e5 := (Value.slice.inj e1).1
      clear e1 fin elen hms
      cases l with
      | nil => rfl
      | cons b r =>
        obtain ⟨g, off, t, _⟩ := e4 0 b.1 b.2 rfl
        rw [← e5] at t; cases t
    subst hl0
    obtain ⟨v', w', hrun, h2, h3, _⟩ := run_append_own_at (P := Tryz.prog) w w.heap.size 70 ty 72 i0 _ 2 16 Tryz.underlying70 hi hz0 hz1 hz2 rfl (by omega) (.slice none 0 0) 0 [] (World.ownsRow_nil _ _ _ _) a 1 cp [.int .i64 o.1, .int .i64 o.2] (by simp) hms (by intro u hu; simp at hu; rcases hu with rfl | rfl <;> rfl) (by unfold maxLen; omega) (by omega) (Nat.le_refl _)
    have hg : w.grownBy w' none := h3
    obtain ⟨g, k, rfl⟩ := fin v' w' (by simpa [encB] using h2) hg
    exact ⟨g, k, w', by simpa using hrun, by simpa [encB] using h2, (Below.refl _ _).grown hg (Nat.le_refl _) (fun k q => by cases q)⟩
  | some b =>
    have holds : ∀ (j : Nat) (u : Value), (encB l)[j]? = some u → w.cell? (b.add j) = some u := fun j u hj => by
      have hjl := (List.getElem?_eq_some_iff.1 hj).1
      rw [elen] at hjl
      obtain ⟨y, hy⟩ : ∃ y, l[j / 2]? = some y := ⟨l[j / 2]'(by omega), List.getElem?_eq_getElem _⟩
      obtain ⟨g, off, t, _, _, c0, c1⟩ := h.at hy
      obtain rfl := Option.some.inj t
      obtain ⟨e1, e2⟩ := encB_get l (j / 2) y.1 y.2 hy
      rw [addr_add]
      have : j = j / 2 * 2 ∨ j = j / 2 * 2 + 1 := by omega
      rcases this with q | q
      · rw [q] at hj
        rw [e1] at hj
        obtain rfl := Option.some.inj hj
        rw [q]; exact c0
      · rw [q] at hj
        rw [e2] at hj
        obtain rfl := Option.some.inj hj
        rw [q]; exact c1
    obtain ⟨v', w', hrun, h2, h3⟩ := run_append_arg_grows (P := Tryz.prog) w 70 ty 72 i0 _ 2 16 Tryz.underlying70 hi hz0 hz1 hz2 rfl (by omega) b l.length l.length (encB l) elen holds a 1 cp [.int .i64 o.1, .int .i64 o.2] (by simp) hms (by omega) (by unfold maxLen; omega) (by omega)
    rw [← encB_snoc] at h2
    obtain ⟨g, k, rfl⟩ := fin v' w' h2 h3
    exact ⟨g, k, w', hrun, h2, (Below.refl _ _).grown h3 (Nat.le_refl _) (fun k q => by cases q)⟩
theorem step_call {P : Program} {ops : Array Oper} {o : Oper} {a : Act} {w : World} {K : Act → World → Prop} {Q : Exit → Act → World → Prop} {F : Prop} (hg : o.guard = none)
    (f : FuncId) (args : Array Value) (hrun : (execOp a.eval o).run P w = .ok (.enter f args) w) (v : Value) (w' : World) (hc : Calls P f args w fun e w'' => e = .returned v ∧ w'' = w') (hK : K (a.put o.dst v) w') :
    if Region.wanted o (yielded ops a.tmps) = true then Oper.wp P o a w K Q else F := by
  have hw : Region.wanted o (yielded ops a.tmps) = true := by simp [Region.wanted, hg]
  rw [if_pos hw]
  unfold Oper.wp
  rw [hrun, Oper.upon_enter]
  refine hc.mono fun e w'' hh => ?_
  obtain ⟨rfl, rfl⟩ := hh
  exact hK
theorem step_appO {ops : Array Oper} {o : Oper} {a : Act} {K : Act → World → Prop} {Q : Exit → Act → World → Prop} {F : Prop} {q : Option Addr} {l : List Ob} (hgd : o.guard = none) (s x : Operand)
    (hop : o.op = .call { callee := .builtin .append, args := #[s, x], argTypes := #[70, 70] }) (hs : a.eval s = .slice q l.length l.length) {ad : Addr} {cp : Nat} (hx : a.eval x = .slice (some ad) 1 cp)
    (h : RowO X w (.slice q l.length l.length) l) (hl : l.length ≤ 65536) {ob : Ob} (h0 : w.cell? (ad.add 0) = some (.int .i64 ob.1)) (h1 : w.cell? (ad.add 1) = some (.int .i64 ob.2))
    (hK : ∀ g k w', w'.ownsRow w.heap.size 72 2 (.slice (some ⟨g, 0, none⟩) (l.length + 1) k) (l.length + 1) (encB (l ++ [ob])) → Below w.heap.size w w' → K (a.put o.dst (.slice (some ⟨g, 0, none⟩) (l.length + 1) k)) w') :
    if Region.wanted o (yielded ops a.tmps) = true then Oper.wp Tryz.prog o a w K Q else F := by
  have hw : Region.wanted o (yielded ops a.tmps) = true := by simp [Region.wanted, hgd]
  rw [if_pos hw]
  obtain ⟨g, k, w', hrun, h2, h3⟩ := run_appO h hl o.type h0 h1 (cp := cp)
  unfold Oper.wp execOp
  simp only [hop, resolve, invoke, builtin, Sem.run_bind, Sem.run_pure, Result.andThen_ok, List.map_toArray, List.map_cons, List.map_nil, hs, hx, hrun]
  exact hK g k w' h2 h3
theorem step_appN {ops : Array Oper} {o : Oper} {a : Act} {K : Act → World → Prop} {Q : Exit → Act → World → Prop} {F : Prop} {q : Option Addr} {n : Nat} {l : List Ob} (hn : n = l.length) (hgd : o.guard = none) (s x : Operand)
    (hop : o.op = .call { callee := .builtin .append, args := #[s, x], argTypes := #[70, 70] }) (hs : a.eval s = .slice q n n) {ad : Addr} {cp : Nat} (hx : a.eval x = .slice (some ad) 1 cp)
    (h : RowO X w (.slice q l.length l.length) l) (hl : n ≤ 65536) {ob : Ob} (h0 : w.cell? (ad.add 0) = some (.int .i64 ob.1)) (h1 : w.cell? (ad.add 1) = some (.int .i64 ob.2))
    (hK : ∀ g k w', w'.ownsRow w.heap.size 72 2 (.slice (some ⟨g, 0, none⟩) (n + 1) k) (n + 1) (encB (l ++ [ob])) → Below w.heap.size w w' → K (a.put o.dst (.slice (some ⟨g, 0, none⟩) (n + 1) k)) w') :
    if Region.wanted o (yielded ops a.tmps) = true then Oper.wp Tryz.prog o a w K Q else F := by
  subst hn
  exact step_appO hgd s x hop hs hx h hl h0 h1 hK
end
end Go.Proofs.YtcokmiidgdmdlaaGreatDoor
