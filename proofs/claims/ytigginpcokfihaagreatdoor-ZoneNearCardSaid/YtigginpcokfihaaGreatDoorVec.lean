/- Slices whose elements are one cell each: what lies in them; append of such a slice, nil or not, to one of the call's own. -/
import Derived.Test.YtigginpcokfihaaGreatDoorRowM
import Derived.Test.YtigginpcokfihaaGreatDoorChecked
import Derived.Maps.AppendAt
import Derived.OwnWalk
import Derived.Deep.AppendLies
namespace Go.Proofs.YtigginpcokfihaaGreatDoor
open Go.RowKit
set_option linter.unusedSimpArgs false
set_option linter.unusedVariables false

/-- v reads as the values us; it lies in none of the blocks X -/
def RowV (X : List Nat) (w : World) (v : Value) (us : List Value) : Prop :=
  ∃ p cap, v = .slice p us.length cap ∧ us.length ≤ cap ∧ cap ≤ maxLen ∧ ∀ j u, us[j]? = some u → ∃ g off, p = some ⟨g, off, none⟩ ∧ g ∉ X ∧ g < w.heap.size ∧ w.cell? ⟨g, off + j, none⟩ = some u
theorem RowV.keep {X S : List Nat} {w w' : World} {v : Value} {us : List Value} (h : RowV X w v us) (k : Keep S w w') (hs : ∀ s ∈ S, s ∈ X ∨ w.heap.size ≤ s) : RowV X w' v us := by
  obtain ⟨p, cap, h1, h2, h3, h4⟩ := h
  refine ⟨p, cap, h1, h2, h3, fun j u hj => ?_⟩
  obtain ⟨g, off, e1, e2, e3, e4⟩ := h4 j u hj
  exact ⟨g, off, e1, e2, Nat.lt_of_lt_of_le e3 k.size, (k.cell e3 fun q => by rcases hs g q with r | r; (· exact e2 r); (· omega)).trans e4⟩
theorem RowV.below {X : List Nat} {w w' : World} {v : Value} {us : List Value} (h : RowV X w v us) (k : Below w.heap.size w w') : RowV X w' v us := h.keep (Keep.of (S := []) k) (fun _ q => by cases q)
theorem RowV.more {X Y : List Nat} {w : World} {v : Value} {us : List Value} (h : RowV X w v us) (hY : ∀ y ∈ Y, y ∈ X ∨ w.heap.size ≤ y) : RowV Y w v us := by
  obtain ⟨p, cap, h1, h2, h3, h4⟩ := h
  refine ⟨p, cap, h1, h2, h3, fun j u hj => ?_⟩
  obtain ⟨g, off, e1, e2, e3, e4⟩ := h4 j u hj
  exact ⟨g, off, e1, fun q => by rcases hY g q with r | r; (· exact e2 r); (· omega), e3, e4⟩
theorem RowV.sub {X Y : List Nat} {w : World} {v : Value} {us : List Value} (h : RowV Y w v us) (hX : ∀ x ∈ X, x ∈ Y) : RowV X w v us := by
  obtain ⟨p, cap, h1, h2, h3, h4⟩ := h
  refine ⟨p, cap, h1, h2, h3, fun j u hj => ?_⟩
  obtain ⟨g, off, e1, e2, e3, e4⟩ := h4 j u hj
  exact ⟨g, off, e1, fun q => e2 (hX g q), e3, e4⟩
theorem RowV.nil (X : List Nat) (w : World) : RowV X w (.slice none 0 0) [] := ⟨none, 0, rfl, Nat.le_refl _, Nat.zero_le _, fun j u hj => by simp at hj⟩
/-- the slice at hand: its first cell's place (whatever it is where the slice is empty), its capacity -/
theorem RowV.form {X : List Nat} {w : World} {v : Value} {us : List Value} (h : RowV X w v us) : ∃ p cap, v = .slice p us.length cap ∧ us.length ≤ cap ∧ cap ≤ maxLen ∧ ∀ j u, us[j]? = some u → ∃ g off, p = some ⟨g, off, none⟩ ∧ g ∉ X ∧ g < w.heap.size ∧ w.cell? ⟨g, off + j, none⟩ = some u := h

theorem own_rowV {X : List Nat} {w : World} {base : Nat} {E : TypeId} {v : Value} {us : List Value} (h : w.ownsRow base E 1 v us.length us) (hX : ∀ x ∈ X, ∀ g, v.ownBlock = some g → x ≠ g) : RowV X w v us := by
  have ho := h
  rcases h.2 with ⟨rfl, h3⟩ | ⟨g, cap, cur, rfl, hg, hh, hcap, hmax, _⟩
  · cases us with
    | nil => exact RowV.nil X w
    | cons b r => simp at h3
  · refine ⟨some ⟨g, 0, none⟩, cap, rfl, hcap, hmax, fun j u hj => ⟨g, 0, rfl, fun q => hX g q g rfl rfl, (ho.lt g rfl).2, ?_⟩⟩
    have hlt : j < us.length := (List.getElem?_eq_some_iff.1 hj).1
    rw [Nat.zero_add, ho.cellAt j (by omega)]
    exact hj

/-- an element type of one cell: of which slice type, its zero value, its bytes -/
structure El (T E : TypeId) (z : Value) (b : Nat) : Prop where
  und : Tryz.prog.underlying T = some (.slice E)
  info : (Tryz.prog.info? E).map (fun i => (i.zero, i.size, i.bytes)) = some (some z, 1, b)
  one : z.cells.size = 1
  few : b ≤ 64

/-- what is appended: nothing (of a nil slice, or of an empty one), or cells that lie from a place on -/
def SrcV (w : World) (p : Option Addr) (ms : List Value) : Prop :=
  (p = none ∧ ms = []) ∨ ∃ a : Addr, p = some a ∧ ∀ (j : Nat) (u : Value), ms[j]? = some u → w.cell? (a.add j) = some u
theorem addr_add (g o j : Nat) : (⟨g, o, none⟩ : Addr).add j = ⟨g, o + j, none⟩ := by
  unfold Addr.add
  split
  · rename_i e; rw [e]; rfl
  · rfl
theorem RowV.src {X : List Nat} {w : World} {p : Option Addr} {n cap : Nat} {us : List Value} (h : RowV X w (.slice p n cap) us) : SrcV w p us := by
  obtain ⟨q, c, h1, _, _, h4⟩ := h
  injection h1 with h1 _ _
  subst h1
  cases p with
  | none =>
    refine .inl ⟨rfl, ?_⟩
    cases us with
    | nil => rfl
    | cons u r => obtain ⟨g, off, e, _⟩ := h4 0 u rfl; cases e
  | some a =>
    refine .inr ⟨a, rfl, fun j u hj => ?_⟩
    obtain ⟨g', o', e, _, _, e4⟩ := h4 j u hj
    injection e with e
    subst e
    rw [addr_add]
    exact e4
/-- append of a slice of one-cell elements to one of the call's own -/
theorem run_app1 {T E : TypeId} {z : Value} {b : Nat} (hE : El T E z b) {w : World} (ty : TypeId) {base : Nat} {v : Value} {us : List Value} (hown : w.ownsRow base E 1 v us.length us) {p : Option Addr} {c : Nat} {ms : List Value} (hs : SrcV w p ms) (h1 : ∀ u ∈ ms, u.oneCell' = true)
    (hl : us.length + ms.length ≤ 65536) (hb : base ≤ w.heap.size) :
    ∃ q k w', (Builtin.append_ #[T, T] ty #[v, .slice p ms.length c]).run Tryz.prog w = .ok (.slice q (us ++ ms).length k) w' ∧ w'.ownsRow base E 1 (.slice q (us ++ ms).length k) (us ++ ms).length (us ++ ms) ∧ w.grownBy w' v.ownBlock ∧
      ((Value.slice q (us ++ ms).length k).ownBlock = v.ownBlock ∨ (Value.slice q (us ++ ms).length k).ownBlock = some w.heap.size) := by
  obtain ⟨i0, hi, hz0, hz1, hz2⟩ := info_parts hE.info
  have ht := hE.und
  have hfew := hE.few
  rcases hs with ⟨rfl, rfl⟩ | ⟨a, rfl, hc⟩
  · rcases hown.2 with ⟨rfl, hu⟩ | ⟨g, cap, cur, rfl, _, _, hnc, _⟩
    · refine ⟨none, 0, w, ?_, ?_, ⟨rfl, rfl, rfl, Nat.le_refl _, fun _ _ _ => rfl⟩, .inl rfl⟩
      · simp [Builtin.append_, run_underlying ht, sizeOf, typeInfo, hi, Builtin.lenOf, Builtin.firstCells, hu]
      · have hu' : us = [] := List.length_eq_zero_iff.1 hu
        subst hu'
        exact hown
    · refine ⟨some ⟨g, 0, none⟩, cap, w, ?_, by simpa using hown, ⟨rfl, rfl, rfl, Nat.le_refl _, fun _ _ _ => rfl⟩, .inl rfl⟩
      simp [Builtin.append_, run_underlying ht, sizeOf, typeInfo, hi, Builtin.lenOf, Builtin.firstCells, hnc, storeCells]
  · obtain ⟨v', w', hrun, h2, h3, _, h5⟩ := run_append_own_at (P := Tryz.prog) w base T ty E i0 z 1 b ht hi hz0 hz1 hz2 hE.one (by omega) v us.length us hown a ms.length c ms
      (by omega) hc h1 (by unfold maxLen; omega) (by
        have : (us.length + ms.length) * b ≤ 65536 * 64 := Nat.mul_le_mul hl hfew
        omega) hb
    have hf : ∃ q k, v' = .slice q (us.length + ms.length) k := by
      rcases h2.2 with ⟨e, e2⟩ | ⟨g', cap', cur, e, _⟩
      · exact ⟨none, 0, by rw [e, e2]⟩
      · exact ⟨_, _, e⟩
    obtain ⟨q, k, rfl⟩ := hf
    rw [← List.length_append] at hrun h2 h5
    exact ⟨q, k, w', hrun, h2, h3, h5⟩
theorem wpList_app1 {T E : TypeId} {z : Value} {b : Nat} (hE : El T E z b) {base : Nat} {v : Value} {us ms : List Value} {w : World} {p : Option Addr} {c : Nat} {ops : Array Oper} {rest : List Oper} {o : Oper} {a : Act} {Q : Exit → Act → World → Prop} (hgd : o.guard = none) (s x : Operand)
    (ho : o.op = .call { callee := .builtin .append, args := #[s, x], argTypes := #[T, T] }) (hv : a.eval s = v) (mn : Nat) (hx : a.eval x = .slice p mn c) (hmn : ms.length = mn)
    (hown : w.ownsRow base E 1 v us.length us) (hs : SrcV w p ms) (h1 : ∀ u ∈ ms, u.oneCell' = true) (hl : us.length + ms.length ≤ 65536) (hb : base ≤ w.heap.size)
    (h : ∀ q k w', w'.ownsRow base E 1 (.slice q (us ++ ms).length k) (us ++ ms).length (us ++ ms) → w.grownBy w' v.ownBlock → ((Value.slice q (us ++ ms).length k).ownBlock = v.ownBlock ∨ (Value.slice q (us ++ ms).length k).ownBlock = some w.heap.size) → wpList Tryz.prog ops Q rest (a.put o.dst (.slice q (us ++ ms).length k)) w') : wpList Tryz.prog ops Q (o :: rest) a w := by
  subst hmn
  refine wpList_plain hgd fun K hK => ?_
  obtain ⟨q, k, w', hrun, h2, h3, h4⟩ := run_app1 hE (w := w) o.type hown hs h1 hl hb (c := c)
  unfold Oper.wp execOp
  simp only [ho, resolve, invoke, builtin, Sem.run_bind, Sem.run_pure, Result.andThen_ok, List.map_toArray, List.map_cons, List.map_nil, hv, hx, hrun]
  exact hK _ _ (h q k w' h2 h3 h4)
/-- .. at a step of a region that draws its order -/
theorem step_app1 {T E : TypeId} {z : Value} {b : Nat} (hE : El T E z b) {base : Nat} {v : Value} {us ms : List Value} {w : World} {p : Option Addr} {c : Nat} {ops : Array Oper} {o : Oper} {a : Act} {K : Act → World → Prop} {Q : Exit → Act → World → Prop} {F : Prop} (hgd : o.guard = none) (s x : Operand)
    (ho : o.op = .call { callee := .builtin .append, args := #[s, x], argTypes := #[T, T] }) (hv : a.eval s = v) (mn : Nat) (hx : a.eval x = .slice p mn c) (hmn : ms.length = mn)
    (hown : w.ownsRow base E 1 v us.length us) (hs : SrcV w p ms) (h1 : ∀ u ∈ ms, u.oneCell' = true) (hl : us.length + ms.length ≤ 65536) (hb : base ≤ w.heap.size)
    (h : ∀ q k w', w'.ownsRow base E 1 (.slice q (us ++ ms).length k) (us ++ ms).length (us ++ ms) → w.grownBy w' v.ownBlock → ((Value.slice q (us ++ ms).length k).ownBlock = v.ownBlock ∨ (Value.slice q (us ++ ms).length k).ownBlock = some w.heap.size) → K (a.put o.dst (.slice q (us ++ ms).length k)) w') :
    if Region.wanted o (yielded ops a.tmps) = true then Oper.wp Tryz.prog o a w K Q else F := by
  subst hmn
  have hw : Region.wanted o (yielded ops a.tmps) = true := by simp [Region.wanted, hgd]
  rw [if_pos hw]
  obtain ⟨q, k, w', hrun, h2, h3, h4⟩ := run_app1 hE (w := w) o.type hown hs h1 hl hb (c := c)
  unfold Oper.wp execOp
  simp only [ho, resolve, invoke, builtin, Sem.run_bind, Sem.run_pure, Result.andThen_ok, List.map_toArray, List.map_cons, List.map_nil, hv, hx, hrun]
  exact h q k w' h2 h3 h4
/-- a block of one cell, just made: what is to be appended -/
theorem srcV_one (w : World) (u : Value) (t : TypeId) : SrcV (w.alloc (.cells #[u] t)) (some ⟨w.heap.size, 0, none⟩) [u] :=
  .inr ⟨_, rfl, fun j x hj => by
    rw [addr_add]
    cases j with
    | zero => simp at hj; subst hj; rw [World.cell?_alloc_at _ _ _ _ (by simp)]; rfl
    | succ j => simp at hj⟩
theorem Below.grownK {S : List Nat} {w w' : World} {r : Option Nat} (h : w.grownBy w' r) (hr : ∀ g, r = some g → g ∈ S ∨ w.heap.size ≤ g) : Keep S w w' :=
  ⟨h.os, h.tape, h.output, h.size, fun k hk hn => h.block k hk fun e => by rcases hr k e.symm with q | q; (· exact hn q); (· omega)⟩

/-- the block of a slice of the call's own -/
def ownX (v : Value) : List Nat := v.ownBlock.toList
theorem ownX_mem {v : Value} {g : Nat} : g ∈ ownX v ↔ v.ownBlock = some g := by unfold ownX; cases v.ownBlock <;> simp [eq_comm]
theorem ownX_ge {w : World} {B : Nat} {E : TypeId} {s : Nat} {v : Value} {n : Nat} {xs : List Value} (h : w.ownsRow B E s v n xs) {g : Nat} (hg : g ∈ ownX v) : B ≤ g ∧ g < w.heap.size := h.lt g (ownX_mem.1 hg)
theorem app_keep {w w' : World} {v : Value} (hg : w.grownBy w' v.ownBlock) : Keep (ownX v) w w' := Below.grownK hg fun g e => .inl (ownX_mem.2 e)
theorem app_own {w : World} {v v' : Value} (ho : v'.ownBlock = v.ownBlock ∨ v'.ownBlock = some w.heap.size) : ∀ y ∈ ownX v', y ∈ ownX v ∨ w.heap.size ≤ y := by
  intro y hy
  rw [ownX_mem] at hy ⊢
  rcases ho with e | e
  · exact .inl (e ▸ hy)
  · rw [e] at hy; injection hy with hy; exact .inr (by omega)
theorem own_keep {S : List Nat} {w w' : World} {B : Nat} {E : TypeId} {s : Nat} {v : Value} {n : Nat} {xs : List Value} (h : w.ownsRow B E s v n xs) (k : Keep S w w') (hs : ∀ x ∈ S, x ∉ ownX v) : w'.ownsRow B E s v n xs := by
  refine ⟨h.1, ?_⟩
  have hlt := h.lt
  rcases h.2 with hn | ⟨g, cap, cur, rfl, hb, hgg, rest⟩
  · exact .inl hn
  · exact .inr ⟨g, cap, cur, rfl, hb, (k.block g (hlt g rfl).2 fun q => hs g q (ownX_mem.2 rfl)).trans hgg, rest⟩

/-- a block in a local variable, or behind a pointer: what its cells hold; they may be written -/
structure LocN (w : World) (b : Nat) (us : List Value) : Prop where
  lt : b < w.heap.size
  c : ∀ j u, us[j]? = some u → w.cell? ⟨b, j, none⟩ = some u
  f : ∀ j, j < us.length → w.frozen? ⟨b, j, none⟩ = false
theorem LocN.keep {S : List Nat} {w w' : World} {b : Nat} {us : List Value} (h : LocN w b us) (k : Keep S w w') (hb : b ∉ S) : LocN w' b us :=
  ⟨Nat.lt_of_lt_of_le h.lt k.size, fun j u hj => (k.cell h.lt hb).trans (h.c j u hj), fun j hj => (k.frozen h.lt hb).trans (h.f j hj)⟩
theorem LocN.below {w w' : World} {b : Nat} {us : List Value} (h : LocN w b us) {n : Nat} (k : Below n w w') (hb : b < n) : LocN w' b us :=
  ⟨Nat.lt_of_lt_of_le h.lt k.size, fun j u hj => (k.cell (p := ⟨b, j, none⟩) hb).trans (h.c j u hj), fun j hj => (k.frozen (p := ⟨b, j, none⟩) hb).trans (h.f j hj)⟩
theorem LocN.go {w w' : World} {b : Nat} {us : List Value} (h : LocN w b us) (k : Below w.heap.size w w') : LocN w' b us := h.below k h.lt
theorem LocN.new (w : World) (us : List Value) (t : TypeId) : LocN (w.alloc (.cells us.toArray t)) w.heap.size us :=
  ⟨by simp, fun j u hj => by rw [World.cell?_alloc_at _ _ _ _ (by simp)]; simpa using hj, fun j hj => World.frozen?_alloc_at _ _ _ _ rfl⟩
theorem LocN.store {w : World} {b : Nat} {us : List Value} (h : LocN w b us) (i : Nat) (v : Value) (hi : i < us.length) : LocN (w.setCell ⟨b, i, none⟩ v) b (us.set i v) := by
  refine ⟨by simpa [World.setCell] using h.lt, fun j u hj => ?_, fun j hj => by rw [set_frozen]; exact h.f j (by simpa using hj)⟩
  by_cases e : i = j
  · subst e
    rw [List.getElem?_set_self hi] at hj
    injection hj with hj
    subst hj
    obtain ⟨x, hx⟩ : ∃ x, us[i]? = some x := ⟨us[i], List.getElem?_eq_getElem _⟩
    exact set_cell_same _ (h.c i x hx)
  · rw [List.getElem?_set_ne e] at hj
    rw [set_cell_other _ e]
    exact h.c j u hj
end Go.Proofs.YtigginpcokfihaaGreatDoor
