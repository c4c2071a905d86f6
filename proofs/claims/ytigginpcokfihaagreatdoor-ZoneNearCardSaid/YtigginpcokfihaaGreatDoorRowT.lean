/- A slice of blocks that is read and cut; append of one to a slice of the call's own. -/
import Derived.Test.YtigginpcokfihaaGreatDoorRowS
import Derived.Maps.AppendAt
import Derived.OwnWalk
namespace Go.Proofs.YtigginpcokfihaaGreatDoor
open Go.RowKit
set_option linter.unusedSimpArgs false

def RowC (w : World) (g : Nat) (l : List (Int × Int)) : Prop := ∀ j a k, l[j]? = some (a, k) → w.cell? ⟨g, j * 2, none⟩ = some (.int .i64 a) ∧ w.cell? ⟨g, j * 2 + 1, none⟩ = some (.int .i64 k)
/-- v reads as these blocks of pages; it lies from block number 'base' on -/
def RowT (base : Nat) (w : World) (v : Value) (l : List (Int × Int)) : Prop :=
  (v = .slice none 0 0 ∧ l = []) ∨ ∃ g cap, v = .slice (some ⟨g, 0, none⟩) l.length cap ∧ l.length ≤ cap ∧ cap ≤ maxLen ∧ base ≤ g ∧ g < w.heap.size ∧ RowC w g l
theorem OwnB.rowT {w w' : World} {v : Value} {l : List (Int × Int)} (h : OwnB w w' v l) : RowT w.heap.size w' v l := by
  obtain ⟨ho, _⟩ := h
  have ho' := ho
  obtain ⟨_, h2⟩ := ho
  rcases h2 with ⟨rfl, h3⟩ | ⟨g, cap, cur, rfl, hg, hh, hcap, hmax, _⟩
  · refine .inl ⟨rfl, ?_⟩
    cases l with
    | nil => rfl
    | cons b r => simp at h3
  · refine .inr ⟨g, cap, rfl, hcap, hmax, hg, (ho'.lt g rfl).2, fun j a k hj => ?_⟩
    have hlt : j < l.length := (List.getElem?_eq_some_iff.1 hj).1
    obtain ⟨e1, e2⟩ := encB_get l j a k hj
    rw [ho'.cellAt (j * 2) (by omega), ho'.cellAt (j * 2 + 1) (by omega)]
    exact ⟨e1, e2⟩
theorem RowC.keep {S : List Nat} {w w' : World} {g : Nat} {l : List (Int × Int)} (h : RowC w g l) (k : Keep S w w') (hg : g < w.heap.size) (hn : g ∉ S) : RowC w' g l := fun j a b hj => by
  rw [k.cell hg hn, k.cell hg hn]; exact h j a b hj
theorem RowC.below {w w' : World} {g n : Nat} {l : List (Int × Int)} (h : RowC w g l) (k : Below n w w') (hg : g < n) : RowC w' g l := fun j a b hj => by
  rw [k.cell (p := ⟨g, j * 2, none⟩) hg, k.cell (p := ⟨g, j * 2 + 1, none⟩) hg]; exact h j a b hj
theorem RowT.keep {S : List Nat} {base : Nat} {w w' : World} {v : Value} {l : List (Int × Int)} (h : RowT base w v l) (k : Keep S w w') (hs : ∀ s ∈ S, s < base) : RowT base w' v l := by
  rcases h with h | ⟨g, cap, h1, h2, h3, h4, h5, h6⟩
  · exact .inl h
  · exact .inr ⟨g, cap, h1, h2, h3, h4, Nat.lt_of_lt_of_le h5 k.size, h6.keep k h5 fun q => by have := hs g q; omega⟩
theorem RowT.below {base : Nat} {w w' : World} {v : Value} {l : List (Int × Int)} (h : RowT base w v l) (k : Below w.heap.size w w') : RowT base w' v l := h.keep (Keep.of (S := []) k) (fun _ q => by cases q)
theorem RowT.mono {base base' : Nat} {w : World} {v : Value} {l : List (Int × Int)} (h : RowT base w v l) (hb : base' ≤ base) : RowT base' w v l := by
  rcases h with h | ⟨g, cap, h1, h2, h3, h4, h5⟩
  · exact .inl h
  · exact .inr ⟨g, cap, h1, h2, h3, by omega, h5⟩
theorem RowT.rowB {base : Nat} {w : World} {v : Value} {l : List (Int × Int)} (h : RowT base w v l) : RowB w.heap.size w v l := by
  rcases h with ⟨h1, h2⟩ | ⟨g, cap, h1, h2, h3, h4, h5, h6⟩
  · exact .inl ⟨h1, h2⟩
  · exact .inr ⟨g, cap, h1, by omega, h5, Nat.le_refl _, h6⟩

theorem encB_append (l m : List (Int × Int)) : encB (l ++ m) = encB l ++ encB m := by simp [encB]
theorem encB_one (l : List (Int × Int)) : ∀ u ∈ encB l, u.oneCell' = true := by
  intro u hu
  simp only [encB, List.mem_flatMap] at hu
  obtain ⟨x, _, hx⟩ := hu
  simp at hx
  rcases hx with rfl | rfl <;> rfl
theorem encB_cells {w : World} {g o : Nat} : ∀ {l : List (Int × Int)}, (∀ j a k, l[j]? = some (a, k) → w.cell? ⟨g, o + j * 2, none⟩ = some (.int .i64 a) ∧ w.cell? ⟨g, o + j * 2 + 1, none⟩ = some (.int .i64 k)) → ∀ j u, (encB l)[j]? = some u → w.cell? ((⟨g, o, none⟩ : Addr).add j) = some u := by
  intro l h j u hu
  have hl : j < (encB l).length := (List.getElem?_eq_some_iff.1 hu).1
  rw [encB_length] at hl
  obtain ⟨p, hp⟩ : ∃ p, l[j / 2]? = some p := ⟨l[j / 2]'(by omega), List.getElem?_eq_getElem _⟩
  obtain ⟨a, k⟩ := p
  obtain ⟨e1, e2⟩ := encB_get l _ a k hp
  obtain ⟨h1, h2⟩ := h _ a k hp
  have had : (⟨g, o, none⟩ : Addr).add j = ⟨g, o + j, none⟩ := by
    unfold Addr.add
    split
    · rename_i e; rw [e]; rfl
    · rfl
  rw [had]
  have : j = j / 2 * 2 ∨ j = j / 2 * 2 + 1 := by omega
  rcases this with e | e
  · rw [e] at hu ⊢
    rw [e1] at hu
    rw [← Option.some.inj hu]; exact h1
  · rw [e] at hu ⊢
    rw [e2] at hu
    rw [← Option.some.inj hu, ← Nat.add_assoc]; exact h2
/-- what is appended: nothing (of a nil slice, or of one of length 0), or blocks that lie from a place on -/
def Src (w : World) (p : Option Addr) (m : List (Int × Int)) : Prop :=
  (p = none ∧ m = []) ∨ ∃ g o, p = some ⟨g, o, none⟩ ∧ ∀ j a k, m[j]? = some (a, k) → w.cell? ⟨g, o + j * 2, none⟩ = some (.int .i64 a) ∧ w.cell? ⟨g, o + j * 2 + 1, none⟩ = some (.int .i64 k)

/-- append of a slice of blocks to one of the call's own -/
theorem run_app {w : World} (ty : TypeId) {base : Nat} {v : Value} {l : List (Int × Int)} (hown : w.ownsRow base 39 2 v l.length (encB l)) {p : Option Addr} {c : Nat} {m : List (Int × Int)} (hs : Src w p m) (hl : l.length + m.length ≤ 65536) (hb : base ≤ w.heap.size) :
    ∃ v' w', (Builtin.append_ #[75, 75] ty #[v, .slice p m.length c]).run Tryz.prog w = .ok v' w' ∧ w'.ownsRow base 39 2 v' (l ++ m).length (encB (l ++ m)) ∧ w.grownBy w' v.ownBlock := by
  obtain ⟨i0, hi, hz0, hz1, hz2⟩ := info_parts infoB
  have ht := Tryz.underlying75
  rcases hs with ⟨rfl, rfl⟩ | ⟨g, o, rfl, hc⟩
  · refine ⟨v, w, ?_, by simpa using hown, ⟨rfl, rfl, rfl, Nat.le_refl _, fun _ _ _ => rfl⟩⟩
    rcases hown.2 with ⟨rfl, _⟩ | ⟨g, cap, cur, rfl, _, _, hnc, _⟩
    · simp [Builtin.append_, run_underlying ht, sizeOf, typeInfo, hi, Builtin.lenOf, Builtin.firstCells]
    · simp [Builtin.append_, run_underlying ht, sizeOf, typeInfo, hi, Builtin.lenOf, Builtin.firstCells, hnc, storeCells]
  · obtain ⟨v', w', hrun, h2, h3, _, _⟩ := run_append_own_at (P := Tryz.prog) w base 75 ty 39 i0 (.agg #[.int .i64 0, .int .i64 0]) 2 16 ht hi hz0 hz1 hz2 rfl (by omega) v l.length (encB l) hown ⟨g, o, none⟩ m.length c (encB m)
      (by rw [encB_length]; omega) (encB_cells hc) (encB_one m) (by unfold maxLen; omega) (by omega) hb
    exact ⟨v', w', hrun, by rw [List.length_append, encB_append]; exact h2, h3⟩
theorem wpList_app {base : Nat} {v : Value} {l m : List (Int × Int)} {w : World} {p : Option Addr} {c : Nat} {ops : Array Oper} {rest : List Oper} {o : Oper} {a : Act} {Q : Exit → Act → World → Prop} (hgd : o.guard = none) (s x : Operand)
    (ho : o.op = .call { callee := .builtin .append, args := #[s, x], argTypes := #[75, 75] }) (hv : a.eval s = v) (mn : Nat) (hx : a.eval x = .slice p mn c) (hmn : m.length = mn)
    (hown : w.ownsRow base 39 2 v l.length (encB l)) (hs : Src w p m) (hl : l.length + m.length ≤ 65536) (hb : base ≤ w.heap.size)
    (h : ∀ v' w', w'.ownsRow base 39 2 v' (l ++ m).length (encB (l ++ m)) → w.grownBy w' v.ownBlock → wpList Tryz.prog ops Q rest (a.put o.dst v') w') : wpList Tryz.prog ops Q (o :: rest) a w := by
  subst hmn
  refine wpList_plain hgd fun K hK => ?_
  obtain ⟨v', w', hrun, h2, h3⟩ := run_app (w := w) o.type hown hs hl hb (c := c)
  unfold Oper.wp execOp
  simp only [ho, resolve, invoke, builtin, Sem.run_bind, Sem.run_pure, Result.andThen_ok, List.map_toArray, List.map_cons, List.map_nil, hv, hx, hrun]
  exact hK _ _ (h v' w' h2 h3)
end Go.Proofs.YtigginpcokfihaaGreatDoor
