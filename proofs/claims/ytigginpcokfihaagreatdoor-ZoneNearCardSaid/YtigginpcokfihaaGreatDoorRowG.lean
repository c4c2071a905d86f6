/- A slice of structs that came in, of any form: what it reads as. -/
import Derived.Test.YtigginpcokfihaaGreatDoorKeep
import Derived.Test.YtigginpcokfihaaGreatDoorChecked
import Derived.Deep.Slices
import Derived.ChangeSame
namespace Go.Proofs.YtigginpcokfihaaGreatDoor
open Go.RowKit Go.ChangeShapes
set_option linter.unusedSimpArgs false

/-- a number fits -/
def Fit64 (x : Int) : Prop := -9223372036854775808 ≤ x ∧ x ≤ 9223372036854775807
theorem fit64_wf {x : Int} (h : (Lit.int .i64 x).wf = true) : Fit64 x := by
  simp [Lit.wf, IntKind.min, IntKind.max, IntKind.signed, IntKind.bits] at h
  exact ⟨by omega, by omega⟩
/-- a slice of structs of s cells that came in -/
def RowG {α : Type} (s : Nat) (cells : α → List Value) (fits : α → Prop) (w : World) (v : Value) (xs : List α) : Prop :=
  ∃ p cap, v = .slice p xs.length cap ∧ (xs.length ≤ cap ∧ cap ≤ maxLen) ∧ ∀ j x, xs[j]? = some x → fits x ∧ ∃ g off, p = some ⟨g, off, none⟩ ∧ g < w.heap.size ∧ ∀ i u, (cells x)[i]? = some u → w.cell? ⟨g, off + j * s + i, none⟩ = some u

theorem add_off (b off i : Nat) : (⟨b, off, none⟩ : Addr).add i = ⟨b, off + i, none⟩ := by
  unfold Addr.add
  split
  · rename_i h; rw [h]; rfl
  · rfl
theorem len2 {α : Type} {l : List α} (h : l.length = 2) : ∃ a b, l = [a, b] := by
  match l, h with
  | [a, b], _ => exact ⟨a, b, rfl⟩
theorem len3 {α : Type} {l : List α} (h : l.length = 3) : ∃ a b c, l = [a, b, c] := by
  match l, h with
  | [a, b, c], _ => exact ⟨a, b, c, rfl⟩
theorem len4 {α : Type} {l : List α} (h : l.length = 4) : ∃ a b c d, l = [a, b, c, d] := by
  match l, h with
  | [a, b, c, d], _ => exact ⟨a, b, c, d, rfl⟩
theorem len5 {α : Type} {l : List α} (h : l.length = 5) : ∃ a b c d e, l = [a, b, c, d, e] := by
  match l, h with
  | [a, b, c, d, e], _ => exact ⟨a, b, c, d, e, rfl⟩
theorem len6 {α : Type} {l : List α} (h : l.length = 6) : ∃ a b c d e f, l = [a, b, c, d, e, f] := by
  match l, h with
  | [a, b, c, d, e, f], _ => exact ⟨a, b, c, d, e, f, rfl⟩
theorem len7 {α : Type} {l : List α} (h : l.length = 7) : ∃ a b c d e f g, l = [a, b, c, d, e, f, g] := by
  match l, h with
  | [a, b, c, d, e, f, g], _ => exact ⟨a, b, c, d, e, f, g, rfl⟩
theorem len8 {α : Type} {l : List α} (h : l.length = 8) : ∃ a b c d e f g i, l = [a, b, c, d, e, f, g, i] := by
  match l, h with
  | [a, b, c, d, e, f, g, i], _ => exact ⟨a, b, c, d, e, f, g, i, rfl⟩

theorem rowG_of {α : Type} {H : Type} {enc : TypeId × Value → H} {W : World} {base : Nat} {spare : Nat → Bool} {held : Bool} {fuel : Nat} {v : Value} {x : DataW H × List MemPlace} {T E : TypeId} {s : Nat} {cells : α → List Value} {fits : α → Prop}
    (ht : Tryz.prog.underlying T = some (.slice E)) (hs : Tryz.prog.cellsOf E = s) (hs0 : 0 < s)
    (each : ∀ (n : Nat) (cs : List Value) (y : DataW H × List MemPlace), cs.length = s → DataW.trod enc Tryz.prog W base spare held n E cs = some y → ∃ q : α, cs = cells q ∧ fits q)
    (h : DataW.trod enc Tryz.prog W base spare held fuel T [v] = some x) : ∃ xs, RowG s cells fits W v xs := by
  rcases Go.Deep.open_slice ht h with ⟨hcs, _⟩ | ⟨a, len, cap, m, n, D, Pl, hcs, _, hl, hm, hmm, _, hel⟩
  · have e : v = .slice none 0 0 := by simpa using hcs
    exact ⟨[], none, 0, e, ⟨Nat.le_refl _, Nat.zero_le _⟩, fun j x hj => by simp at hj⟩
  · have e : v = .slice (some a) len cap := by simpa using hcs
    have hlm : len ≤ m := by rw [hmm]; split <;> omega
    have key : ∀ i, i < len → ∃ q : α, fits q ∧ (cells q).length = s ∧ ∀ j u, (cells q)[j]? = some u → W.cell? (a.add (i * s + j)) = some u := by
      intro i hi
      obtain ⟨cs', h1, h2⟩ := hel i (by omega)
      rw [hs] at h1
      obtain ⟨_, hlen, hcell⟩ := World.cells?_some h1
      obtain ⟨q, rfl, hq⟩ := each _ _ _ hlen h2
      refine ⟨q, hq, hlen, fun j u hj => ?_⟩
      have hjl := (List.getElem?_eq_some_iff.1 hj).1
      have := hcell j (by omega)
      rw [Go.Deep.add_add] at this
      rw [this, hj]
    cases len with
    | zero => exact ⟨[], some a, cap, e, ⟨Nat.zero_le _, hm⟩, fun j x hj => by simp at hj⟩
    | succ len =>
      have : Nonempty α := ⟨(key 0 (by omega)).choose⟩
      have ch : ∃ q : Nat → α, ∀ i, i < len + 1 → fits (q i) ∧ (cells (q i)).length = s ∧ ∀ j u, (cells (q i))[j]? = some u → W.cell? (a.add (i * s + j)) = some u := by
        refine ⟨fun i => if hi : i < len + 1 then (key i hi).choose else Classical.choice this, fun i hi => ?_⟩
        simp only [dif_pos hi]
        exact (key i hi).choose_spec
      obtain ⟨q, hq⟩ := ch
      obtain ⟨b, off, spot⟩ := a
      obtain ⟨_, c0, c1⟩ := hq 0 (by omega)
      have h00 := c1 0 _ (List.getElem?_eq_getElem (by omega))
      have hspot : spot = none := by simpa [Addr.add] using World.cell?_spot h00
      subst hspot
      refine ⟨(List.range (len + 1)).map q, some ⟨b, off, none⟩, cap, by simp [e], ⟨by simpa using hl, hm⟩, fun j x hj => ?_⟩
      have hjl : j < len + 1 := by
        have := (List.getElem?_eq_some_iff.1 hj).1
        simpa using this
      rw [List.getElem?_map, List.getElem?_range hjl] at hj
      simp at hj
      subst hj
      obtain ⟨f1, f2, f3⟩ := hq j hjl
      refine ⟨f1, b, off, rfl, ?_, fun i u hi => ?_⟩
      · rw [add_off] at h00
        rcases Nat.lt_or_ge b W.heap.size with r | r
        · exact r
        · simp [World.cell?, Array.getElem?_eq_none r] at h00
      · have := f3 i u hi
        rwa [add_off, ← Nat.add_assoc] at this
theorem RowG.form {α : Type} {s : Nat} {cells : α → List Value} {fits : α → Prop} {w : World} {v : Value} {xs : List α} (h : RowG s cells fits w v xs) (h0 : 0 < xs.length) :
    ∃ g off cap, v = .slice (some ⟨g, off, none⟩) xs.length cap ∧ (xs.length ≤ cap ∧ cap ≤ maxLen) ∧ g < w.heap.size ∧ ∀ j x, xs[j]? = some x → fits x ∧ ∀ i u, (cells x)[i]? = some u → w.cell? ⟨g, off + j * s + i, none⟩ = some u := by
  obtain ⟨p, cap, rfl, hcap, h2⟩ := h
  obtain ⟨_, g, off, rfl, hg, _⟩ := h2 0 _ (List.getElem?_eq_getElem h0)
  refine ⟨g, off, cap, rfl, hcap, hg, fun j x hj => ?_⟩
  obtain ⟨f, g', off', e, _, q⟩ := h2 j x hj
  injection e with e; injection e with ea eb
  subst ea eb
  exact ⟨f, q⟩
end Go.Proofs.YtigginpcokfihaaGreatDoor
