/- A slice of acts (a word, a number, a block of pages) that came in: what it reads as. -/
import Derived.Test.YtcooflachcimbaaDoorKeep
import Derived.Test.YtcooflachcimbaaDoorChecked
import Derived.Deep.Slices
import Derived.ChangeSame
namespace Go.Proofs.YtcooflachcimbaaDoor
open Go.RowKit Go.ChangeShapes

/-- an act's datum -/
structure ActD where
  kind : ByteArray
  n : Int
  a : Int
  k : Int
/-- a number fits -/
def Fit64 (x : Int) : Prop := -9223372036854775808 ≤ x ∧ x ≤ 9223372036854775807
theorem fit64_wf {x : Int} (h : (Lit.int .i64 x).wf = true) : Fit64 x := by
  simp [Lit.wf, IntKind.min, IntKind.max, IntKind.signed, IntKind.bits] at h
  exact ⟨by omega, by omega⟩

/-- a slice of acts that came in: what it reads as -/
def RowA (w : World) (v : Value) (xs : List ActD) : Prop :=
  ∃ p cap, v = .slice p xs.length cap ∧ ∀ j x, xs[j]? = some x → ∃ g off, p = some ⟨g, off, none⟩ ∧ g < w.heap.size ∧ w.cell? ⟨g, off + j * 4, none⟩ = some (.string x.kind) ∧ w.cell? ⟨g, off + j * 4 + 1, none⟩ = some (.int .i64 x.n) ∧ w.cell? ⟨g, off + j * 4 + 2, none⟩ = some (.int .i64 x.a) ∧ w.cell? ⟨g, off + j * 4 + 3, none⟩ = some (.int .i64 x.k) ∧
    x.kind.size ≤ maxLen ∧ Fit64 x.n ∧ Fit64 x.a ∧ Fit64 x.k

theorem cells_act : Tryd.prog.cellsOf 71 = 4 := by kernel_rfl
theorem add_off (b off i : Nat) : (⟨b, off, none⟩ : Addr).add i = ⟨b, off + i, none⟩ := by
  unfold Addr.add
  split
  · rename_i h; rw [h]; rfl
  · rfl
theorem len2 {α : Type} {l : List α} (h : l.length = 2) : ∃ a b, l = [a, b] := by
  match l, h with
  | [a, b], _ => exact ⟨a, b, rfl⟩
theorem len3 {α : Type} {l : List α} (h : l.length = 3) : ∃ a b c, l = [a, b, c] := by
  match l, h with
  | [a, b, c], _ => exact ⟨a, b, c, rfl⟩
theorem len4 {α : Type} {l : List α} (h : l.length = 4) : ∃ a b c d, l = [a, b, c, d] := by
  match l, h with
  | [a, b, c, d], _ => exact ⟨a, b, c, d, rfl⟩
theorem rowA_of {H : Type} {enc : TypeId × Value → H} {W : World} {base : Nat} {spare : Nat → Bool} {held : Bool} {fuel : Nat} {v : Value} {x : DataW H × List MemPlace}
    (h : DataW.trod enc Tryd.prog W base spare held fuel 67 [v] = some x) : ∃ xs, RowA W v xs := by
  rcases Go.Deep.open_slice Tryd.underlying67 h with ⟨hcs, _⟩ | ⟨a, len, cap, m, n, D, Pl, hcs, _, hl, hm, hmm, _, hel⟩
  · have e : v = .slice none 0 0 := by simpa using hcs
    exact ⟨[], none, 0, e, fun j x hj => by simp at hj⟩
  · have e : v = .slice (some a) len cap := by simpa using hcs
    have hlm : len ≤ m := by rw [hmm]; split <;> omega
    have each : ∀ i, i < len → ∃ q : ByteArray × Int × Int × Int, W.cell? (a.add (i * 4)) = some (.string q.1) ∧ W.cell? (a.add (i * 4 + 1)) = some (.int .i64 q.2.1) ∧ W.cell? (a.add (i * 4 + 2)) = some (.int .i64 q.2.2.1) ∧ W.cell? (a.add (i * 4 + 3)) = some (.int .i64 q.2.2.2) ∧
        q.1.size ≤ maxLen ∧ Fit64 q.2.1 ∧ Fit64 q.2.2.1 ∧ Fit64 q.2.2.2 := by
      intro i hi
      obtain ⟨cs', h1, h2⟩ := hel i (by omega)
      rw [cells_act] at h1
      obtain ⟨_, hlen, hcell⟩ := World.cells?_some h1
      obtain ⟨ys, k, _, _, _, hxl, hf⟩ := DataW.trod_struct Tryd.underlying71 h2
      obtain ⟨y0, y1, y2, rfl⟩ := len3 (hxl.trans rfl)
      obtain ⟨v0, v1, v2, v3, rfl⟩ := len4 hlen
      have k0 : Tryd.prog.cellsOf 9 = 1 := by kernel_rfl
      have k1 : Tryd.prog.cellsOf 3 = 1 := by kernel_rfl
      have k2 : Tryd.prog.cellsOf 23 = 2 := by kernel_rfl
      have g0 := hf 0 _ rfl
      have g1 := hf 1 _ rfl
      have g2 := hf 2 _ rfl
      simp at g0 g1 g2
      rw [k0] at g0; rw [k1] at g1; rw [k2] at g2
      simp at g0 g1 g2
      obtain ⟨zs, k', _, _, _, hzl, hz⟩ := DataW.trod_struct Tryd.underlying23 g2
      obtain ⟨z0, z1, rfl⟩ := len2 (hzl.trans rfl)
      have u0 := hz 0 _ rfl
      have u1 := hz 1 _ rfl
      simp at u0 u1
      rw [k1] at u0 u1
      simp at u0 u1
      obtain ⟨s, e0, _, s1⟩ := DataW.trod_string Tryd.underlying9 g0
      obtain ⟨n, e1, _, n1⟩ := DataW.trod_int Tryd.underlying3 g1
      obtain ⟨b, e2, _, b1⟩ := DataW.trod_int Tryd.underlying3 u0
      obtain ⟨c, e3, _, c1⟩ := DataW.trod_int Tryd.underlying3 u1
      simp at e0 e1 e2 e3
      subst e0 e1 e2 e3
      have x0 := hcell 0 (by omega)
      have x1 := hcell 1 (by omega)
      have x2 := hcell 2 (by omega)
      have x3 := hcell 3 (by omega)
      rw [Go.Deep.add_add] at x0 x1 x2 x3
      exact ⟨(s, n, b, c), by simpa using x0, by simpa using x1, by simpa using x2, by simpa using x3, s1, fit64_wf n1, fit64_wf b1, fit64_wf c1⟩
    obtain ⟨q, hq⟩ := Go.Deep.choose_lt each
    refine ⟨(List.range len).map fun i => ⟨(q i).1, (q i).2.1, (q i).2.2.1, (q i).2.2.2⟩, some a, cap, by simp [e], fun j x hj => ?_⟩
    have hjl : j < len := by
      have := (List.getElem?_eq_some_iff.1 hj).1
      simpa using this
    rw [List.getElem?_map, List.getElem?_range hjl] at hj
    simp at hj
    subst hj
    obtain ⟨b, off, spot⟩ := a
    have h0 := (hq 0 (by omega)).1
    have hspot : spot = none := by simpa [Addr.add] using World.cell?_spot h0
    subst hspot
    obtain ⟨q0, q1, q2, q3, q4, q5, q6, q7⟩ := hq j hjl
    rw [add_off] at q0 q1 q2 q3
    refine ⟨b, off, rfl, ?_, q0, by simpa [Nat.add_assoc] using q1, by simpa [Nat.add_assoc] using q2, by simpa [Nat.add_assoc] using q3, q4, q5, q6, q7⟩
    rcases Nat.lt_or_ge b W.heap.size with r | r
    · exact r
    · simp [World.cell?, Array.getElem?_eq_none r] at q0
end Go.Proofs.YtcooflachcimbaaDoor
