/- A cache of slabs in memory. -/
import Derived.Test.YtcokmiidgdmdlaaGreatDoorZTake
import Derived.Test.YtcokmiidgdmdlaaGreatDoorZPl
namespace Go.Proofs.YtcokmiidgdmdlaaGreatDoor
open Go.RowKit Go.Maps
set_option linter.unusedSimpArgs false
set_option linter.unusedVariables false

def bools (T : List Bool) : List Value := T.map Value.bool
theorem bools_length (T : List Bool) : (bools T).length = T.length := by simp [bools]
theorem bools_get {T : List Bool} {j : Nat} {b : Bool} (h : T[j]? = some b) : (bools T)[j]? = some (.bool b) := by simp [bools, h]
theorem bools_set (T : List Bool) (k : Nat) (b : Bool) : bools (T.set k b) = (bools T).set k (.bool b) := by simp [bools, List.map_set]
/-- slabs lie behind pointers: a slab's block, and that of its objects -/
abbrev SA := List (Nat × Nat)
def sptrs (A : SA) : List Value := A.map fun p => .pointer (some ⟨p.1, 0, none⟩)
theorem sptrs_length (A : SA) : (sptrs A).length = A.length := by simp [sptrs]
theorem sptrs_get {A : SA} {j : Nat} {p : Nat × Nat} (h : A[j]? = some p) : (sptrs A)[j]? = some (.pointer (some ⟨p.1, 0, none⟩)) := by simp [sptrs, h]
theorem sptrs_one (A : SA) : ∀ u ∈ sptrs A, u.oneCell' = true := by
  intro u hu
  obtain ⟨p, _, rfl⟩ := List.mem_map.1 hu
  rfl
theorem elSlab : El 147 160 (.pointer none) 8 := ⟨Tryz.underlying147, by kernel_rfl, rfl, by omega⟩

/-- a slab's five cells -/
def slabCells (s : Sl) (gt : Nat) : List Value := [.int .i64 s.nd, .int .i64 s.pg, .int .i64 0, .slice (some ⟨gt, 0, none⟩) s.T.length s.T.length, .int .i64 (manyS s)]
/-- a slab in memory -/
def SlabB (w : World) (p : Nat × Nat) (s : Sl) : Prop := LocN w p.1 (slabCells s p.2) ∧ LocN w p.2 (bools s.T)
/-- the blocks of slabs -/
def ay (A : SA) : List Nat := A.flatMap fun p => [p.1, p.2]
theorem ay_mem {A : SA} {y : Nat} : y ∈ ay A ↔ ∃ p ∈ A, y = p.1 ∨ y = p.2 := by simp [ay]
/-- the blocks that a cache writes: its own, its slice's, its slabs' -/
def cay (pc : Nat) (v : Value) (A : SA) : List Nat := pc :: (ownX v ++ ay A)
/-- block pc is a cache: of zone pz, of objects of e bytes -/
structure CacB (X : List Nat) (B : Nat) (w : World) (pc pz e : Nat) (v : Value) (A : SA) (C : List Sl) : Prop where
  c : LocN w pc [.pointer (some ⟨pz, 0, none⟩), .int .i64 e, v]
  row : w.ownsRow B 160 1 v C.length (sptrs A)
  len : A.length = C.length
  sl : ∀ (i : Nat) (p : Nat × Nat) (s : Sl), A[i]? = some p → C[i]? = some s → SlabB w p s
  mem : ∀ y ∈ cay pc v A, y ∈ X
  nd : (cay pc v A).Nodup
  lim : ∀ y ∈ cay pc v A, B ≤ y ∧ y < w.heap.size
section
variable {X Y S : List Nat} {B : Nat} {w w' : World} {pc pz e : Nat} {v : Value} {A : SA} {C : List Sl}
theorem SlabB.keep {p : Nat × Nat} {s : Sl} (h : SlabB w p s) (k : Keep S w w') (h1 : p.1 ∉ S) (h2 : p.2 ∉ S) : SlabB w' p s := ⟨h.1.keep k h1, h.2.keep k h2⟩
theorem CacB.keep (h : CacB X B w pc pz e v A C) (k : Keep S w w') (hs : ∀ s ∈ S, s ∉ cay pc v A) : CacB X B w' pc pz e v A C :=
  ⟨h.c.keep k (fun q => hs _ q (by simp [cay])), own_keep h.row k (fun x hx q => hs x hx (by simp [cay, q])), h.len, fun i p s hp hq => (h.sl i p s hp hq).keep k (fun q => hs _ q (by
    unfold cay; exact List.mem_cons_of_mem _ (List.mem_append_right _ (ay_mem.2 ⟨p, List.mem_of_getElem? hp, .inl rfl⟩)))) (fun q => hs _ q (by
    unfold cay; exact List.mem_cons_of_mem _ (List.mem_append_right _ (ay_mem.2 ⟨p, List.mem_of_getElem? hp, .inr rfl⟩)))), h.mem, h.nd, fun y hy => ⟨(h.lim y hy).1, Nat.lt_of_lt_of_le (h.lim y hy).2 k.size⟩⟩
theorem CacB.below (h : CacB X B w pc pz e v A C) (k : Below w.heap.size w w') : CacB X B w' pc pz e v A C := h.keep (Keep.of (S := []) k) (fun s q => by cases q)
theorem CacB.more (h : CacB X B w pc pz e v A C) (hX : ∀ x ∈ X, x ∈ Y) : CacB Y B w pc pz e v A C := ⟨h.c, h.row, h.len, h.sl, fun y hy => hX y (h.mem y hy), h.nd, h.lim⟩
theorem CacB.at (h : CacB X B w pc pz e v A C) {i : Nat} {s : Sl} (hs : C[i]? = some s) : ∃ p, A[i]? = some p ∧ SlabB w p s ∧ p.1 ∈ cay pc v A ∧ p.2 ∈ cay pc v A := by
  have hl := (List.getElem?_eq_some_iff.1 hs).1
  obtain ⟨p, hp⟩ : ∃ p, A[i]? = some p := ⟨A[i]'(by rw [h.len]; exact hl), List.getElem?_eq_getElem _⟩
  have hm := List.mem_of_getElem? hp
  exact ⟨p, hp, h.sl i p s hp hs, List.mem_cons_of_mem _ (List.mem_append_right _ (ay_mem.2 ⟨p, hm, .inl rfl⟩)), List.mem_cons_of_mem _ (List.mem_append_right _ (ay_mem.2 ⟨p, hm, .inr rfl⟩))⟩
/-- the slice of slabs, as it reads -/
theorem CacB.form (h : CacB X B w pc pz e v A C) : ∃ q k, v = .slice q C.length k ∧ C.length ≤ k ∧ k ≤ maxLen ∧ ∀ j p, A[j]? = some p → ∃ g, q = some ⟨g, 0, none⟩ ∧ g < w.heap.size ∧ w.cell? ⟨g, j, none⟩ = some (.pointer (some ⟨p.1, 0, none⟩)) := by
  have ho := h.row
  have hln := h.len
  rcases h.row.2 with ⟨rfl, h3⟩ | ⟨g, cap, cur, rfl, hg, hh, hcap, hmax, _⟩
  · refine ⟨none, 0, by rw [h3], by omega, by unfold maxLen; omega, fun j p hj => ?_⟩
    have := (List.getElem?_eq_some_iff.1 hj).1
    omega
  · refine ⟨some ⟨g, 0, none⟩, cap, rfl, hcap, hmax, fun j p hj => ⟨g, rfl, (ho.lt g rfl).2, ?_⟩⟩
    have hlt := (List.getElem?_eq_some_iff.1 hj).1
    rw [ho.cellAt j (by omega)]
    exact sptrs_get hj
theorem nodup_ay {A : SA} (h : (ay A).Nodup) {i j : Nat} {p r : Nat × Nat} (hp : A[i]? = some p) (hr : A[j]? = some r) (hne : i ≠ j) : p.1 ≠ r.1 ∧ p.1 ≠ r.2 ∧ p.2 ≠ r.1 ∧ p.2 ≠ r.2 := by
  induction A generalizing i j with
  | nil => simp at hp
  | cons a A ih =>
    simp only [ay, List.flatMap_cons] at h
    obtain ⟨n1, n2, n3⟩ := List.nodup_append.1 h
    cases i with
    | zero =>
      cases j with
      | zero => omega
      | succ j =>
        simp at hp hr
        subst hp
        have hm := List.mem_of_getElem? hr
        have m1 : r.1 ∈ A.flatMap fun p => [p.1, p.2] := ay_mem.2 ⟨r, hm, .inl rfl⟩
        have m2 : r.2 ∈ A.flatMap fun p => [p.1, p.2] := ay_mem.2 ⟨r, hm, .inr rfl⟩
        exact ⟨n3 _ (by simp) _ m1, n3 _ (by simp) _ m2, n3 _ (by simp) _ m1, n3 _ (by simp) _ m2⟩
    | succ i =>
      cases j with
      | zero =>
        simp at hp hr
        subst hr
        have hm := List.mem_of_getElem? hp
        have m1 : p.1 ∈ A.flatMap fun p => [p.1, p.2] := ay_mem.2 ⟨p, hm, .inl rfl⟩
        have m2 : p.2 ∈ A.flatMap fun p => [p.1, p.2] := ay_mem.2 ⟨p, hm, .inr rfl⟩
        exact ⟨fun q => n3 _ (by simp) _ m1 q.symm, fun q => n3 _ (by simp) _ m1 q.symm, fun q => n3 _ (by simp) _ m2 q.symm, fun q => n3 _ (by simp) _ m2 q.symm⟩
      | succ j => exact ih n2 (by simpa using hp) (by simpa using hr) (by omega)
theorem nodup_pair {A : SA} (h : (ay A).Nodup) {i : Nat} {p : Nat × Nat} (hp : A[i]? = some p) : p.1 ≠ p.2 := by
  induction A generalizing i with
  | nil => simp at hp
  | cons a A ih =>
    simp only [ay, List.flatMap_cons] at h
    obtain ⟨n1, n2, _⟩ := List.nodup_append.1 h
    cases i with
    | zero => simp at hp; subst hp; simpa using n1
    | succ i => exact ih n2 (by simpa using hp)
theorem CacB.nday (h : CacB X B w pc pz e v A C) : (ay A).Nodup := (List.nodup_append.1 (List.nodup_cons.1 h.nd).2).2.1
/-- one slab's two blocks written -/
theorem CacB.use (h : CacB X B w pc pz e v A C) {i : Nat} {p : Nat × Nat} (hp : A[i]? = some p) {s : Sl} (hs : SlabB w' p s) (k : Keep [p.1, p.2] w w') : CacB X B w' pc pz e v A (C.set i s) := by
  have hm := List.mem_of_getElem? hp
  have a1 : p.1 ∈ ay A := ay_mem.2 ⟨p, hm, .inl rfl⟩
  have a2 : p.2 ∈ ay A := ay_mem.2 ⟨p, hm, .inr rfl⟩
  obtain ⟨n0, n1⟩ := List.nodup_cons.1 h.nd
  obtain ⟨_, n2, n3⟩ := List.nodup_append.1 n1
  have npc : pc ∉ [p.1, p.2] := fun q => by
    simp at q
    rcases q with q | q
    · exact n0 (List.mem_append_right _ (q ▸ a1))
    · exact n0 (List.mem_append_right _ (q ▸ a2))
  have ho : w'.ownsRow B 160 1 v C.length (sptrs A) := own_keep h.row k fun x hx q => by
    simp at hx
    rcases hx with rfl | rfl
    · exact n3 _ q _ a1 rfl
    · exact n3 _ q _ a2 rfl
  refine ⟨h.c.keep k npc, by rw [List.length_set]; exact ho, by simpa using h.len, fun j r z hr hz => ?_, h.mem, h.nd, fun y hy => ⟨(h.lim y hy).1, Nat.lt_of_lt_of_le (h.lim y hy).2 k.size⟩⟩
  by_cases e : i = j
  · subst e
    rw [hp] at hr; obtain rfl := Option.some.inj hr
    rw [List.getElem?_set_self (by rw [← h.len]; exact (List.getElem?_eq_some_iff.1 hp).1)] at hz
    obtain rfl := Option.some.inj hz
    exact hs
  · rw [List.getElem?_set_ne e] at hz
    obtain ⟨q1, q2, q3, q4⟩ := nodup_ay n2 hr hp (by omega)
    exact (h.sl j r z hr hz).keep k (by simp; exact ⟨q1, q2⟩) (by simp; exact ⟨q3, q4⟩)
end
end Go.Proofs.YtcokmiidgdmdlaaGreatDoor
