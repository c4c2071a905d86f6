/- A depot in memory. -/
import Derived.Test.YtcokmiidgdmdlaaGreatDoorSShrink
import Derived.Test.YtcokmiidgdmdlaaGreatDoorSTaken
import Derived.Test.YtcokmiidgdmdlaaGreatDoorDPl
namespace Go.Proofs.YtcokmiidgdmdlaaGreatDoor
open Go.RowKit Go.Maps
set_option linter.unusedSimpArgs false
set_option linter.unusedVariables false

/-- v reads as these objects; it lies in no block of X -/
def RowO (X : List Nat) (w : World) (v : Value) (l : List Ob) : Prop :=
  ∃ p cap, v = .slice p l.length cap ∧ l.length ≤ cap ∧ cap ≤ maxLen ∧ ∀ j a k, l[j]? = some (a, k) → ∃ g off, p = some ⟨g, off, none⟩ ∧ g ∉ X ∧ g < w.heap.size ∧ w.cell? ⟨g, off + j * 2, none⟩ = some (.int .i64 a) ∧ w.cell? ⟨g, off + j * 2 + 1, none⟩ = some (.int .i64 k)
section
variable {X Y S : List Nat} {w w' : World} {v : Value} {l : List Ob}
theorem RowO.nil (X : List Nat) (w : World) : RowO X w (.slice none 0 0) [] := ⟨none, 0, rfl, Nat.le_refl _, Nat.zero_le _, fun j a k hj => by simp at hj⟩
theorem RowO.keep (h : RowO X w v l) (k : Keep S w w') (hs : ∀ s ∈ S, s ∈ X ∨ w.heap.size ≤ s) : RowO X w' v l := by
  obtain ⟨p, cap, h1, h2, h3, h4⟩ := h
  refine ⟨p, cap, h1, h2, h3, fun j a b hj => ?_⟩
  obtain ⟨g, off, e1, e2, e3, e4, e5⟩ := h4 j a b hj
  have hn : g ∉ S := fun q => by
    rcases hs g q with r | r
    · exact e2 r
    · omega
  exact ⟨g, off, e1, e2, Nat.lt_of_lt_of_le e3 k.size, (k.cell e3 hn).trans e4, (k.cell e3 hn).trans e5⟩
theorem RowO.below (h : RowO X w v l) (k : Below w.heap.size w w') : RowO X w' v l := h.keep (Keep.of (S := []) k) (fun _ q => by cases q)
theorem RowO.more (h : RowO X w v l) (hY : ∀ y ∈ Y, y ∈ X ∨ w.heap.size ≤ y) : RowO Y w v l := by
  obtain ⟨p, cap, h1, h2, h3, h4⟩ := h
  refine ⟨p, cap, h1, h2, h3, fun j a b hj => ?_⟩
  obtain ⟨g, off, e1, e2, e3, e4, e5⟩ := h4 j a b hj
  exact ⟨g, off, e1, fun q => by
    rcases hY g q with r | r
    · exact e2 r
    · omega, e3, e4, e5⟩
theorem RowO.sub (h : RowO Y w v l) (hX : ∀ x ∈ X, x ∈ Y) : RowO X w v l := h.more fun y hy => .inl (hX y hy)
/-- the slice cut at its end -/
theorem RowO.cut (h : RowO X w v l) (n : Nat) (hn : n ≤ l.length) : ∃ p cap, v = .slice p l.length cap ∧ RowO X w (.slice p n cap) (l.take n) := by
  obtain ⟨p, cap, h1, h2, h3, h4⟩ := h
  have e : (l.take n).length = n := by rw [List.length_take]; omega
  refine ⟨p, cap, h1, p, cap, by rw [e], by omega, h3, fun j a b hj => ?_⟩
  rw [List.getElem?_take] at hj
  split at hj
  · exact h4 j a b hj
  · cases hj
theorem RowO.isSlice (h : RowO X w v l) : ∃ p cap, v = .slice p l.length cap ∧ l.length ≤ cap ∧ cap ≤ maxLen := by
  obtain ⟨p, cap, h1, h2, h3, _⟩ := h
  exact ⟨p, cap, h1, h2, h3⟩
theorem RowO.at {p : Option Addr} {n cap : Nat} (h : RowO X w (.slice p n cap) l) {j : Nat} {o : Ob} (hj : l[j]? = some o) : ∃ g off, p = some ⟨g, off, none⟩ ∧ g ∉ X ∧ g < w.heap.size ∧ w.cell? ⟨g, off + j * 2, none⟩ = some (.int .i64 o.1) ∧ w.cell? ⟨g, off + j * 2 + 1, none⟩ = some (.int .i64 o.2) := by
  obtain ⟨p', cap', h1, h2, h3, h4⟩ := h
  injection h1 with h1 _ _
  subst h1
  exact h4 j o.1 o.2 hj
theorem own_rowO {base : Nat} (h : w.ownsRow base 72 2 v l.length (encB l)) (hX : ∀ g, v.ownBlock = some g → g ∉ X) : RowO X w v l := by
  have ho := h
  obtain ⟨_, h2⟩ := h
  rcases h2 with ⟨rfl, h3⟩ | ⟨g, cap, cur, rfl, hg, hh, hcap, hmax, _⟩
  · have : l = [] := by
      cases l with
      | nil => rfl
      | cons b r => simp at h3
    subst this
    exact RowO.nil X w
  · refine ⟨some ⟨g, 0, none⟩, cap, rfl, hcap, hmax, fun j a k hj => ⟨g, 0, rfl, hX g rfl, (ho.lt g rfl).2, ?_⟩⟩
    have hlt : j < l.length := (List.getElem?_eq_some_iff.1 hj).1
    obtain ⟨e1, e2⟩ := encB_get l j a k hj
    rw [Nat.zero_add, ho.cellAt (j * 2) (by omega), ho.cellAt (j * 2 + 1) (by omega)]
    exact ⟨e1, e2⟩
end

/-- values of hands: two slices each -/
abbrev HV := List (Value × Value)
def handL (V : HV) : List Value := V.flatMap fun p => [p.1, p.2]
theorem handL_get : ∀ {V : HV} {j : Nat} {p : Value × Value}, V[j]? = some p → (handL V)[j * 2]? = some p.1 ∧ (handL V)[j * 2 + 1]? = some p.2
  | [], j, p, h => by simp at h
  | a :: V, 0, p, h => by simp at h; subst h; simp [handL]
  | a :: V, j + 1, p, h => by
    have ih := handL_get (V := V) (j := j) (p := p) (by simpa using h)
    have e : handL (a :: V) = a.1 :: a.2 :: handL V := by simp [handL]
    rw [e, show (j + 1) * 2 = j * 2 + 1 + 1 from by omega]
    simpa using ih
theorem handL_length (V : HV) : (handL V).length = V.length * 2 := by
  induction V with
  | nil => rfl
  | cons a V ih => simp [handL] at ih ⊢; omega
theorem handL_set : ∀ {V : HV} {j : Nat} (p : Value × Value), j < V.length → handL (V.set j p) = ((handL V).set (j * 2) p.1).set (j * 2 + 1) p.2
  | [], j, p, h => by simp at h
  | a :: V, 0, p, h => by simp [handL]
  | a :: V, j + 1, p, h => by
    have ih := handL_set (V := V) (j := j) p (by simpa using h)
    have e : ∀ U : HV, handL (a :: U) = a.1 :: a.2 :: handL U := fun U => by simp [handL]
    rw [List.set_cons_succ, e, e, show (j + 1) * 2 = j * 2 + 1 + 1 from by omega, ih]
    simp
theorem elPile : El 111 70 (.slice none 0 0) 24 := ⟨Tryz.underlying111, by kernel_rfl, rfl, by omega⟩

/-- the blocks that a depot writes, but for its cache's -/
def day (pd gh : Nat) (vp : Value) : List Nat := pd :: gh :: ownX vp
def xd (pc : Nat) (v : Value) (A : SA) (L : List Nd) (pd gh : Nat) (vp : Value) : List Nat := day pd gh vp ++ (cay pc v A ++ ys L)
/-- a depot in memory: its own blocks -/
structure DepB (X : List Nat) (B : Nat) (w : World) (pd pc gh : Nat) (V : HV) (vp : Value) (U : List Value) (H : List Hd) (P : List (List Ob)) : Prop where
  d : LocN w pd [.pointer (some ⟨pc, 0, none⟩), .slice (some ⟨gh, 0, none⟩) H.length H.length, vp]
  hs : LocN w gh (handL V)
  hl : V.length = H.length
  ho : ∀ (i : Nat) (p : Value × Value) (h : Hd), V[i]? = some p → H[i]? = some h → RowO X w p.1 h.1 ∧ RowO X w p.2 h.2
  row : w.ownsRow B 70 1 vp P.length U
  ul : U.length = P.length
  po : ∀ (i : Nat) (u : Value) (m : List Ob), U[i]? = some u → P[i]? = some m → RowO X w u m
  mem : ∀ y ∈ day pd gh vp, y ∈ X
  nd : (day pd gh vp).Nodup
  lim : ∀ y ∈ day pd gh vp, B ≤ y ∧ y < w.heap.size
/-- a depot in memory, its cache and its zone; X: the blocks that it writes -/
structure CD (B : Nat) (w : World) (X : List Nat) (pd pc pz gh : Nat) (mn lw hi : Int) (O : List (List Int)) (e : Nat) (v : Value) (A : SA) (V : HV) (vp : Value) (U : List Value) (d : De) : Prop where
  x : ∀ y ∈ xd pc v A d.c.L pd gh vp, y ∈ X
  lim : ∀ y ∈ X, B ≤ y ∧ y < w.heap.size
  cs : CS B w pc pz mn lw hi O e X v A d.c
  de : DepB X B w pd pc gh V vp U d.H d.P
  ne : ∀ y ∈ day pd gh vp, y ∉ cay pc v A ∧ y ∉ ys d.c.L
/-- .. some -/
def CDx (B : Nat) (w : World) (X F : List Nat) (pd pc pz gh : Nat) (mn lw hi : Int) (O : List (List Int)) (e : Nat) (d : De) : Prop := ∃ v A V vp U, CD B w X pd pc pz gh mn lw hi O e v A V vp U d ∧ ∀ f ∈ F, f ∈ X ∧ f ∉ xd pc v A d.c.L pd gh vp
section
variable {X Y S F : List Nat} {B : Nat} {w w' : World} {pd pc pz gh e : Nat} {mn lw hi : Int} {O : List (List Int)} {v v' vp vp' : Value} {A A' : SA} {V V' : HV} {U U' : List Value} {d d' : De} {H : List Hd} {P : List (List Ob)} {c c' : Ca}
theorem CS.sub (h : CS B w pc pz mn lw hi O e X v A c) (hY : ∀ y ∈ Y, y ∈ X) (h1 : ∀ y ∈ cay pc v A, y ∈ Y) (h2 : ∀ y ∈ ys c.L, y ∈ Y) : CS B w pc pz mn lw hi O e Y v A c := by
  obtain ⟨qn, kn, qo, ko, z1, z2, z3⟩ := h.z.z
  exact ⟨⟨⟨qn, kn, qo, ko, z1, z2.sub hY, z3.sub hY⟩, h.z.b, h2, fun q => h.z.out (hY _ q), fun x hx q => h.z.outb x hx (hY _ q), h.z.ord, h.z.m0⟩, ⟨h.ch.c, h.ch.row, h.ch.len, h.ch.sl, h1, h.ch.nd, h.ch.lim⟩, h.ne, h.l0⟩
theorem DepB.keep (h : DepB X B w pd pc gh V vp U H P) (k : Keep S w w') (hs : ∀ s ∈ S, s ∉ day pd gh vp ∧ (s ∈ X ∨ w.heap.size ≤ s)) : DepB X B w' pd pc gh V vp U H P :=
  ⟨h.d.keep k fun q => (hs _ q).1 (List.mem_cons_self ..), h.hs.keep k fun q => (hs _ q).1 (List.mem_cons_of_mem _ (List.mem_cons_self ..)), h.hl,
   fun i p g hp hg => ⟨(h.ho i p g hp hg).1.keep k fun s q => (hs s q).2, (h.ho i p g hp hg).2.keep k fun s q => (hs s q).2⟩,
   own_keep h.row k fun s q r => (hs s q).1 (List.mem_cons_of_mem _ (List.mem_cons_of_mem _ r)), h.ul, fun i u m hu hm => (h.po i u m hu hm).keep k fun s q => (hs s q).2, h.mem, h.nd,
   fun y hy => ⟨(h.lim y hy).1, Nat.lt_of_lt_of_le (h.lim y hy).2 k.size⟩⟩
theorem DepB.more (h : DepB X B w pd pc gh V vp U H P) (hY : ∀ y ∈ Y, y ∈ X ∨ w.heap.size ≤ y) (hm : ∀ y ∈ day pd gh vp, y ∈ Y) : DepB Y B w pd pc gh V vp U H P :=
  ⟨h.d, h.hs, h.hl, fun i p g hp hg => ⟨(h.ho i p g hp hg).1.more hY, (h.ho i p g hp hg).2.more hY⟩, h.row, h.ul, fun i u m hu hm' => (h.po i u m hu hm').more hY, hm, h.nd, h.lim⟩
theorem CD.limK (h : CD B w X pd pc pz gh mn lw hi O e v A V vp U d) (k : Keep S w w') : ∀ y ∈ X, B ≤ y ∧ y < w'.heap.size := fun y hy => ⟨(h.lim y hy).1, Nat.lt_of_lt_of_le (h.lim y hy).2 k.size⟩
theorem CD.below (h : CD B w X pd pc pz gh mn lw hi O e v A V vp U d) (k : Below w.heap.size w w') : CD B w' X pd pc pz gh mn lw hi O e v A V vp U d :=
  ⟨h.x, h.limK (Keep.of (S := []) k), h.cs.below k, h.de.keep (Keep.of (S := []) k) (fun _ q => by cases q), h.ne⟩
theorem CD.keep (h : CD B w X pd pc pz gh mn lw hi O e v A V vp U d) (k : Keep S w w') (hs : ∀ s ∈ S, s ∉ X ∧ w.heap.size ≤ s) : CD B w' X pd pc pz gh mn lw hi O e v A V vp U d :=
  h.below (k.below (Nat.le_refl _) fun s q => (hs s q).2)
/-- X but for the foreign blocks -/
def off (X F : List Nat) : List Nat := X.filter fun x => !F.contains x
theorem off_mem {s : Nat} : s ∈ off X F ↔ s ∈ X ∧ s ∉ F := by unfold off; simp
theorem CD.offd (h : CD B w X pd pc pz gh mn lw hi O e v A V vp U d) (hF : ∀ f ∈ F, f ∈ X ∧ f ∉ xd pc v A d.c.L pd gh vp) {s : Nat} (hs : s ∈ xd pc v A d.c.L pd gh vp) : s ∈ off X F := off_mem.2 ⟨h.x s hs, fun q => (hF s q).2 hs⟩
theorem CD.offy (h : CD B w X pd pc pz gh mn lw hi O e v A V vp U d) (hF : ∀ f ∈ F, f ∈ X ∧ f ∉ xd pc v A d.c.L pd gh vp) {s : Nat} (hs : s ∈ day pd gh vp) : s ∈ off X F := h.offd hF (List.mem_append_left _ hs)
theorem CDx.lim (h : CDx B w X F pd pc pz gh mn lw hi O e d) : ∀ x ∈ X, B ≤ x ∧ x < w.heap.size := by
  obtain ⟨v, A, V, vp, U, h, _⟩ := h
  exact h.lim
theorem CDx.below (h : CDx B w X F pd pc pz gh mn lw hi O e d) (k : Below w.heap.size w w') : CDx B w' X F pd pc pz gh mn lw hi O e d := by
  obtain ⟨v, A, V, vp, U, h, hf⟩ := h
  exact ⟨v, A, V, vp, U, h.below k, hf⟩
/-- blocks that are written elsewhere -/
theorem CDx.far (h : CDx B w X F pd pc pz gh mn lw hi O e d) (k : Keep S w w') (hs : ∀ s ∈ S, s ∉ X ∧ B ≤ s) (hz : ∀ s ∈ S, w.heap.size ≤ s) : CDx B w' X F pd pc pz gh mn lw hi O e d := h.below (k.below (Nat.le_refl _) hz)
/-- blocks that are new may be written from now on -/
theorem CD.add (h : CD B w X pd pc pz gh mn lw hi O e v A V vp U d) {w1 : World} (k : Below w.heap.size w w1) (hY : ∀ y ∈ Y, w.heap.size ≤ y ∧ y < w1.heap.size) (hB : B ≤ w.heap.size) : CD B w1 (Y ++ X) pd pc pz gh mn lw hi O e v A V vp U d := by
  have hm : ∀ y ∈ Y ++ X, y ∈ X ∨ w.heap.size ≤ y := fun y hy => by
    rcases List.mem_append.1 hy with q | q
    · exact .inr (hY y q).1
    · exact .inl q
  have h1 : CD B w (Y ++ X) pd pc pz gh mn lw hi O e v A V vp U d → CD B w1 (Y ++ X) pd pc pz gh mn lw hi O e v A V vp U d := fun q => q.below k
  refine ⟨fun y hy => List.mem_append_right _ (h.x y hy), fun y hy => ?_, (h.cs.more (fun x hx => List.mem_append_right _ hx) hm).below k, (h.de.more hm (fun y hy => List.mem_append_right _ (h.de.mem y hy))).keep (Keep.of (S := []) k) (fun _ q => by cases q), h.ne⟩
  rcases List.mem_append.1 hy with q | q
  · exact ⟨Nat.le_trans hB (hY y q).1, (hY y q).2⟩
  · exact ⟨(h.lim y q).1, Nat.lt_of_lt_of_le (h.lim y q).2 k.size⟩
/-- blocks of X that are no depot's were written -/
theorem CD.other (h : CD B w X pd pc pz gh mn lw hi O e v A V vp U d) (k : Keep S w w') (hs : ∀ s ∈ S, (s ∈ X ∨ w.heap.size ≤ s) ∧ s ∉ xd pc v A d.c.L pd gh vp) : CD B w' X pd pc pz gh mn lw hi O e v A V vp U d := by
  have f1 : ∀ s ∈ S, s ∉ day pd gh vp := fun s q r => (hs s q).2 (List.mem_append_left _ r)
  have f2 : ∀ s ∈ S, s ∉ cay pc v A := fun s q r => (hs s q).2 (List.mem_append_right _ (List.mem_append_left _ r))
  have f3 : ∀ s ∈ S, s ∉ ys d.c.L := fun s q r => (hs s q).2 (List.mem_append_right _ (List.mem_append_right _ r))
  exact ⟨h.x, h.limK k, h.cs.keep k (fun s q => ⟨f2 s q, (hs s q).1.imp (fun r => ⟨r, f3 s q⟩) id⟩), h.de.keep k (fun s q => ⟨f1 s q, (hs s q).1⟩), h.ne⟩
/-- the cache was used: its blocks alone were written -/
theorem CD.cache (h : CD B w X pd pc pz gh mn lw hi O e v A V vp U d) (hc : CS B w' pc pz mn lw hi O e Y v' A' c') (k : Keep (cay pc v A ++ ys d.c.L) w w') (hY : ∀ x ∈ X, x ∈ Y) (hY2 : ∀ x ∈ Y, x ∈ X ∨ w.heap.size ≤ x) (hv : ∀ y ∈ cay pc v' A', y ∈ cay pc v A ∨ w.heap.size ≤ y) (hs : SameZ d.c.L c'.L) :
    CD B w' (X ++ xd pc v' A' c'.L pd gh vp) pd pc pz gh mn lw hi O e v' A' V vp U ⟨c', d.H, d.P⟩ ∧ (∀ x ∈ X ++ xd pc v' A' c'.L pd gh vp, x ∈ X ∨ w.heap.size ≤ x) := by
  have ey : ys c'.L = ys d.c.L := hs.ys
  have hd : ∀ y ∈ day pd gh vp, y ∈ X := h.de.mem
  have new : ∀ x ∈ X ++ xd pc v' A' c'.L pd gh vp, x ∈ X ∨ w.heap.size ≤ x := fun x hx => by
    rcases List.mem_append.1 hx with q | q
    · exact .inl q
    · rcases List.mem_append.1 q with q | q
      · exact .inl (hd x q)
      · rcases List.mem_append.1 q with q | q
        · rcases hv x q with r | r
          · exact .inl (h.cs.ch.mem x r)
          · exact .inr r
        · rw [ey] at q
          exact .inl (h.cs.z.mem x q)
  have inY : ∀ x ∈ X ++ xd pc v' A' c'.L pd gh vp, x ∈ Y := fun x hx => by
    rcases List.mem_append.1 hx with q | q
    · exact hY x q
    · rcases List.mem_append.1 q with q | q
      · exact hY x (hd x q)
      · rcases List.mem_append.1 q with q | q
        · exact hc.ch.mem x q
        · exact hc.z.mem x q
  have m1 := h.de.more (Y := X ++ xd pc v' A' c'.L pd gh vp) new (fun y q => List.mem_append_left _ (hd y q))
  have m2 := m1.keep k (fun s q => by
    rcases List.mem_append.1 q with r | r
    · exact ⟨fun t => (h.ne s t).1 r, .inl (List.mem_append_left _ (h.cs.ch.mem s r))⟩
    · exact ⟨fun t => (h.ne s t).2 r, .inl (List.mem_append_left _ (h.cs.z.mem s r))⟩)
  refine ⟨⟨fun y hy => List.mem_append_right _ hy, fun y hy => ?_, hc.sub inY (fun y hy => List.mem_append_right _ (List.mem_append_right _ (List.mem_append_left _ hy))) (fun y hy => List.mem_append_right _ (List.mem_append_right _ (List.mem_append_right _ hy))), m2, fun y hy => ⟨fun q => ?_, fun q => ?_⟩⟩, new⟩
  · rcases List.mem_append.1 hy with q | q
    · exact h.limK k y q
    · rcases List.mem_append.1 q with q | q
      · exact h.limK k y (hd y q)
      · rcases List.mem_append.1 q with q | q
        · exact hc.ch.lim y q
        · exact hc.z.b.lim y q
  · rcases hv y q with r | r
    · exact (h.ne y hy).1 r
    · have := (h.de.lim y hy).2; omega
  · rw [ey] at q
    exact (h.ne y hy).2 q
theorem CD.cacheF (h : CD B w X pd pc pz gh mn lw hi O e v A V vp U d) (hv : ∀ y ∈ cay pc v' A', y ∈ cay pc v A ∨ w.heap.size ≤ y) (hs : SameZ d.c.L c'.L) (hF : ∀ f ∈ F, f ∈ X ∧ f ∉ xd pc v A d.c.L pd gh vp) (hX : ∀ x ∈ X, x ∈ Y) :
    ∀ f ∈ F, f ∈ Y ∧ f ∉ xd pc v' A' c'.L pd gh vp := fun f hf => by
  obtain ⟨a1, a2⟩ := hF f hf
  refine ⟨hX f a1, fun q => ?_⟩
  rcases List.mem_append.1 q with r | r
  · exact a2 (List.mem_append_left _ r)
  · rcases List.mem_append.1 r with r | r
    · rcases hv f r with t | t
      · exact a2 (List.mem_append_right _ (List.mem_append_left _ t))
      · have := (h.lim f a1).2; omega
    · rw [hs.ys] at r
      exact a2 (List.mem_append_right _ (List.mem_append_right _ r))
theorem CD.pushF (h : CD B w X pd pc pz gh mn lw hi O e v A V vp U d) (hv : ∀ y ∈ ownX vp', y ∈ ownX vp ∨ w.heap.size ≤ y) (hF : ∀ f ∈ F, f ∈ X ∧ f ∉ xd pc v A d.c.L pd gh vp) (hX : ∀ x ∈ X, x ∈ Y) :
    ∀ f ∈ F, f ∈ Y ∧ f ∉ xd pc v A d.c.L pd gh vp' := fun f hf => by
  obtain ⟨a1, a2⟩ := hF f hf
  refine ⟨hX f a1, fun q => ?_⟩
  rcases List.mem_append.1 q with r | r
  · rcases List.mem_cons.1 r with rfl | r
    · exact a2 (List.mem_append_left _ (List.mem_cons_self ..))
    · rcases List.mem_cons.1 r with rfl | r
      · exact a2 (List.mem_append_left _ (List.mem_cons_of_mem _ (List.mem_cons_self ..)))
      · rcases hv f r with t | t
        · exact a2 (List.mem_append_left _ (List.mem_cons_of_mem _ (List.mem_cons_of_mem _ t)))
        · have := (h.lim f a1).2; omega
  · exact a2 (List.mem_append_right _ r)
end
end Go.Proofs.YtcokmiidgdmdlaaGreatDoor
