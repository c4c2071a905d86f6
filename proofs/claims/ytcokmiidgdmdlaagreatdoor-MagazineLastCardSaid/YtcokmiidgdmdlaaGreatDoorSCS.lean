/- A cache on its zone, in memory: what keeps it, what a slab more makes of it. -/
import Derived.Test.YtcokmiidgdmdlaaGreatDoorSB
namespace Go.Proofs.YtcokmiidgdmdlaaGreatDoor
open Go.RowKit Go.Maps
set_option linter.unusedSimpArgs false
set_option linter.unusedVariables false

/-- an object, as a value -/
def obV (o : Ob) : Value := .agg #[.int .i64 o.1, .int .i64 o.2]
/-- block pc is a cache on the zone pz; X: blocks that are written, theirs among them -/
structure CS (B : Nat) (w : World) (pc pz : Nat) (mn lw hi : Int) (O : List (List Int)) (e : Nat) (X : List Nat) (v : Value) (A : SA) (c : Ca) : Prop where
  z : ZoneX X B w pz mn lw hi O c.L
  ch : CacB X B w pc pz e v A c.C
  ne : ∀ y ∈ cay pc v A, y ∉ ys c.L
  l0 : 0 < c.L.length
section
variable {X Y S : List Nat} {B : Nat} {w w' w1 : World} {pc pz e : Nat} {mn lw hi : Int} {O : List (List Int)} {v v' : Value} {A : SA} {c : Ca} {L' : List Nd}
theorem CS.below (h : CS B w pc pz mn lw hi O e X v A c) (k : Below w.heap.size w w') : CS B w' pc pz mn lw hi O e X v A c := ⟨h.z.below k, h.ch.below k, h.ne, h.l0⟩
theorem CS.keep (h : CS B w pc pz mn lw hi O e X v A c) (k : Keep S w w') (hs : ∀ s ∈ S, s ∉ cay pc v A ∧ ((s ∈ X ∧ s ∉ ys c.L) ∨ w.heap.size ≤ s)) : CS B w' pc pz mn lw hi O e X v A c :=
  ⟨h.z.keep k (fun s q => (hs s q).2), h.ch.keep k (fun s q => (hs s q).1), h.ne, h.l0⟩
theorem CS.more (h : CS B w pc pz mn lw hi O e X v A c) (hX : ∀ x ∈ X, x ∈ Y) (hY : ∀ y ∈ Y, y ∈ X ∨ w.heap.size ≤ y) : CS B w pc pz mn lw hi O e Y v A c := ⟨h.z.more hX hY, h.ch.more hX, h.ne, h.l0⟩
theorem CS.zone (h : CS B w pc pz mn lw hi O e X v A c) (k : Keep (ys c.L) w w') (hb : ZoneB B w' pz mn lw hi O L') (hs : SameZ c.L L') : CS B w' pc pz mn lw hi O e X v A ⟨L', c.C⟩ :=
  ⟨h.z.after k hb hs, h.ch.keep k (fun s q r => h.ne s r q), by show ∀ y ∈ cay pc v A, y ∉ ys L'; rw [hs.ys]; exact h.ne, by show 0 < L'.length; rw [← hs.1]; exact h.l0⟩
theorem CS.slab (h : CS B w pc pz mn lw hi O e X v A c) {i : Nat} {p : Nat × Nat} (hp : A[i]? = some p) : p.1 ∈ cay pc v A ∧ p.2 ∈ cay pc v A ∧ p.1 ≠ p.2 := by
  have hm := List.mem_of_getElem? hp
  exact ⟨List.mem_cons_of_mem _ (List.mem_append_right _ (ay_mem.2 ⟨p, hm, .inl rfl⟩)), List.mem_cons_of_mem _ (List.mem_append_right _ (ay_mem.2 ⟨p, hm, .inr rfl⟩)), nodup_pair h.ch.nday hp⟩
theorem CS.use (h : CS B w pc pz mn lw hi O e X v A c) {i : Nat} {p : Nat × Nat} (hp : A[i]? = some p) {s : Sl} (hs : SlabB w' p s) (k : Keep [p.1, p.2] w w') : CS B w' pc pz mn lw hi O e X v A ⟨c.L, c.C.set i s⟩ := by
  obtain ⟨m1, m2, _⟩ := h.slab hp
  refine ⟨h.z.keep k (fun x hx => .inl ?_), h.ch.use hp hs k, h.ne, h.l0⟩
  simp at hx
  rcases hx with rfl | rfl
  · exact ⟨h.ch.mem _ m1, h.ne _ m1⟩
  · exact ⟨h.ch.mem _ m2, h.ne _ m2⟩
/-- one object's mark is written -/
theorem SlabB.put {p : Nat × Nat} {s : Sl} {k : Nat} (b : Bool) (h : SlabB w p s) (hne : p.1 ≠ p.2) (hk : k < s.T.length) :
    SlabB ((w.setCell ⟨p.2, k, none⟩ (.bool b)).setCell ⟨p.1, 4, none⟩ (.int .i64 (manyS (useS s k b)))) p (useS s k b) ∧ Keep [p.1, p.2] w ((w.setCell ⟨p.2, k, none⟩ (.bool b)).setCell ⟨p.1, 4, none⟩ (.int .i64 (manyS (useS s k b)))) := by
  refine ⟨⟨?_, ?_⟩, ((Keep.refl _ _).setCell (p := ⟨p.2, k, none⟩) (.inl (by simp)) _).setCell (p := ⟨p.1, 4, none⟩) (.inl (by simp)) _⟩
  · have h1 := (h.1.far (c := p.2) (fun q => hne q.symm) k (.bool b)).store 4 (.int .i64 (manyS (useS s k b))) (by simp [slabCells])
    have e : (slabCells s p.2).set 4 (.int .i64 (manyS (useS s k b))) = slabCells (useS s k b) p.2 := by simp [slabCells, useS]
    rwa [e] at h1
  · have h2 := (h.2.store k (.bool b) (by rw [bools_length]; exact hk)).far (c := p.1) hne 4 (.int .i64 (manyS (useS s k b)))
    rw [← bools_set] at h2
    exact h2
/-- what is put into a list at a place -/
theorem get_ins {α : Type} {l : List α} {i : Nat} {x : α} (hi : i ≤ l.length) (j : Nat) : (l.take i ++ x :: l.drop i)[j]? = if j < i then l[j]? else if j = i then some x else l[j - 1]? := by
  have hl : (l.take i).length = i := by rw [List.length_take]; omega
  split
  · rename_i h
    rw [List.getElem?_append_left (by omega), List.getElem?_take, if_pos h]
  · split
    · rename_i h; subst h
      rw [List.getElem?_append_right (by omega), hl, Nat.sub_self]; rfl
    · rw [List.getElem?_append_right (by omega), hl]
      obtain ⟨d, hd⟩ : ∃ d, j - i = d + 1 := ⟨j - i - 1, by omega⟩
      rw [hd, List.getElem?_cons_succ, List.getElem?_drop]
      congr 1; omega
theorem sptrs_ins (A : SA) (i : Nat) (p : Nat × Nat) : sptrs (A.take i ++ p :: A.drop i) = (sptrs A).take i ++ .pointer (some ⟨p.1, 0, none⟩) :: (sptrs A).drop i := by simp [sptrs, List.map_take, List.map_drop]
theorem ay_ins (A : SA) (i : Nat) (p : Nat × Nat) : (ay (A.take i ++ p :: A.drop i)).Perm (p.1 :: p.2 :: ay A) := by
  have h : (A.take i ++ p :: A.drop i).Perm (p :: A) := by
    have := List.perm_middle (a := p) (l₁ := A.take i) (l₂ := A.drop i)
    rwa [List.take_append_drop] at this
  exact h.flatMap_right (fun p => [p.1, p.2])
/-- a slab more: the slice was written, then the cache's cell -/
theorem CacB.ins {C : List Sl} (h : CacB X B w pc pz e v A C) {p : Nat × Nat} {s : Sl} {i n : Nat} (hi : i ≤ C.length) (k : Keep (ownX v) w w1) (own : w1.ownsRow B 160 1 v' (C.length + 1) (sptrs (A.take i ++ p :: A.drop i))) (hw' : w' = w1.setCell ⟨pc, 2, none⟩ v') (hs : SlabB w p s)
    (n1 : p.1 ∉ cay pc v A) (n2 : p.2 ∉ cay pc v A) (n12 : p.1 ≠ p.2) (b1 : B ≤ p.1) (b2 : B ≤ p.2) (hv' : ∀ y ∈ ownX v', y ∈ ownX v ∨ w.heap.size ≤ y) :
    CacB (p.1 :: p.2 :: (ownX v' ++ X)) B w' pc pz e v' (A.take i ++ p :: A.drop i) (C.take i ++ s :: C.drop i) ∧ Keep (pc :: ownX v) w w' ∧ ∀ y ∈ cay pc v' (A.take i ++ p :: A.drop i), y ∈ cay pc v A ∨ y = p.1 ∨ y = p.2 ∨ w.heap.size ≤ y := by
  obtain ⟨n0, nn⟩ := List.nodup_cons.1 h.nd
  obtain ⟨no, na, nx⟩ := List.nodup_append.1 nn
  have hpv : pc ∉ ownX v := fun q => n0 (List.mem_append_left _ q)
  have hpa : pc ∉ ay A := fun q => n0 (List.mem_append_right _ q)
  have kk : Keep (pc :: ownX v) w w' := by rw [hw']; exact (k.mono (fun _ q => List.mem_cons_of_mem _ q)).setCell (p := ⟨pc, 2, none⟩) (.inl (by simp)) _
  have hpc := h.c.lt
  have hpv' : pc ∉ ownX v' := fun q => by
    rcases hv' _ q with r | r
    · exact hpv r
    · omega
  have key : ∀ y ∈ cay pc v' (A.take i ++ p :: A.drop i), y = pc ∨ y ∈ ownX v' ∨ y = p.1 ∨ y = p.2 ∨ y ∈ ay A := fun y hy => by
    rcases List.mem_cons.1 hy with q | q
    · exact .inl q
    · rcases List.mem_append.1 q with r | r
      · exact .inr (.inl r)
      · have := (ay_ins A i p).mem_iff.1 r
        simp at this
        rcases this with t | t | t
        · exact .inr (.inr (.inl t))
        · exact .inr (.inr (.inr (.inl t)))
        · exact .inr (.inr (.inr (.inr t)))
  have hal : ∀ y ∈ ay A, B ≤ y ∧ y < w.heap.size := fun y hy => h.lim y (List.mem_cons_of_mem _ (List.mem_append_right _ hy))
  have hvl : ∀ y ∈ ownX v', B ≤ y ∧ y < w'.heap.size := fun y hy => by
    have := ownX_ge own hy
    refine ⟨this.1, ?_⟩
    rw [hw']; simpa using this.2
  have e1 : (C.take i ++ s :: C.drop i).length = C.length + 1 := by simp; omega
  refine ⟨⟨?_, ?_, ?_, fun j r z hr hz => ?_, fun y hy => ?_, ?_, fun y hy => ?_⟩, kk, fun y hy => ?_⟩
  · rw [hw']
    have := (h.c.keep k hpv).store 2 v' (by simp)
    exact this
  · rw [e1, hw']
    exact own_keep own ((Keep.refl [pc] _).setCell (p := ⟨pc, 2, none⟩) (.inl (by simp)) _) (fun x hx q => by simp at hx; subst hx; exact hpv' q)
  · have := h.len
    simp; omega
  · rw [get_ins (by rw [h.len]; exact hi)] at hr
    rw [get_ins hi] at hz
    have old : ∀ j r z, A[j]? = some r → C[j]? = some z → SlabB w' r z := fun j r z hr hz => by
      have hm := List.mem_of_getElem? hr
      have a1 : r.1 ∈ ay A := ay_mem.2 ⟨r, hm, .inl rfl⟩
      have a2 : r.2 ∈ ay A := ay_mem.2 ⟨r, hm, .inr rfl⟩
      refine (h.sl j r z hr hz).keep kk (fun q => ?_) (fun q => ?_)
      · rcases List.mem_cons.1 q with t | t
        · exact hpa (t ▸ a1)
        · exact nx _ t _ a1 rfl
      · rcases List.mem_cons.1 q with t | t
        · exact hpa (t ▸ a2)
        · exact nx _ t _ a2 rfl
    split at hr
    · rename_i q
      rw [if_pos q] at hz
      exact old j r z hr hz
    · rename_i q
      rw [if_neg q] at hz
      split at hr
      · rename_i t
        rw [if_pos t] at hz
        obtain rfl := Option.some.inj hr
        obtain rfl := Option.some.inj hz
        refine hs.keep kk (fun q => ?_) (fun q => ?_)
        · rcases List.mem_cons.1 q with t | t
          · exact n1 (t ▸ List.mem_cons_self ..)
          · exact n1 (List.mem_cons_of_mem _ (List.mem_append_left _ t))
        · rcases List.mem_cons.1 q with t | t
          · exact n2 (t ▸ List.mem_cons_self ..)
          · exact n2 (List.mem_cons_of_mem _ (List.mem_append_left _ t))
      · rename_i t
        rw [if_neg t] at hz
        exact old _ r z hr hz
  · rcases key y hy with q | q | q | q | q
    · have := h.mem pc (List.mem_cons_self ..)
      subst q; simp [this]
    · simp [q]
    · simp [q]
    · simp [q]
    · have := h.mem y (List.mem_cons_of_mem _ (List.mem_append_right _ q))
      simp [this]
  · refine List.nodup_cons.2 ⟨fun q => ?_, List.nodup_append.2 ⟨?_, (ay_ins A i p).nodup_iff.2 ?_, fun a ha b hb hab => ?_⟩⟩
    · rcases List.mem_append.1 q with r | r
      · exact hpv' r
      · have := (ay_ins A i p).mem_iff.1 r
        simp at this
        rcases this with t | t | t
        · exact n1 (t ▸ List.mem_cons_self ..)
        · exact n2 (t ▸ List.mem_cons_self ..)
        · exact hpa t
    · unfold ownX; cases v'.ownBlock <;> simp
    · refine List.nodup_cons.2 ⟨fun q => ?_, List.nodup_cons.2 ⟨fun q => ?_, na⟩⟩
      · rcases List.mem_cons.1 q with t | t
        · exact n12 t
        · exact n1 (List.mem_cons_of_mem _ (List.mem_append_right _ t))
      · exact n2 (List.mem_cons_of_mem _ (List.mem_append_right _ q))
    · subst hab
      have hb' := (ay_ins A i p).mem_iff.1 hb
      have hsl : p.1 < w.heap.size ∧ p.2 < w.heap.size := ⟨hs.1.lt, hs.2.lt⟩
      rcases hv' a ha with r | r
      · simp at hb'
        rcases hb' with t | t | t
        · exact n1 (t ▸ List.mem_cons_of_mem _ (List.mem_append_left _ r))
        · exact n2 (t ▸ List.mem_cons_of_mem _ (List.mem_append_left _ r))
        · exact nx _ r _ t rfl
      · simp at hb'
        rcases hb' with t | t | t
        · omega
        · omega
        · have := hal _ t; omega
  · have hz : w.heap.size ≤ w'.heap.size := kk.size
    rcases key y hy with q | q | q | q | q
    · have := h.lim pc (List.mem_cons_self ..)
      subst q; exact ⟨this.1, by omega⟩
    · exact hvl y q
    · subst q; have := hs.1.lt; exact ⟨b1, by omega⟩
    · subst q; have := hs.2.lt; exact ⟨b2, by omega⟩
    · have := hal y q; exact ⟨this.1, by omega⟩
  · rcases key y hy with q | q | q | q | q
    · exact .inl (by subst q; exact List.mem_cons_self ..)
    · rcases hv' y q with r | r
      · exact .inl (List.mem_cons_of_mem _ (List.mem_append_left _ r))
      · exact .inr (.inr (.inr r))
    · exact .inr (.inl q)
    · exact .inr (.inr (.inl q))
    · exact .inl (List.mem_cons_of_mem _ (List.mem_append_right _ q))
end
end Go.Proofs.YtcokmiidgdmdlaaGreatDoor
