/- A new depot in memory; acts on depots, one after another. -/
import Derived.Test.YtcokmiidgdmdlaaGreatDoorDHeld
namespace Go.Proofs.YtcokmiidgdmdlaaGreatDoor
open Go.RowKit Go.Maps
set_option linter.unusedSimpArgs false
set_option linter.unusedVariables false

section
variable {X Y S F : List Nat} {B : Nat} {ev : Nat → Addr} {w w' w0 : World} {pd pc pz gh e : Nat} {mn lw hi : Int} {O : List (List Int)} {v vp : Value} {A : SA} {d d' : De} {c : Ca}
theorem CD.start (h : CS B w pc pz mn lw hi O e X v A c) (hB : B ≤ w.heap.size) (n : Nat)
    (hw' : w' = (w.alloc (.cells (handL (List.replicate n nilH)).toArray 157)).alloc (.cells #[.pointer (some ⟨pc, 0, none⟩), .slice (some ⟨w.heap.size, 0, none⟩) n n, .slice none 0 0] 152)) :
    CDx B w' (xd pc v A c.L (w.heap.size + 1) w.heap.size (.slice none 0 0)) [] (w.heap.size + 1) pc pz w.heap.size mn lw hi O e ⟨c, List.replicate n ([], []), []⟩ := by
  have b : Below w.heap.size w w' := by rw [hw']; exact (by repeat (first | exact Below.refl _ _ | refine Below.drew ?_ | refine below_drewN ?_ _ | refine Below.trans ?_ (Below.mono (by assumption) (by first | omega | (simp; omega) | (simp; done))) | refine Below.alloc ?_ (by first | omega | (simp; omega) | (simp; done)) _ | refine Below.setCell ?_ (by first | omega | (simp; omega) | (simp; done)) _))
  have ed : day (w.heap.size + 1) w.heap.size (.slice none 0 0) = [w.heap.size + 1, w.heap.size] := rfl
  have sz : w'.heap.size = w.heap.size + 2 := by rw [hw']; simp
  have m1 : CS B w pc pz mn lw hi O e (day (w.heap.size + 1) w.heap.size (.slice none 0 0) ++ X) v A c := h.more (fun x hx => List.mem_append_right _ hx) (fun y hy => by
    rcases List.mem_append.1 hy with q | q
    · rw [ed] at q
      simp at q
      exact .inr (by omega)
    · exact .inl q)
  suffices h0 : CD B w' (xd pc v A c.L (w.heap.size + 1) w.heap.size (.slice none 0 0)) (w.heap.size + 1) pc pz w.heap.size mn lw hi O e v A (List.replicate n nilH) (.slice none 0 0) [] ⟨c, List.replicate n ([], []), []⟩ from ⟨_, _, _, _, _, h0, fun f hf => (by cases hf)⟩
  refine ⟨fun y hy => hy, fun y hy => ?_, (m1.below b).sub (fun y hy => ?_) (fun y hy => List.mem_append_right _ (List.mem_append_left _ hy)) (fun y hy => List.mem_append_right _ (List.mem_append_right _ hy)), ⟨?_, ?_, by simp, fun i p g hp hg => ?_, ⟨rfl, .inl ⟨rfl, rfl⟩⟩, rfl, fun i u m hu => by simp at hu, fun y hy => List.mem_append_left _ hy, ?_, fun y hy => ?_⟩, fun y hy => ?_⟩
  · rcases List.mem_append.1 hy with q | q
    · rw [ed] at q; simp at q; omega
    · rcases List.mem_append.1 q with q | q
      · exact ⟨(h.ch.lim y q).1, by have := (h.ch.lim y q).2; omega⟩
      · exact ⟨(h.z.b.lim y q).1, by have := (h.z.b.lim y q).2; omega⟩
  · rcases List.mem_append.1 hy with q | q
    · exact List.mem_append_left _ q
    · rcases List.mem_append.1 q with q | q
      · exact List.mem_append_right _ (h.ch.mem y q)
      · exact List.mem_append_right _ (h.z.mem y q)
  · rw [hw']
    simp only [List.length_replicate]
    exact LocN.mk_ _ [.pointer (some ⟨pc, 0, none⟩), .slice (some ⟨w.heap.size, 0, none⟩) n n, .slice none 0 0] 152 (by simp)
  · rw [hw']
    exact (LocN.mk_ w (handL (List.replicate n nilH)) 157 rfl).past _
  · rw [List.getElem?_replicate] at hp hg
    split at hp
    · rw [if_pos (by assumption)] at hg
      obtain rfl := Option.some.inj hp
      obtain rfl := Option.some.inj hg
      exact ⟨RowO.nil _ _, RowO.nil _ _⟩
    · cases hp
  · rw [ed]; simp
  · rw [ed] at hy; simp at hy; omega
  · rw [ed] at hy
    simp at hy
    refine ⟨fun q => ?_, fun q => ?_⟩
    · have := (h.ch.lim y q).2; omega
    · have := (h.z.b.lim y q).2; omega
theorem InvD.start (h : InvC e c) (n : Nat) (n1 : 1 ≤ n) (n4 : n ≤ 4) : InvD e ⟨c, List.replicate n ([], []), []⟩ := by
  have hh : ∀ n, held ⟨c, List.replicate n ([], []), []⟩ = [] := fun n => by
    unfold held heldH
    simp
  refine ⟨h, (by simp; omega), fun o ho => (by rw [hh n] at ho; cases ho), (by rw [hh n]; exact List.nodup_nil), fun g hg => ?_, fun m hm => (by cases hm)⟩
  rw [List.mem_replicate] at hg
  rw [hg.2]; simp
/-- a depot that acts are done on -/
structure DpS (B : Nat) (w0 : World) (pd pc pz gh : Nat) (mn lw hi : Int) (O : List (List Int)) (e : Nat) (X F : List Nat) (d : De) (w : World) : Prop where
  cd : CDx B w X F pd pc pz gh mn lw hi O e d
  inv : InvD e d
  bel : Below B w0 w
theorem DpS.go (h : DpS B w0 pd pc pz gh mn lw hi O e X F d w) (hB : B ≤ w.heap.size) (k : Below w.heap.size w w') : DpS B w0 pd pc pz gh mn lw hi O e X F d w' := ⟨h.cd.below k, h.inv, h.bel.trans (k.mono hB)⟩
theorem DpS.ord (h : DpS B w0 pd pc pz gh mn lw hi O e X F d w) : OrdZ O d.c.L.length := by
  obtain ⟨v, A, V, vp, U, q, hf⟩ := h.cd
  exact q.cs.z.ord
theorem dp_take (k n : Int) (u : Bool) (hE : ErrS B ev w0) (h : DpS B w0 pd pc pz gh mn lw hi O e X F d w) :
    Calls Tryz.prog 33 #[.pointer (some ⟨pd, 0, none⟩), .int .i64 k, .int .i64 n, .bool u] w fun r w' => r = .returned (.tuple #[obV (takeD mn O e d k n u).2.2, errV ev (takeD mn O e d k n u).2.1]) ∧ Keep (off X F) w w' ∧ ∃ X', (∀ x ∈ X', x ∈ X ∨ w.heap.size ≤ x) ∧ (∀ x ∈ X, x ∈ X') ∧ DpS B w0 pd pc pz gh mn lw hi O e X' F (takeD mn O e d k n u).1 w' := by
  have hB := Nat.le_trans hE.size h.bel.size
  obtain ⟨v, A, V, vp, U, q, hf⟩ := h.cd
  refine (dtake_any k n u ((hE.below h.bel).z) q hf h.inv).mono fun r w' ⟨hr, X', h1, h2, h3, h4⟩ => ⟨hr, h2, X', h3, h4, h1, takeD_inv q.cs.z.ord h.inv, h.bel.trans (h2.below hB fun s hs => (q.lim s (off_mem.1 hs).1).1)⟩
theorem dp_give (k : Int) (o : Ob) (hE : ErrS B ev w0) (h : DpS B w0 pd pc pz gh mn lw hi O e X F d w) (o1 : -9223372036854775808 ≤ o.2) (o2 : o.2 ≤ 9223372036854775807) :
    Calls Tryz.prog 34 #[.pointer (some ⟨pd, 0, none⟩), .int .i64 k, .agg #[.int .i64 o.1, .int .i64 o.2]] w fun r w' => r = .returned (errV ev (giveD e d k o).2) ∧ Keep (off X F) w w' ∧ ∃ X', (∀ x ∈ X', x ∈ X ∨ w.heap.size ≤ x) ∧ (∀ x ∈ X, x ∈ X') ∧ DpS B w0 pd pc pz gh mn lw hi O e X' F (giveD e d k o).1 w' := by
  have hB := Nat.le_trans hE.size h.bel.size
  obtain ⟨v, A, V, vp, U, q, hf⟩ := h.cd
  refine (dgive_any k o (hE.below h.bel) q hf h.inv o1 o2).mono fun r w' ⟨hr, X', h1, h2, h3, h4⟩ => ⟨hr, h2, X', h3, h4, h1, giveD_inv h.inv, h.bel.trans (h2.below hB fun s hs => (q.lim s (off_mem.1 hs).1).1)⟩
theorem dp_held (h : DpS B w0 pd pc pz gh mn lw hi O e X F d w) (hB : B ≤ w.heap.size) :
    Calls Tryz.prog 84 #[.pointer (some ⟨pd, 0, none⟩)] w fun r w' => r = .returned (.tuple #[.int .i64 (handN d.H), .int .i64 ((d.P.length * 4 : Nat) : Int)]) ∧ Below w.heap.size w w' ∧ DpS B w0 pd pc pz gh mn lw hi O e X F d w' := by
  obtain ⟨v, A, V, vp, U, q, _⟩ := id h.cd
  exact (dheld_ok q h.inv).mono fun r w' ⟨h1, h2⟩ => ⟨h1, h2, h.go hB h2⟩
/-- foreign blocks were written -/
theorem DpS.other (h : DpS B w0 pd pc pz gh mn lw hi O e X F d w) (hB : B ≤ w.heap.size) (k : Keep S w w') (hs : ∀ s ∈ S, s ∈ F) : DpS B w0 pd pc pz gh mn lw hi O e X F d w' := by
  obtain ⟨v, A, V, vp, U, q, hf⟩ := h.cd
  exact ⟨⟨v, A, V, vp, U, q.other k (fun s hs' => ⟨.inl (hf s (hs s hs')).1, (hf s (hs s hs')).2⟩), hf⟩, h.inv, h.bel.trans (k.below hB fun s hs' => (q.lim s (hf s (hs s hs')).1).1)⟩
/-- a new foreign block -/
theorem DpS.add (h : DpS B w0 pd pc pz gh mn lw hi O e X F d w) (hB : B ≤ w.heap.size) {G : List Nat} {w1 : World} (k : Below w.heap.size w w1) (hG : ∀ g ∈ G, w.heap.size ≤ g ∧ g < w1.heap.size) : DpS B w0 pd pc pz gh mn lw hi O e (G ++ X) (G ++ F) d w1 := by
  obtain ⟨v, A, V, vp, U, q, hf⟩ := h.cd
  refine ⟨⟨v, A, V, vp, U, q.add k hG hB, fun f hff => ?_⟩, h.inv, h.bel.trans (k.mono hB)⟩
  rcases List.mem_append.1 hff with r | r
  · exact ⟨List.mem_append_left _ r, fun t => by have := (q.lim f (q.x f t)).2; have := (hG f r).1; omega⟩
  · exact ⟨List.mem_append_right _ (hf f r).1, (hf f r).2⟩
end
end Go.Proofs.YtcokmiidgdmdlaaGreatDoor
