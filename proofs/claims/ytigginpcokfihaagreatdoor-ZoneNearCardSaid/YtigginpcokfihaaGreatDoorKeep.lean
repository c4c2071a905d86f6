/- What a call leaves as it was, where it may write into a few blocks: all but those. -/
import Derived.WalkKit
import Derived.Below
import Derived.Lib.Hide
import Derived.BigQuiet
import Derived.WalkSmall
namespace Go.Proofs.YtigginpcokfihaaGreatDoor
open Go.RowKit

/-- w' is w but for the blocks of S and for new ones -/
structure Keep (S : List Nat) (w w' : World) : Prop where
  os : w'.os = w.os
  tape : w'.tape = w.tape
  output : w'.output = w.output
  size : w.heap.size ≤ w'.heap.size
  block : ∀ k, k < w.heap.size → k ∉ S → w'.heap[k]? = w.heap[k]?

theorem Keep.refl (S : List Nat) (w : World) : Keep S w w := ⟨rfl, rfl, rfl, Nat.le_refl _, fun _ _ _ => rfl⟩
theorem Keep.of {S : List Nat} {w w' : World} (h : Below w.heap.size w w') : Keep S w w' := ⟨h.os, h.tape, h.output, h.size, fun k hk _ => h.block k hk⟩
/-- two steps; what the second one may write into is in S, or was not there at the beginning -/
theorem Keep.trans {S S' : List Nat} {a b c : World} (h : Keep S a b) (k : Keep S' b c) (hs : ∀ s ∈ S', s ∈ S ∨ a.heap.size ≤ s) : Keep S a c :=
  ⟨k.os.trans h.os, k.tape.trans h.tape, k.output.trans h.output, Nat.le_trans h.size k.size, fun i hi hn =>
    (k.block i (Nat.lt_of_lt_of_le hi h.size) (fun hm => by rcases hs i hm with q | q; (· exact hn q); (· omega))).trans (h.block i hi hn)⟩
theorem Keep.then {S : List Nat} {a b c : World} (h : Keep S a b) (k : Keep S b c) : Keep S a c := h.trans k fun _ q => .inl q
theorem Keep.mono {S S' : List Nat} {w w' : World} (h : Keep S w w') (hs : ∀ s ∈ S, s ∈ S') : Keep S' w w' := ⟨h.os, h.tape, h.output, h.size, fun k hk hn => h.block k hk fun q => hn (hs k q)⟩
/-- what may be written into lies from B on -/
theorem Keep.below {S : List Nat} {B : Nat} {w w' : World} (h : Keep S w w') (hB : B ≤ w.heap.size) (hs : ∀ s ∈ S, B ≤ s) : Below B w w' :=
  ⟨h.os, h.tape, h.output, h.size, fun k hk => h.block k (by omega) fun q => by have := hs k q; omega⟩
theorem Keep.belowN {w w' : World} (h : Keep [] w w') : Below w.heap.size w w' := h.below (Nat.le_refl _) (fun _ q => by cases q)
theorem Keep.after {S : List Nat} {B : Nat} {w0 w w' : World} (h : Below B w0 w) (k : Keep S w w') (hB : B ≤ w.heap.size) (hs : ∀ s ∈ S, B ≤ s) : Below B w0 w' := h.trans (k.below hB hs)
theorem Keep.step {S : List Nat} {a b c : World} (h : Keep S a b) (k : Below b.heap.size b c) : Keep S a c := h.trans (S' := []) (Keep.of k) (fun _ q => by cases q)
theorem Keep.low {S : List Nat} {a b c : World} {n : Nat} (h : Keep S a b) (k : Below n b c) (hn : a.heap.size ≤ n) : Keep S a c :=
  ⟨k.os.trans h.os, k.tape.trans h.tape, k.output.trans h.output, Nat.le_trans h.size k.size, fun i hi hq => (k.block i (by omega)).trans (h.block i hi hq)⟩
theorem Keep.grown {S : List Nat} {a b c : World} {r : Nat} (h : Keep S a b) (k : b.grownBy c (some r)) (hr : r ∈ S ∨ a.heap.size ≤ r) : Keep S a c :=
  h.trans (S' := [r]) ⟨k.os, k.tape, k.output, k.size, fun i hi hn => k.block i hi (by simp at hn ⊢; exact hn)⟩ fun s q => by simp at q; subst q; exact hr
theorem Keep.alloc {S : List Nat} {a b : World} (h : Keep S a b) (o : Obj) : Keep S a (b.alloc o) :=
  h.step ((Below.refl _ _).alloc (Nat.le_refl _) o)
theorem Keep.drew {S : List Nat} {a b : World} (h : Keep S a b) : Keep S a b.drew := h.step (Below.refl _ _).drew
theorem Keep.drewN {S : List Nat} {a b : World} (h : Keep S a b) (n : Nat) : Keep S a (b.drewN n) := h.step (below_drewN (Below.refl _ _) _)
theorem Keep.setCell {S : List Nat} {a b : World} (h : Keep S a b) {p : Addr} (hp : p.block ∈ S ∨ a.heap.size ≤ p.block) (u : Value) : Keep S a (b.setCell p u) :=
  ⟨h.os, h.tape, h.output, by simpa [World.setCell] using h.size, fun i hi hq => (Below.heap_setCell _ _ _ _ (by rcases hp with q | q; (· exact fun e => hq (e ▸ q)); (· omega))).trans (h.block i hi hq)⟩
theorem Keep.cell {S : List Nat} {w w' : World} (h : Keep S w w') {b o : Nat} (hb : b < w.heap.size) (hn : b ∉ S) : w'.cell? ⟨b, o, none⟩ = w.cell? ⟨b, o, none⟩ := World.cell?_of_block (w := w) (h.block b hb hn)
theorem Keep.frozen {S : List Nat} {w w' : World} (h : Keep S w w') {b o : Nat} (hb : b < w.heap.size) (hn : b ∉ S) : w'.frozen? ⟨b, o, none⟩ = w.frozen? ⟨b, o, none⟩ := World.frozen?_of_block (w := w) (h.block b hb hn)
theorem Keep.only {w w' : World} {S : List Nat} {n : Nat} (h : Keep S w w') (hs : ∀ s ∈ S, n ≤ s) (hn : n ≤ w.heap.size) : Below n w w' := h.below hn hs
end Go.Proofs.YtigginpcokfihaaGreatDoor
