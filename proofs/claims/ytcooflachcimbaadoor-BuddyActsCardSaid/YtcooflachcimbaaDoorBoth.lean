/- The program's buddy and the document's, side by side: each act by its contract over what both have. -/
import Derived.Test.YtcooflachcimbaaDoorRefX
import Derived.Test.YtcooflachcimbaaDoorRefV
import Derived.Test.YtcooflachcimbaaDoorRefW
import Derived.Test.YtcooflachcimbaaDoorCopy
import Derived.Test.YtcooflachcimbaaDoorAsBud
import Derived.Test.YtcooflachcimbaaDoorBudO
namespace Go.Proofs.YtcooflachcimbaaDoor
open Go.RowKit Go.Maps
set_option linter.unusedSimpArgs false
set_option linter.unusedVariables false

/-- pb: the program's buddy with F, T; pm: the document's with F', T'; what is written by acts on them lies in the blocks Y, all from B on; the document's slices lie in none of them -/
structure Both (B : Nat) (Y : List Nat) (w : World) (pm pb : Nat) (n : Int) (F T F' T' : List (Int × Int)) : Prop where
  both : ∃ bf bt vF vT, Bud w pb n bf bt F T ∧ RBud Y w pm n vF vT F' T' ∧ (bf ∈ Y ∧ bt ∈ Y) ∧ bf ≠ pm ∧ bt ≠ pm
  out : pb ∉ Y
  lim : ∀ y ∈ Y, B ≤ y ∧ y < w.heap.size
  inv : Inv n F T
  inv' : Inv n F' T'

theorem Keep.lim {S Y : List Nat} {w w' : World} {B : Nat} (k : Keep S w w') (h : ∀ y ∈ Y, B ≤ y ∧ y < w.heap.size) : ∀ y ∈ Y, B ≤ y ∧ y < w'.heap.size := fun y hy => ⟨(h y hy).1, Nat.lt_of_lt_of_le (h y hy).2 k.size⟩
theorem Both.below {B : Nat} {Y : List Nat} {w w' : World} {pm pb : Nat} {n : Int} {F T F' T' : List (Int × Int)} (h : Both B Y w pm pb n F T F' T') (k : Below w.heap.size w w') : Both B Y w' pm pb n F T F' T' := by
  obtain ⟨bf, bt, vF, vT, h1, h2, h3⟩ := h.both
  exact ⟨⟨bf, bt, vF, vT, h1.below k, h2.below k, h3⟩, h.out, (Keep.of (S := []) k).lim h.lim, h.inv, h.inv'⟩
/-- a step of the program's -/
theorem Both.prog {B : Nat} {Y : List Nat} {w : World} {pm pb : Nat} {n : Int} {F T F' T' : List (Int × Int)} (h : Both B Y w pm pb n F T F' T') :
    ∃ bf bt, Bud w pb n bf bt F T ∧ B ≤ bf ∧ B ≤ bt ∧ ∀ w' F1 T1, Bud w' pb n bf bt F1 T1 → Inv n F1 T1 → Keep [bf, bt] w w' → Both B Y w' pm pb n F1 T1 F' T' ∧ Keep Y w w' := by
  obtain ⟨bf, bt, vF, vT, h1, h2, ⟨h3, h4⟩, h5, h6⟩ := h.both
  refine ⟨bf, bt, h1, (h.lim _ h3).1, (h.lim _ h4).1, fun w' F1 T1 q1 q2 k => ⟨⟨⟨bf, bt, vF, vT, q1, h2.keep k fun s hs => ?_, ⟨h3, h4⟩, h5, h6⟩, h.out, k.lim h.lim, q2, h.inv'⟩, k.mono fun s hs => ?_⟩⟩
  · simp at hs
    rcases hs with rfl | rfl
    · exact .inl ⟨h3, h5⟩
    · exact .inl ⟨h4, h6⟩
  · simp at hs
    rcases hs with rfl | rfl
    · exact h3
    · exact h4
/-- a step of the document's -/
theorem Both.doc {B : Nat} {Y : List Nat} {w : World} {pm pb : Nat} {n : Int} {F T F' T' : List (Int × Int)} (h : Both B Y w pm pb n F T F' T') :
    ∃ vF vT, RBud Y w pm n vF vT F' T' ∧ (∀ y ∈ Y, y < w.heap.size) ∧ ∀ w' vF1 vT1 F1 T1, RBud Y w' pm n vF1 vT1 F1 T1 → Inv n F1 T1 → Keep [pm] w w' → Both B Y w' pm pb n F T F1 T1 ∧ Keep Y w w' := by
  obtain ⟨bf, bt, vF, vT, h1, h2, ⟨h3, h4⟩, h5, h6⟩ := h.both
  refine ⟨vF, vT, h2, fun y hy => (h.lim y hy).2, fun w' vF1 vT1 F1 T1 q1 q2 k => ⟨⟨⟨bf, bt, vF1, vT1, h1.keep k ?_ ?_ ?_, q1, ⟨h3, h4⟩, h5, h6⟩, h.out, k.lim h.lim, h.inv, q2⟩, k.mono fun s hs => ?_⟩⟩
  · simp; intro e; exact h.out (e ▸ h2.mem)
  · simpa using h5
  · simpa using h6
  · rw [List.mem_singleton.1 hs]; exact h2.mem

section
variable {B : Nat} {Y : List Nat} {ev : Nat → Addr} {pm pb : Nat} {n : Int} {F T F' T' : List (Int × Int)}

theorem b_take_no (k : Int) (w : World) (hE : ErrD B ev w) (h : Both B Y w pm pb n F T F' T') (k0 : 0 ≤ k) (k6 : k ≤ 6) (hb : bestL k F = none) :
    Calls Tryd.prog 35 #[.pointer (some ⟨pb, 0, none⟩), .int .i64 k] w fun e w' => e = .returned (.tuple #[.agg #[.int .i64 0, .int .i64 0], errV ev 5]) ∧ Both B Y w' pm pb n F T F' T' ∧ Below w.heap.size w w' := by
  obtain ⟨bf, bt, h1, _, _, _⟩ := h.prog
  exact (take_full pb n bf bt F T k w hE h1 k0 k6 hb).mono fun e w' ⟨r1, r2⟩ => ⟨r1, h.below r2, r2⟩
theorem b_take_ok (k : Int) (x : Int × Int) (w : World) (hE : ErrC B ev w) (h : Both B Y w pm pb n F T F' T') (k0 : 0 ≤ k) (k6 : k ≤ 6) (hb : bestL k F = some x) :
    Calls Tryd.prog 35 #[.pointer (some ⟨pb, 0, none⟩), .int .i64 k] w fun e w' => e = .returned (.tuple #[.agg #[.int .i64 x.1, .int .i64 k], .nilIface]) ∧ Both B Y w' pm pb n (takeF k x F) (putL x.1 k T) F' T' ∧ Keep Y w w' := by
  obtain ⟨bf, bt, h1, h2, h3, h4⟩ := h.prog
  exact (take_ok pb n bf bt F T k x w hE h2 h1 h.inv k0 k6 hb).mono fun e w' ⟨r1, r2, r3⟩ => ⟨r1, h4 w' _ _ r2 (h.inv.take k0 hb) r3⟩
theorem r_take_no (k : Int) (w : World) (h : Both B Y w pm pb n F T F' T') (k0 : 0 ≤ k) (hb : bestL k F' = none) :
    Calls Tryd.prog 40 #[.pointer (some ⟨pm, 0, none⟩), .int .i64 k] w fun e w' => e = .returned (.tuple #[.agg #[.int .i64 0, .int .i64 0], .bool false]) ∧ Both B Y w' pm pb n F T F' T' ∧ Below w.heap.size w w' := by
  obtain ⟨vF, vT, h1, h2, h3⟩ := h.doc
  refine (rtake_walk pm n vF vT F' T' k w h1 h2 h.inv' k0).mono fun e w' hp => ?_
  rcases hp with ⟨_, r1, r2⟩ | ⟨x, _, _, r0, _⟩
  · exact ⟨r1, h.below r2, r2⟩
  · rw [hb] at r0; cases r0
theorem r_take_ok (k : Int) (x : Int × Int) (w : World) (h : Both B Y w pm pb n F T F' T') (k0 : 0 ≤ k) (hb : bestL k F' = some x) :
    Calls Tryd.prog 40 #[.pointer (some ⟨pm, 0, none⟩), .int .i64 k] w fun e w' => e = .returned (.tuple #[.agg #[.int .i64 x.1, .int .i64 k], .bool true]) ∧ Both B Y w' pm pb n F T (takeF k x F') (putL x.1 k T') ∧ Keep Y w w' := by
  obtain ⟨vF, vT, h1, h2, h3⟩ := h.doc
  refine (rtake_walk pm n vF vT F' T' k w h1 h2 h.inv' k0).mono fun e w' hp => ?_
  rcases hp with ⟨r0, _⟩ | ⟨x', _, _, r0, r1, r2, r3⟩
  · rw [hb] at r0; cases r0
  · rw [hb] at r0
    injection r0 with r0
    subst r0
    exact ⟨r1, h3 w' _ _ _ _ r2 (h.inv'.take k0 hb) r3⟩

theorem b_give_no (a k : Int) (w : World) (hE : ErrC B ev w) (h : Both B Y w pm pb n F T F' T') (ha : (Lit.int .i64 a).wf = true) (hx : (a, k) ∉ T) :
    Calls Tryd.prog 36 #[.pointer (some ⟨pb, 0, none⟩), .agg #[.int .i64 a, .int .i64 k]] w fun e w' => e = .returned (errV ev 4) ∧ Both B Y w' pm pb n F T F' T' ∧ Keep Y w w' := by
  obtain ⟨bf, bt, h1, _, _, _⟩ := h.prog
  have hx' : hasL T a k = false := by cases e : hasL T a k with
    | false => rfl
    | true => exact absurd ((hasL_mem h.inv.ta).1 e) hx
  exact (give_none pb n bf bt F T a k w hE h1 ha hx').mono fun e w' ⟨r1, r2⟩ => ⟨r1, h.below r2, Keep.of r2⟩
theorem b_give_ok (a k : Int) (w : World) (hE : ErrC B ev w) (h : Both B Y w pm pb n F T F' T') (hx : (a, k) ∈ T) :
    Calls Tryd.prog 36 #[.pointer (some ⟨pb, 0, none⟩), .agg #[.int .i64 a, .int .i64 k]] w fun e w' => e = .returned .nilIface ∧ Both B Y w' pm pb n (giveF a k F) (delL a T) F' T' ∧ Keep Y w w' := by
  obtain ⟨bf, bt, h1, h2, h3, h4⟩ := h.prog
  exact (give_ok pb n bf bt F T a k w hE h2 h3 h1 h.inv hx).mono fun e w' ⟨r1, r2, r3⟩ => ⟨r1, h4 w' _ _ r2 (h.inv.give hx) r3⟩
theorem r_give_no (a k : Int) (w : World) (h : Both B Y w pm pb n F T F' T') (hx : (a, k) ∉ T') :
    Calls Tryd.prog 41 #[.pointer (some ⟨pm, 0, none⟩), .agg #[.int .i64 a, .int .i64 k]] w fun e w' => e = .returned (.int .i64 4) ∧ Both B Y w' pm pb n F T F' T' ∧ Keep Y w w' := by
  obtain ⟨vF, vT, h1, _, _⟩ := h.doc
  exact (rgive_none pm n vF vT F' T' a k w h1 h.inv'.lenT hx).mono fun e w' ⟨r1, r2⟩ => ⟨r1, h.below r2, Keep.of r2⟩
theorem r_give_ok (a k : Int) (w : World) (h : Both B Y w pm pb n F T F' T') (hx : (a, k) ∈ T') :
    Calls Tryd.prog 41 #[.pointer (some ⟨pm, 0, none⟩), .agg #[.int .i64 a, .int .i64 k]] w fun e w' => e = .returned (.int .i64 0) ∧ Both B Y w' pm pb n F T (giveF a k F') (delL a T') ∧ Keep Y w w' := by
  obtain ⟨vF, vT, h1, h2, h3⟩ := h.doc
  exact (rgive_yes pm n vF vT F' T' a k w h1 h2 h.inv' hx).mono fun e w' ⟨_, _, r1, r2, r3⟩ => ⟨r1, h3 w' _ _ _ _ r2 (h.inv'.give hx) r3⟩

theorem b_split_no (a k : Int) (w : World) (hE : ErrC B ev w) (h : Both B Y w pm pb n F T F' T') (ha : (Lit.int .i64 a).wf = true) (hx : (a, k) ∉ T) :
    Calls Tryd.prog 37 #[.pointer (some ⟨pb, 0, none⟩), .agg #[.int .i64 a, .int .i64 k]] w fun e w' => e = .returned (errV ev 4) ∧ Both B Y w' pm pb n F T F' T' ∧ Keep Y w w' := by
  obtain ⟨bf, bt, h1, _, _, _⟩ := h.prog
  have hx' : hasL T a k = false := by cases e : hasL T a k with
    | false => rfl
    | true => exact absurd ((hasL_mem h.inv.ta).1 e) hx
  exact (split_none pb n bf bt F T a k w hE h1 ha hx').mono fun e w' ⟨r1, r2⟩ => ⟨r1, h.below r2, Keep.of r2⟩
theorem b_split_shape (a : Int) (w : World) (hE : ErrC B ev w) (h : Both B Y w pm pb n F T F' T') (hx : (a, 0) ∈ T) :
    Calls Tryd.prog 37 #[.pointer (some ⟨pb, 0, none⟩), .agg #[.int .i64 a, .int .i64 0]] w fun e w' => e = .returned (errV ev 3) ∧ Both B Y w' pm pb n F T F' T' ∧ Keep Y w w' := by
  obtain ⟨bf, bt, h1, _, _, _⟩ := h.prog
  exact (split_shape pb n bf bt F T a w hE h1 h.inv hx).mono fun e w' ⟨r1, r2⟩ => ⟨r1, h.below r2, Keep.of r2⟩
theorem b_split_ok (a k : Int) (w : World) (hE : ErrC B ev w) (h : Both B Y w pm pb n F T F' T') (hx : (a, k) ∈ T) (k1 : 1 ≤ k) :
    Calls Tryd.prog 37 #[.pointer (some ⟨pb, 0, none⟩), .agg #[.int .i64 a, .int .i64 k]] w fun e w' => e = .returned .nilIface ∧ Both B Y w' pm pb n F (putL (a + sz (k - 1)) (k - 1) (putL a (k - 1) T)) F' T' ∧ Keep Y w w' := by
  obtain ⟨bf, bt, h1, h2, h3, h4⟩ := h.prog
  exact (split_ok pb n bf bt F T a k w hE h1 h.inv hx k1).mono fun e w' ⟨r1, r2, r3⟩ => ⟨r1, h4 w' _ _ r2 (h.inv.split k1 hx) (r3.mono fun s hs => by simp at hs ⊢; exact .inr hs)⟩
theorem r_split_no (a k : Int) (w : World) (h : Both B Y w pm pb n F T F' T') (hx : (a, k) ∉ T') :
    Calls Tryd.prog 42 #[.pointer (some ⟨pm, 0, none⟩), .agg #[.int .i64 a, .int .i64 k]] w fun e w' => e = .returned (.int .i64 4) ∧ Both B Y w' pm pb n F T F' T' ∧ Keep Y w w' := by
  obtain ⟨vF, vT, h1, _, _⟩ := h.doc
  exact (rsplit_none pm n vF vT F' T' a k w h1 h.inv'.lenT hx).mono fun e w' ⟨r1, r2⟩ => ⟨r1, h.below r2, Keep.of r2⟩
theorem r_split_shape (a : Int) (w : World) (h : Both B Y w pm pb n F T F' T') (hx : (a, 0) ∈ T') :
    Calls Tryd.prog 42 #[.pointer (some ⟨pm, 0, none⟩), .agg #[.int .i64 a, .int .i64 0]] w fun e w' => e = .returned (.int .i64 3) ∧ Both B Y w' pm pb n F T F' T' ∧ Keep Y w w' := by
  obtain ⟨vF, vT, h1, _, _⟩ := h.doc
  exact (rsplit_shape pm n vF vT F' T' a w h1 h.inv' hx).mono fun e w' ⟨r1, r2⟩ => ⟨r1, h.below r2, Keep.of r2⟩
theorem r_split_ok (a k : Int) (w : World) (h : Both B Y w pm pb n F T F' T') (hx : (a, k) ∈ T') (k1 : 1 ≤ k) :
    Calls Tryd.prog 42 #[.pointer (some ⟨pm, 0, none⟩), .agg #[.int .i64 a, .int .i64 k]] w fun e w' => e = .returned (.int .i64 0) ∧ Both B Y w' pm pb n F T F' (putL (a + sz (k - 1)) (k - 1) (putL a (k - 1) T')) ∧ Keep Y w w' := by
  obtain ⟨vF, vT, h1, h2, h3⟩ := h.doc
  exact (rsplit_yes pm n vF vT F' T' a k w h1 h2 h.inv' hx k1).mono fun e w' ⟨_, r1, r2, r3⟩ => ⟨r1, h3 w' _ _ _ _ r2 (h.inv'.split k1 hx) r3⟩

theorem as_both (w : World) (h : Both B Y w pm pb n F T F T) :
    Calls Tryd.prog 44 #[.pointer (some ⟨pb, 0, none⟩), .pointer (some ⟨pm, 0, none⟩)] w fun e w' => e = .returned (.bool true) ∧ Below w.heap.size w w' := by
  obtain ⟨bf, bt, vF, vT, h1, h2, _⟩ := h.both
  exact asBuddy_ok pb pm n bf bt vF vT F T w h1 h2 h.inv
end

/-- .. and a third buddy, pc, that goes its own way -/
structure Trio (B : Nat) (Y : List Nat) (w : World) (pm pb pc : Nat) (n : Int) (F T : List (Int × Int)) : Prop where
  all : ∃ bf bt vF vT cf ct F1 T1, Bud w pb n bf bt F T ∧ RBud Y w pm n vF vT F T ∧ Bud w pc n cf ct F1 T1 ∧ Inv n F1 T1 ∧ (bf ∈ Y ∧ bt ∈ Y ∧ cf ∈ Y ∧ ct ∈ Y) ∧ (bf ≠ pm ∧ bt ≠ pm ∧ cf ≠ pm ∧ ct ≠ pm) ∧ (cf ≠ bf ∧ cf ≠ bt ∧ ct ≠ bf ∧ ct ≠ bt)
  out : pb ∉ Y
  lim : ∀ y ∈ Y, B ≤ y ∧ y < w.heap.size
  inv : Inv n F T
theorem Trio.toBoth {B : Nat} {Y : List Nat} {w : World} {pm pb pc : Nat} {n : Int} {F T : List (Int × Int)} (h : Trio B Y w pm pb pc n F T) : Both B Y w pm pb n F T F T := by
  obtain ⟨bf, bt, vF, vT, cf, ct, F1, T1, h1, h2, _, _, ⟨m1, m2, _⟩, ⟨n1, n2, _⟩, _⟩ := h.all
  exact ⟨⟨bf, bt, vF, vT, h1, h2, ⟨m1, m2⟩, n1, n2⟩, h.out, h.lim, h.inv, h.inv⟩

theorem t_take {B : Nat} {Y : List Nat} {ev : Nat → Addr} {pm pb pc : Nat} {n : Int} {F T : List (Int × Int)} (k : Int) (w : World) (hE : ErrD B ev w) (h : Trio B Y w pm pb pc n F T) :
    Calls Tryd.prog 35 #[.pointer (some ⟨pc, 0, none⟩), .int .i64 k] w fun e w' => ∃ r x, e = .returned (.tuple #[r, x]) ∧ Trio B Y w' pm pb pc n F T ∧ Keep Y w w' := by
  obtain ⟨bf, bt, vF, vT, cf, ct, F1, T1, h1, h2, h3, hi, ⟨m1, m2, m3, m4⟩, ⟨n1, n2, n3, n4⟩, q1, q2, q3, q4⟩ := h.all
  refine (take_st pc n cf ct F1 T1 k w hE (h.lim _ m3).1 h3 hi).mono fun e w' ⟨r, x, F2, T2, r1, r2, r3, r4⟩ => ⟨r, x, r1, ⟨⟨bf, bt, vF, vT, cf, ct, F2, T2, h1.keep r4 ?_ ?_ ?_, h2.keep r4 fun s hs => ?_, r2.out, r3.out, ⟨m1, m2, m3, m4⟩, ⟨n1, n2, n3, n4⟩, q1, q2, q3, q4⟩, h.out, r4.lim h.lim, h.inv⟩, r4.mono fun s hs => ?_⟩
  · simp; exact ⟨fun e => h.out (e ▸ m3), fun e => h.out (e ▸ m4)⟩
  · simp; exact ⟨q1.symm, q3.symm⟩
  · simp; exact ⟨q2.symm, q4.symm⟩
  · simp at hs
    rcases hs with rfl | rfl
    · exact .inl ⟨m3, n3⟩
    · exact .inl ⟨m4, n4⟩
  · simp at hs
    rcases hs with rfl | rfl
    · exact m3
    · exact m4
theorem b_copy {B : Nat} {Y : List Nat} {pm pb : Nat} {n : Int} {F T : List (Int × Int)} (w : World) (hB : B ≤ w.heap.size) (h : Both B Y w pm pb n F T F T) :
    Calls Tryd.prog 43 #[.pointer (some ⟨pb, 0, none⟩)] w fun e w' => ∃ pc Y', e = .returned (.pointer (some ⟨pc, 0, none⟩)) ∧ Trio B Y' w' pm pc pb n F T ∧ (∀ y ∈ Y', y ∈ Y ∨ w.heap.size ≤ y) ∧ Below w.heap.size w w' := by
  obtain ⟨bf, bt, vF, vT, h1, h2, ⟨m1, m2⟩, n1, n2⟩ := h.both
  refine (copy_ok pb n bf bt F T w h1).mono fun e w' ⟨pc, cf, ct, r1, r2, ⟨r3, r4, r5⟩, r6⟩ => ⟨pc, cf :: ct :: Y, r1, ⟨⟨cf, ct, vF, vT, bf, bt, F, T, r2, (h2.more (by simp [h2.mem]) fun y hy => ?_).below r6, h1.below r6, h.inv, ⟨by simp, by simp, by simp [m1], by simp [m2]⟩, ⟨?_, ?_, n1, n2⟩, ?_⟩, ?_, fun y hy => ?_, h.inv⟩, fun y hy => ?_, r6⟩
  · simp at hy; rcases hy with rfl | rfl | hy
    · exact .inr r4
    · exact .inr r5
    · exact .inl hy
  · have := h2.lt; omega
  · have := h2.lt; omega
  · have := (h.lim _ m1).2; have := (h.lim _ m2).2; omega
  · simp
    have e := r2.ne
    exact ⟨e.2.1, e.2.2, fun q => by have := (h.lim _ q).2; omega⟩
  · simp at hy; rcases hy with rfl | rfl | hy
    · exact ⟨by omega, r2.ltf⟩
    · exact ⟨by omega, r2.ltt⟩
    · exact ⟨(h.lim _ hy).1, Nat.lt_of_lt_of_le (h.lim _ hy).2 r6.size⟩
  · simp at hy; rcases hy with rfl | rfl | hy
    · exact .inr r4
    · exact .inr r5
    · exact .inl hy
end Go.Proofs.YtcooflachcimbaaDoor
