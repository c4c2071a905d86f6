/- Acts on a buddy, where what they answer does not matter. -/
import Derived.Test.YtcooflachcimbaaDoorBudQ
namespace Go.Proofs.YtcooflachcimbaaDoor
open Go.RowKit Go.Maps

set_option linter.unusedVariables false
theorem take_st {B : Nat} {ev : Nat → Addr} (pb : Nat) (n : Int) (bf bt : Nat) (F T : List (Int × Int)) (k : Int) (w : World) (hE : ErrD B ev w) (hBf : B ≤ bf) (hb : Bud w pb n bf bt F T) (hI : Inv n F T) :
    Calls Tryd.prog 35 #[.pointer (some ⟨pb, 0, none⟩), .int .i64 k] w fun e w' => ∃ r x F' T', e = .returned (.tuple #[r, x]) ∧ Hid (Bud w' pb n bf bt F' T') ∧ Hid (Inv n F' T') ∧ Keep [bf, bt] w w' := by
  by_cases hk : k < 0 ∨ 6 < k
  · exact (take_bound ⟨pb, 0, none⟩ k w hE.c hk).mono fun e w' ⟨h1, h2⟩ => ⟨_, _, F, T, h1, hb.below h2, hI, Keep.of h2⟩
  · have k0 : 0 ≤ k := by omega
    have k6 : k ≤ 6 := by omega
    cases h : bestL k F with
    | none => exact (take_full pb n bf bt F T k w hE hb k0 k6 h).mono fun e w' ⟨h1, h2⟩ => ⟨_, _, F, T, h1, hb.below h2, hI, Keep.of h2⟩
    | some x => exact (take_ok pb n bf bt F T k x w hE.c hBf hb hI k0 k6 h).mono fun e w' ⟨h1, h2, h3⟩ => ⟨_, _, _, _, h1, h2, hI.take k0 h, h3⟩
theorem split_st {B : Nat} {ev : Nat → Addr} (pb : Nat) (n : Int) (bf bt : Nat) (F T : List (Int × Int)) (a k : Int) (w : World) (hE : ErrC B ev w) (hb : Bud w pb n bf bt F T) (hI : Inv n F T) (hx : (a, k) ∈ T) :
    Calls Tryd.prog 37 #[.pointer (some ⟨pb, 0, none⟩), .agg #[.int .i64 a, .int .i64 k]] w fun e w' => ∃ x F' T', e = .returned x ∧ Hid (Bud w' pb n bf bt F' T') ∧ Hid (Inv n F' T') ∧ Keep [bf, bt] w w' := by
  by_cases h : k = 0
  · subst h
    exact (split_shape pb n bf bt F T a w hE hb hI hx).mono fun e w' ⟨h1, h2⟩ => ⟨_, F, T, h1, hb.below h2, hI, Keep.of h2⟩
  · have k1 : 1 ≤ k := by have := (hI.rngT hx).2.2.1; simp only at this; omega
    exact (split_ok pb n bf bt F T a k w hE hb hI hx k1).mono fun e w' ⟨h1, h2, h3⟩ => ⟨_, _, _, h1, h2, hI.split k1 hx, h3.mono fun s hs => by simp at hs ⊢; exact .inr hs⟩
theorem give_st {B : Nat} {ev : Nat → Addr} (pb : Nat) (n : Int) (bf bt : Nat) (F T : List (Int × Int)) (a k : Int) (w : World) (hE : ErrC B ev w) (hBf : B ≤ bf) (hBt : B ≤ bt) (hb : Bud w pb n bf bt F T) (hI : Inv n F T) (hx : (a, k) ∈ T) :
    Calls Tryd.prog 36 #[.pointer (some ⟨pb, 0, none⟩), .agg #[.int .i64 a, .int .i64 k]] w fun e w' => ∃ F', e = .returned .nilIface ∧ Hid (Bud w' pb n bf bt F' (delL a T)) ∧ Hid (Inv n F' (delL a T)) ∧ Keep [bf, bt] w w' :=
  (give_ok pb n bf bt F T a k w hE hBf hBt hb hI hx).mono fun e w' ⟨h1, h2, h3⟩ => ⟨_, h1, h2, hI.give hx, h3⟩
end Go.Proofs.YtcooflachcimbaaDoor
