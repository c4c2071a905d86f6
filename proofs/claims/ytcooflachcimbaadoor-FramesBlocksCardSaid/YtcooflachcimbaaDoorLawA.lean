/- The statement FramesTwice: its walk. -/
import Derived.Test.YtcooflachcimbaaDoorFramesB
import Derived.Test.YtcooflachcimbaaDoorEq
namespace Go.Proofs.YtcooflachcimbaaDoor
open Go.RowKit

set_option maxHeartbeats 400000 in
/-- halved: a closed fact -/
theorem halved_yes {B : Nat} {ev : Nat → Addr} (w : World) (hE : ErrC B ev w) :
    Calls Tryd.prog 11 #[] w fun e w' => e = .returned (.bool true) ∧ Below w.heap.size w w' := by
  have eb := eqB
  have gb := guardB
  go_enter Tryd.func11, Tryd.ntmps11
  go_wp2_with fail
  refine (halves_ok 0 1 _ hE (by decide)).mono ?_
  rintro e w1 ⟨rfl, hb1⟩; obtain ⟨c1, f1⟩ := bcell hb1; have z1 := hb1.size; try simp at z1 c1 f1
  simp only [show sz (1 - 1) = 1 from rfl]
  go_wp2
  go_ret
  exact ⟨rfl, (by repeat (first | exact Below.refl _ _ | refine Below.drew ?_ | refine below_drewN ?_ _ | refine Below.trans ?_ (Below.mono (by assumption) (by first | omega | (simp; omega) | (simp; done))) | refine Below.alloc ?_ (by first | omega | (simp; omega) | (simp; done)) _ | refine Below.setCell ?_ (by first | omega | (simp; omega) | (simp; done)) _))⟩

theorem halved_call {B : Nat} {ev : Nat → Addr} (w : World) (hE : ErrC B ev w) :
    Calls Tryd.prog 11 #[] w fun e w' => e = .returned (.bool true) ∧ Below w.heap.size w w' := halved_yes w hE

set_option maxHeartbeats 1000000 in
set_option maxRecDepth 100000 in
/-- what the calls give, by numbers of their own: x the buddy, p the parent, s the size -/
theorem framesTwice_body {B : Nat} {ev : Nat → Addr} (a k x p s : Int) (w : World) (hE : ErrC B ev w) (hs : 1 ≤ s)
    (hrel : (p = a ∧ x = a + s) ∨ (x = p ∧ a = p + s))
    (b1 : ∀ w, ErrC B ev w → Calls Tryd.prog 12 #[.agg #[.int .i64 a, .int .i64 k]] w fun e w' => e = .returned (.tuple #[.agg #[.int .i64 x, .int .i64 k], .nilIface]) ∧ Below w.heap.size w w')
    (b2 : ∀ w, ErrC B ev w → Calls Tryd.prog 12 #[.agg #[.int .i64 x, .int .i64 k]] w fun e w' => e = .returned (.tuple #[.agg #[.int .i64 a, .int .i64 k], .nilIface]) ∧ Below w.heap.size w w')
    (p1 : ∀ w, ErrC B ev w → Calls Tryd.prog 13 #[.agg #[.int .i64 a, .int .i64 k]] w fun e w' => e = .returned (.tuple #[.agg #[.int .i64 p, .int .i64 (k + 1)], .nilIface]) ∧ Below w.heap.size w w')
    (p2 : ∀ w, ErrC B ev w → Calls Tryd.prog 13 #[.agg #[.int .i64 x, .int .i64 k]] w fun e w' => e = .returned (.tuple #[.agg #[.int .i64 p, .int .i64 (k + 1)], .nilIface]) ∧ Below w.heap.size w w')
    (h1 : ∀ w, ErrC B ev w → Calls Tryd.prog 14 #[.agg #[.int .i64 p, .int .i64 (k + 1)]] w fun e w' => e = .returned (.tuple #[.agg #[.int .i64 p, .int .i64 k], .agg #[.int .i64 (p + s), .int .i64 k], .nilIface]) ∧ Below w.heap.size w w') :
    Calls Tryd.prog 3 #[.agg #[.int .i64 a, .int .i64 k]] w fun e w' => e = .returned (.bool true) ∧ Below w.heap.size w w' := by
  have eb := eqB
  have nb := neqB
  have gb := guardB
  have hB := hE.size
  have B1 := Lib.hid b1; have B2 := Lib.hid b2; have P1 := Lib.hid p1; have P2 := Lib.hid p2; have H1 := Lib.hid h1
  clear b1 b2 p1 p2 h1
  have hne : (p == p + s) = false := by simp; omega
  have hne' : (a == a + s) = false := by simp; omega
  rcases hrel with ⟨rfl, rfl⟩ | ⟨rfl, rfl⟩
  all_goals
    go_enter Tryd.func3, Tryd.ntmps3
    go_wp2_with fail
    refine (halved_yes _ (hE.below (by repeat (first | exact Below.refl _ _ | refine Below.drew ?_ | refine below_drewN ?_ _ | refine Below.trans ?_ (Below.mono (by assumption) (by first | omega | (simp; omega) | (simp; done))) | refine Below.alloc ?_ (by first | omega | (simp; omega) | (simp; done)) _ | refine Below.setCell ?_ (by first | omega | (simp; omega) | (simp; done)) _)))).mono ?_
    rintro e w1 ⟨rfl, hb1⟩; obtain ⟨c1, f1⟩ := bcell hb1; have z1 := hb1.size; try simp at z1 c1 f1
    have hE1 : ErrC B ev w1 := hE.below (by repeat (first | exact Below.refl _ _ | refine Below.drew ?_ | refine below_drewN ?_ _ | refine Below.trans ?_ (Below.mono (by assumption) (by first | omega | (simp; omega) | (simp; done))) | refine Below.alloc ?_ (by first | omega | (simp; omega) | (simp; done)) _ | refine Below.setCell ?_ (by first | omega | (simp; omega) | (simp; done)) _))
    go_wp2_with fail
    refine (B1.out _ (hE1.below (by repeat (first | exact Below.refl _ _ | refine Below.drew ?_ | refine below_drewN ?_ _ | refine Below.trans ?_ (Below.mono (by assumption) (by first | omega | (simp; omega) | (simp; done))) | refine Below.alloc ?_ (by first | omega | (simp; omega) | (simp; done)) _ | refine Below.setCell ?_ (by first | omega | (simp; omega) | (simp; done)) _)))).mono ?_
    rintro e w2 ⟨rfl, hb2⟩; obtain ⟨c2, f2⟩ := bcell hb2; have z2 := hb2.size; try simp at z2 c2 f2
    have lt_w_0_w1 : w.heap.size < w1.heap.size := (by omega); have le_w_0_w1 : w.heap.size ≤ w1.heap.size := (by omega); have lt_w_0_w2 : w.heap.size < w2.heap.size := (by omega); have le_w_0_w2 : w.heap.size ≤ w2.heap.size := (by omega)
    have hE2 : ErrC B ev w2 := hE1.below (by repeat (first | exact Below.refl _ _ | refine Below.drew ?_ | refine below_drewN ?_ _ | refine Below.trans ?_ (Below.mono (by assumption) (by first | omega | (simp; omega) | (simp; done))) | refine Below.alloc ?_ (by first | omega | (simp; omega) | (simp; done)) _ | refine Below.setCell ?_ (by first | omega | (simp; omega) | (simp; done)) _))
    go_wp2_with fail
    refine (B2.out _ (hE2.below (by repeat (first | exact Below.refl _ _ | refine Below.drew ?_ | refine below_drewN ?_ _ | refine Below.trans ?_ (Below.mono (by assumption) (by first | omega | (simp; omega) | (simp; done))) | refine Below.alloc ?_ (by first | omega | (simp; omega) | (simp; done)) _ | refine Below.setCell ?_ (by first | omega | (simp; omega) | (simp; done)) _)))).mono ?_
    rintro e w3 ⟨rfl, hb3⟩; obtain ⟨c3, f3⟩ := bcell hb3; have z3 := hb3.size; try simp at z3 c3 f3
    have lt_w_0_w3 : w.heap.size < w3.heap.size := (by omega); have le_w_0_w3 : w.heap.size ≤ w3.heap.size := (by omega); have lt_w2_0_w3 : w2.heap.size < w3.heap.size := (by omega); have le_w2_0_w3 : w2.heap.size ≤ w3.heap.size := (by omega)
    have hE3 : ErrC B ev w3 := hE2.below (by repeat (first | exact Below.refl _ _ | refine Below.drew ?_ | refine below_drewN ?_ _ | refine Below.trans ?_ (Below.mono (by assumption) (by first | omega | (simp; omega) | (simp; done))) | refine Below.alloc ?_ (by first | omega | (simp; omega) | (simp; done)) _ | refine Below.setCell ?_ (by first | omega | (simp; omega) | (simp; done)) _))
    go_wp2_with fail
    refine (P1.out _ (hE3.below (by repeat (first | exact Below.refl _ _ | refine Below.drew ?_ | refine below_drewN ?_ _ | refine Below.trans ?_ (Below.mono (by assumption) (by first | omega | (simp; omega) | (simp; done))) | refine Below.alloc ?_ (by first | omega | (simp; omega) | (simp; done)) _ | refine Below.setCell ?_ (by first | omega | (simp; omega) | (simp; done)) _)))).mono ?_
    rintro e w4 ⟨rfl, hb4⟩; obtain ⟨c4, f4⟩ := bcell hb4; have z4 := hb4.size; try simp at z4 c4 f4
    have lt_w_0_w4 : w.heap.size < w4.heap.size := (by omega); have le_w_0_w4 : w.heap.size ≤ w4.heap.size := (by omega); have lt_w2_0_w4 : w2.heap.size < w4.heap.size := (by omega); have le_w2_0_w4 : w2.heap.size ≤ w4.heap.size := (by omega); have lt_w3_0_w4 : w3.heap.size < w4.heap.size := (by omega); have le_w3_0_w4 : w3.heap.size ≤ w4.heap.size := (by omega)
    have hE4 : ErrC B ev w4 := hE3.below (by repeat (first | exact Below.refl _ _ | refine Below.drew ?_ | refine below_drewN ?_ _ | refine Below.trans ?_ (Below.mono (by assumption) (by first | omega | (simp; omega) | (simp; done))) | refine Below.alloc ?_ (by first | omega | (simp; omega) | (simp; done)) _ | refine Below.setCell ?_ (by first | omega | (simp; omega) | (simp; done)) _))
    go_wp2_with fail
    refine (P2.out _ (hE4.below (by repeat (first | exact Below.refl _ _ | refine Below.drew ?_ | refine below_drewN ?_ _ | refine Below.trans ?_ (Below.mono (by assumption) (by first | omega | (simp; omega) | (simp; done))) | refine Below.alloc ?_ (by first | omega | (simp; omega) | (simp; done)) _ | refine Below.setCell ?_ (by first | omega | (simp; omega) | (simp; done)) _)))).mono ?_
    rintro e w5 ⟨rfl, hb5⟩; obtain ⟨c5, f5⟩ := bcell hb5; have z5 := hb5.size; try simp at z5 c5 f5
    have lt_w_0_w5 : w.heap.size < w5.heap.size := (by omega); have le_w_0_w5 : w.heap.size ≤ w5.heap.size := (by omega); have lt_w2_0_w5 : w2.heap.size < w5.heap.size := (by omega); have le_w2_0_w5 : w2.heap.size ≤ w5.heap.size := (by omega); have lt_w3_0_w5 : w3.heap.size < w5.heap.size := (by omega); have le_w3_0_w5 : w3.heap.size ≤ w5.heap.size := (by omega); have lt_w4_0_w5 : w4.heap.size < w5.heap.size := (by omega); have le_w4_0_w5 : w4.heap.size ≤ w5.heap.size := (by omega)
    have hE5 : ErrC B ev w5 := hE4.below (by repeat (first | exact Below.refl _ _ | refine Below.drew ?_ | refine below_drewN ?_ _ | refine Below.trans ?_ (Below.mono (by assumption) (by first | omega | (simp; omega) | (simp; done))) | refine Below.alloc ?_ (by first | omega | (simp; omega) | (simp; done)) _ | refine Below.setCell ?_ (by first | omega | (simp; omega) | (simp; done)) _))
    go_wp2_with fail
    refine (H1.out _ (hE5.below (by repeat (first | exact Below.refl _ _ | refine Below.drew ?_ | refine below_drewN ?_ _ | refine Below.trans ?_ (Below.mono (by assumption) (by first | omega | (simp; omega) | (simp; done))) | refine Below.alloc ?_ (by first | omega | (simp; omega) | (simp; done)) _ | refine Below.setCell ?_ (by first | omega | (simp; omega) | (simp; done)) _)))).mono ?_
    rintro e w6 ⟨rfl, hb6⟩; obtain ⟨c6, f6⟩ := bcell hb6; have z6 := hb6.size; try simp at z6 c6 f6
    have lt_w_0_w6 : w.heap.size < w6.heap.size := (by omega); have le_w_0_w6 : w.heap.size ≤ w6.heap.size := (by omega); have lt_w2_0_w6 : w2.heap.size < w6.heap.size := (by omega); have le_w2_0_w6 : w2.heap.size ≤ w6.heap.size := (by omega); have lt_w3_0_w6 : w3.heap.size < w6.heap.size := (by omega); have le_w3_0_w6 : w3.heap.size ≤ w6.heap.size := (by omega); have lt_w4_0_w6 : w4.heap.size < w6.heap.size := (by omega); have le_w4_0_w6 : w4.heap.size ≤ w6.heap.size := (by omega); have lt_w5_0_w6 : w5.heap.size < w6.heap.size := (by omega); have le_w5_0_w6 : w5.heap.size ≤ w6.heap.size := (by omega)
    go_wp2
    go_ret
    exact ⟨rfl, (by repeat (first | exact Below.refl _ _ | refine Below.drew ?_ | refine below_drewN ?_ _ | refine Below.trans ?_ (Below.mono (by assumption) (by first | omega | (simp; omega) | (simp; done))) | refine Below.alloc ?_ (by first | omega | (simp; omega) | (simp; done)) _ | refine Below.setCell ?_ (by first | omega | (simp; omega) | (simp; done)) _))⟩

set_option maxHeartbeats 1000000 in
set_option maxRecDepth 100000 in
theorem framesTwice_walk {B : Nat} {ev : Nat → Addr} (a k : Int) (w : World) (hE : ErrC B ev w) :
    Calls Tryd.prog 3 #[.agg #[.int .i64 a, .int .i64 k]] w fun e w' => e = .returned (.bool true) ∧ Below w.heap.size w w' := by
  have hB := hE.size
  rcases hu : upE a k with _ | c
  · obtain ⟨u1, u2, u3, u4, u5⟩ := twice hu
    obtain ⟨a0, a1, k0, k6, _⟩ := aloneE_zero (upE_zero hu).1
    have hk := (upE_zero hu).2
    refine framesTwice_body a k (budA a k) (parA a k) (sz k) w hE (sz_bd k0 k6).1 ?_ (fun w h => buddy_ok a k w h hu) (fun w h => ?_) (fun w h => parent_ok a k w h hu) (fun w h => ?_) (fun w h => ?_)
    · rcases u5 with ⟨e1, e2⟩ | ⟨e1, e2⟩
      · exact .inl ⟨e1, by rw [e2, e1]⟩
      · exact .inr ⟨e1.symm, e2⟩
    · have := buddy_ok (budA a k) k w h u1
      rwa [u2] at this
    · have := parent_ok (budA a k) k w h u1
      rwa [u3] at this
    · have := halves_ok (parA a k) (k + 1) w h u4
      rwa [show k + 1 - 1 = k from by omega] at this
  · go_enter Tryd.func3, Tryd.ntmps3
    go_wp2_with fail
    refine (halved_yes _ (hE.below (by repeat (first | exact Below.refl _ _ | refine Below.drew ?_ | refine below_drewN ?_ _ | refine Below.trans ?_ (Below.mono (by assumption) (by first | omega | (simp; omega) | (simp; done))) | refine Below.alloc ?_ (by first | omega | (simp; omega) | (simp; done)) _ | refine Below.setCell ?_ (by first | omega | (simp; omega) | (simp; done)) _)))).mono ?_
    rintro e w1 ⟨rfl, hb1⟩; obtain ⟨c1, f1⟩ := bcell hb1; have z1 := hb1.size; try simp at z1 c1 f1
    have hE1 : ErrC B ev w1 := hE.below (by repeat (first | exact Below.refl _ _ | refine Below.drew ?_ | refine below_drewN ?_ _ | refine Below.trans ?_ (Below.mono (by assumption) (by first | omega | (simp; omega) | (simp; done))) | refine Below.alloc ?_ (by first | omega | (simp; omega) | (simp; done)) _ | refine Below.setCell ?_ (by first | omega | (simp; omega) | (simp; done)) _))
    go_wp2_with fail
    refine (buddy_err a k c _ (hE1.below (by repeat (first | exact Below.refl _ _ | refine Below.drew ?_ | refine below_drewN ?_ _ | refine Below.trans ?_ (Below.mono (by assumption) (by first | omega | (simp; omega) | (simp; done))) | refine Below.alloc ?_ (by first | omega | (simp; omega) | (simp; done)) _ | refine Below.setCell ?_ (by first | omega | (simp; omega) | (simp; done)) _))) hu).mono ?_
    rintro e w2 ⟨rfl, hb2⟩; obtain ⟨c2, f2⟩ := bcell hb2; have z2 := hb2.size; try simp at z2 c2 f2
    go_wp2
    go_ret
    exact ⟨rfl, (by repeat (first | exact Below.refl _ _ | refine Below.drew ?_ | refine below_drewN ?_ _ | refine Below.trans ?_ (Below.mono (by assumption) (by first | omega | (simp; omega) | (simp; done))) | refine Below.alloc ?_ (by first | omega | (simp; omega) | (simp; done)) _ | refine Below.setCell ?_ (by first | omega | (simp; omega) | (simp; done)) _))⟩
end Go.Proofs.YtcooflachcimbaaDoor
