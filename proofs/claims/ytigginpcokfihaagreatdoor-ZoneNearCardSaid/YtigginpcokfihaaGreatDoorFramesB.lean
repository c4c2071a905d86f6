/- Package frames by its contracts, second part: Buddy, Halves, Check. -/
import Derived.Test.YtigginpcokfihaaGreatDoorFrames
namespace Go.Proofs.YtigginpcokfihaaGreatDoor
open Go.RowKit
set_option linter.unusedSimpArgs false

set_option maxHeartbeats 400000 in
/-- Buddy of a right block below the greatest order -/
theorem buddy_ok {B : Nat} {ev : Nat → Addr} (a k : Int) (w : World) (hE : ErrC B ev w) (h : upE a k = 0) :
    Calls Tryz.prog 72 #[.agg #[.int .i64 a, .int .i64 k]] w fun e w' => e = .returned (.tuple #[.agg #[.int .i64 (budA a k), .int .i64 k], .nilIface]) ∧ Below w.heap.size w w' := by
  obtain ⟨ha, hk⟩ := upE_zero h
  obtain ⟨a0, a1, k0, k6, _⟩ := aloneE_zero ha
  have hB := hE.size
  have hs := shl_sz' k0 k6
  have hn := xor_sz a0 (by omega) k0 k6
  go_enter Tryz.func72, Tryz.ntmps72
  go_wp2_with fail
  refine (parent_ok a k _ (hE.below (by repeat (first | exact Below.refl _ _ | refine Below.drew ?_ | refine below_drewN ?_ _ | refine Below.trans ?_ (Below.mono (by assumption) (by first | omega | (simp; omega) | (simp; done))) | refine Below.alloc ?_ (by first | omega | (simp; omega) | (simp; done)) _ | refine Below.setCell ?_ (by first | omega | (simp; omega) | (simp; done)) _))) h).mono ?_
  rintro e w1 ⟨rfl, hb⟩
  obtain ⟨hc, hf⟩ := bcell hb
  have hz := hb.size
  simp at hz hc hf
  have z0 : w.heap.size < w1.heap.size := by omega
  have z1 : w.heap.size + 1 < w1.heap.size := by omega
  go_wp2
  go_region
  go_wp2
  exact bodyPost_ret (v := .tuple #[.agg #[.int .i64 (budA a k), .int .i64 k], .nilIface]) (by simp [results, Tryz.results72, go_sem, hc, z0, z1]) rfl ⟨rfl, (by repeat (first | exact Below.refl _ _ | refine Below.drew ?_ | refine below_drewN ?_ _ | refine Below.trans ?_ (Below.mono (by assumption) (by first | omega | (simp; omega) | (simp; done))) | refine Below.alloc ?_ (by first | omega | (simp; omega) | (simp; done)) _ | refine Below.setCell ?_ (by first | omega | (simp; omega) | (simp; done)) _))⟩

set_option maxHeartbeats 400000 in
theorem buddy_err {B : Nat} {ev : Nat → Addr} (a k : Int) (c : Nat) (w : World) (hE : ErrC B ev w) (h : upE a k = c + 1) :
    Calls Tryz.prog 72 #[.agg #[.int .i64 a, .int .i64 k]] w fun e w' => e = .returned (.tuple #[.agg #[.int .i64 0, .int .i64 0], .iface 199 (.pointer (some (ev (c + 1))))]) ∧ Below w.heap.size w w' := by
  have hB := hE.size
  go_enter Tryz.func72, Tryz.ntmps72
  go_wp2_with fail
  refine (parent_err a k c _ (hE.below (by repeat (first | exact Below.refl _ _ | refine Below.drew ?_ | refine below_drewN ?_ _ | refine Below.trans ?_ (Below.mono (by assumption) (by first | omega | (simp; omega) | (simp; done))) | refine Below.alloc ?_ (by first | omega | (simp; omega) | (simp; done)) _ | refine Below.setCell ?_ (by first | omega | (simp; omega) | (simp; done)) _))) h).mono ?_
  rintro e w1 ⟨rfl, hb⟩
  obtain ⟨hc, hf⟩ := bcell hb
  have hz := hb.size
  simp at hz hc hf
  have z0 : w.heap.size < w1.heap.size := by omega
  have z1 : w.heap.size + 1 < w1.heap.size := by omega
  go_wp2
  exact bodyPost_ret (v := .tuple #[.agg #[.int .i64 0, .int .i64 0], .iface 199 (.pointer (some (ev (c + 1))))]) (by simp [results, Tryz.results72, go_sem, hc, z0, z1]) rfl ⟨rfl, (by repeat (first | exact Below.refl _ _ | refine Below.drew ?_ | refine below_drewN ?_ _ | refine Below.trans ?_ (Below.mono (by assumption) (by first | omega | (simp; omega) | (simp; done))) | refine Below.alloc ?_ (by first | omega | (simp; omega) | (simp; done)) _ | refine Below.setCell ?_ (by first | omega | (simp; omega) | (simp; done)) _))⟩

set_option maxHeartbeats 400000 in
/-- Halves of a right block of an order above 0 -/
theorem halves_ok {B : Nat} {ev : Nat → Addr} (a k : Int) (w : World) (hE : ErrC B ev w) (h : downE a k = 0) :
    Calls Tryz.prog 60 #[.agg #[.int .i64 a, .int .i64 k]] w fun e w' => e = .returned (.tuple #[.agg #[.int .i64 a, .int .i64 (k - 1)], .agg #[.int .i64 (a + sz (k - 1)), .int .i64 (k - 1)], .nilIface]) ∧ Below w.heap.size w w' := by
  obtain ⟨ha, hk⟩ := downE_zero h
  obtain ⟨a0, a1, k0, k6, _⟩ := aloneE_zero ha
  have hB := hE.size
  have k1 : 1 ≤ k := by omega
  have hs : wrap64 (2 ^ (k.toNat - 1)) = sz (k - 1) := by
    have e : (k - 1).toNat = k.toNat - 1 := by omega
    rw [← e]; exact shl_sz' (k := k - 1) (by omega) (by omega)
  obtain ⟨s1, s2⟩ := sz_bd (k := k - 1) (by omega) (by omega)
  go_enter Tryz.func60, Tryz.ntmps60
  go_wp2_with fail
  refine (look_ok a k _ (hE.below (by repeat (first | exact Below.refl _ _ | refine Below.drew ?_ | refine below_drewN ?_ _ | refine Below.trans ?_ (Below.mono (by assumption) (by first | omega | (simp; omega) | (simp; done))) | refine Below.alloc ?_ (by first | omega | (simp; omega) | (simp; done)) _ | refine Below.setCell ?_ (by first | omega | (simp; omega) | (simp; done)) _))) ha).mono ?_
  rintro e w1 ⟨rfl, hb⟩
  obtain ⟨hc, hf⟩ := bcell hb
  have hz := hb.size
  simp at hz hc hf
  have z0 : w.heap.size < w1.heap.size := by omega
  have z1 : w.heap.size + 1 < w1.heap.size := by omega
  go_wp2
  go_region
  go_wp2
  exact bodyPost_ret (v := .tuple #[.agg #[.int .i64 a, .int .i64 (k - 1)], .agg #[.int .i64 (a + sz (k - 1)), .int .i64 (k - 1)], .nilIface]) (by simp [results, Tryz.results60, go_sem, hc, z0, z1]) rfl ⟨rfl, (by repeat (first | exact Below.refl _ _ | refine Below.drew ?_ | refine below_drewN ?_ _ | refine Below.trans ?_ (Below.mono (by assumption) (by first | omega | (simp; omega) | (simp; done))) | refine Below.alloc ?_ (by first | omega | (simp; omega) | (simp; done)) _ | refine Below.setCell ?_ (by first | omega | (simp; omega) | (simp; done)) _))⟩

set_option maxHeartbeats 400000 in
theorem halves_err {B : Nat} {ev : Nat → Addr} (a k : Int) (c : Nat) (w : World) (hE : ErrC B ev w) (h : downE a k = c + 1) :
    Calls Tryz.prog 60 #[.agg #[.int .i64 a, .int .i64 k]] w fun e w' => e = .returned (.tuple #[.agg #[.int .i64 0, .int .i64 0], .agg #[.int .i64 0, .int .i64 0], .iface 199 (.pointer (some (ev (c + 1))))]) ∧ Below w.heap.size w w' := by
  have hB := hE.size
  rcases downE_cases h with h | ⟨ha, rfl, rfl⟩
  · go_enter Tryz.func60, Tryz.ntmps60
    go_wp2_with fail
    refine (look_err a k c _ (hE.below (by repeat (first | exact Below.refl _ _ | refine Below.drew ?_ | refine below_drewN ?_ _ | refine Below.trans ?_ (Below.mono (by assumption) (by first | omega | (simp; omega) | (simp; done))) | refine Below.alloc ?_ (by first | omega | (simp; omega) | (simp; done)) _ | refine Below.setCell ?_ (by first | omega | (simp; omega) | (simp; done)) _))) h).mono ?_
    rintro e w1 ⟨rfl, hb⟩
    obtain ⟨hc, hf⟩ := bcell hb
    have hz := hb.size
    simp at hz hc hf
    have z0 : w.heap.size < w1.heap.size := by omega
    have z1 : w.heap.size + 1 < w1.heap.size := by omega
    go_wp2
    exact bodyPost_ret (v := .tuple #[.agg #[.int .i64 0, .int .i64 0], .agg #[.int .i64 0, .int .i64 0], .iface 199 (.pointer (some (ev (c + 1))))]) (by simp [results, Tryz.results60, go_sem, hc, z0, z1]) rfl ⟨rfl, (by repeat (first | exact Below.refl _ _ | refine Below.drew ?_ | refine below_drewN ?_ _ | refine Below.trans ?_ (Below.mono (by assumption) (by first | omega | (simp; omega) | (simp; done))) | refine Below.alloc ?_ (by first | omega | (simp; omega) | (simp; done)) _ | refine Below.setCell ?_ (by first | omega | (simp; omega) | (simp; done)) _))⟩
  · have e4 : errV ev 4 = .iface 199 (.pointer (some (ev (3 + 1)))) := rfl
    go_enter Tryz.func60, Tryz.ntmps60
    go_wp2_with fail
    refine (look_ok a 0 _ (hE.below (by repeat (first | exact Below.refl _ _ | refine Below.drew ?_ | refine below_drewN ?_ _ | refine Below.trans ?_ (Below.mono (by assumption) (by first | omega | (simp; omega) | (simp; done))) | refine Below.alloc ?_ (by first | omega | (simp; omega) | (simp; done)) _ | refine Below.setCell ?_ (by first | omega | (simp; omega) | (simp; done)) _))) ha).mono ?_
    rintro e w1 ⟨rfl, hb⟩
    obtain ⟨hc, hf⟩ := bcell hb
    have hz := hb.size
    have h4 := (hE.below (by repeat (first | exact Below.refl _ _ | refine Below.drew ?_ | refine below_drewN ?_ _ | refine Below.trans ?_ (Below.mono (by assumption) (by first | omega | (simp; omega) | (simp; done))) | refine Below.alloc ?_ (by first | omega | (simp; omega) | (simp; done)) _ | refine Below.setCell ?_ (by first | omega | (simp; omega) | (simp; done)) _)) : ErrC B ev w1).c4
    rw [e4] at h4
    have z4 := hE.z4
    simp at hz hc hf
    have z0 : w.heap.size < w1.heap.size := by omega
    have z1 : w.heap.size + 1 < w1.heap.size := by omega
    go_wp2
    go_region
    go_wp2
    exact bodyPost_ret (v := .tuple #[.agg #[.int .i64 0, .int .i64 0], .agg #[.int .i64 0, .int .i64 0], .iface 199 (.pointer (some (ev (3 + 1))))]) (by simp [results, Tryz.results60, go_sem, hc, z0, z1]) rfl ⟨rfl, (by repeat (first | exact Below.refl _ _ | refine Below.drew ?_ | refine below_drewN ?_ _ | refine Below.trans ?_ (Below.mono (by assumption) (by first | omega | (simp; omega) | (simp; done))) | refine Below.alloc ?_ (by first | omega | (simp; omega) | (simp; done)) _ | refine Below.setCell ?_ (by first | omega | (simp; omega) | (simp; done)) _))⟩

end Go.Proofs.YtigginpcokfihaaGreatDoor
