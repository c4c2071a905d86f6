/- (*Buddy).Pages by its contract: a range over the free map, in whatever order: the sum of its blocks' pages. -/
import Derived.Test.YtigginpcokfihaaGreatDoorBudN
import Derived.Maps.RangeWalk
namespace Go.Proofs.YtigginpcokfihaaGreatDoor
open Go.RowKit Go.Maps
set_option linter.unusedSimpArgs false

/-- pages of the blocks that are still to come -/
def toCome (left : Lit → Bool) : List (Int × Int) → Int
  | [] => 0
  | x :: r => (if left (.int .i64 x.1) then sz x.2 else 0) + toCome left r
theorem toCome_all (left : Lit → Bool) : ∀ l : List (Int × Int), (∀ x ∈ l, left (.int .i64 x.1) = true) → toCome left l = sumL l
  | [], _ => rfl
  | x :: r, h => by simp only [toCome, sumL, h x (by simp), if_true, toCome_all left r fun y hy => h y (List.mem_cons_of_mem _ hy)]
theorem toCome_none (left : Lit → Bool) : ∀ l : List (Int × Int), (∀ k, left k = false) → toCome left l = 0
  | [], _ => rfl
  | x :: r, h => by simp [toCome, h, toCome_none left r h]
theorem toCome_bd (left : Lit → Bool) : ∀ l : List (Int × Int), 0 ≤ toCome left l ∧ toCome left l ≤ sumL l
  | [] => ⟨Int.le_refl _, Int.le_refl _⟩
  | x :: r => by
    have := toCome_bd left r
    have := sz_pos x.2
    simp only [toCome, sumL]
    split <;> omega
theorem toCome_skip (left : Lit → Bool) (a : Int) : ∀ l : List (Int × Int), (∀ x ∈ l, x.1 ≠ a) → toCome (fun z => left z && !z.sameKey (.int .i64 a)) l = toCome left l
  | [], _ => rfl
  | x :: r, h => by
    have h0 := h x (by simp)
    have hf : (x.1 == a) = false := beq_eq_false_iff_ne.2 h0
    simp only [toCome, same_key, hf, Bool.not_false, Bool.and_true, toCome_skip left a r fun y hy => h y (List.mem_cons_of_mem _ hy)]
theorem toCome_step (left : Lit → Bool) : ∀ {l : List (Int × Int)} {a k : Int}, Asc l → (a, k) ∈ l → left (.int .i64 a) = true → toCome left l = sz k + toCome (fun z => left z && !z.sameKey (.int .i64 a)) l
  | [], a, k, _, h, _ => by cases h
  | x :: r, a, k, hA, h, hl => by
    obtain ⟨h1, h2⟩ := List.pairwise_cons.1 hA
    rcases List.mem_cons.1 h with rfl | h
    · have := toCome_skip left a r fun y hy => by have := h1 y hy; simp only at this; omega
      simp only [toCome, same_key, hl, this]
      simp
    · have hlt := h1 _ h
      simp only at hlt
      have hf : (x.1 == a) = false := beq_eq_false_iff_ne.2 (by omega)
      have := toCome_step left h2 h hl
      simp only [toCome, same_key, hf, Bool.not_false, Bool.and_true]
      omega
theorem sumL_bd : ∀ (l : List (Int × Int)), (∀ x ∈ l, 0 ≤ x.2 ∧ x.2 ≤ 6) → sumL l ≤ 64 * l.length
  | [], _ => by simp [sumL]
  | x :: r, h => by
    have := sumL_bd r fun y hy => h y (List.mem_cons_of_mem _ hy)
    have h0 := h x (by simp)
    have := sz_le64 h0.1 h0.2
    simp only [sumL, List.length_cons]
    omega

set_option maxHeartbeats 2000000 in
set_option maxRecDepth 100000 in
theorem pages_ok (pb : Nat) (n : Int) (bf bt : Nat) (F T : List (Int × Int)) (w : World) (hb : Bud w pb n bf bt F T) :
    Calls Tryz.prog 32 #[.pointer (some ⟨pb, 0, none⟩)] w fun e w' => e = .returned (.tuple #[.int .i64 (sumL F), .int .i64 n]) ∧ Below w.heap.size w w' := by
  have c0 := hb.c0; have c1 := hb.c1
  have lp := hb.ltp
  have hown := hb.free.own
  have hA := Lib.hid hb.free.asc
  have hR := Lib.hid hb.free.rng
  have few := hb.free.few
  have hbd := sumL_bd F fun x hx => (hR.out x hx).2.2
  have sn := sumL_nonneg F
  have lf := hb.ltf
  clear hb
  go_enter Tryz.func32, Tryz.ntmps32
  go_wp2_with (first
    | (at_range; refine wpList_range_own _ rfl _ 102 rfl 3 3 keyInt Tryz.underlying102 _ bf F.length _ rfl hown ?_; intro w0 hrg0 hg0 hs0)
    | go_in)
  go_frame
  have HO := Lib.hid hown
  clear hown
  have K0 : Below w.heap.size w w0 := (Below.refl _ _).grown hg0 (Nat.le_refl _) (fun j hj => by cases hj)
  have c0' := (K0.cell (p := ⟨pb, 0, none⟩) lp).trans c0
  clear c0 c1
  go_loopw [2, 5] (fun s _ wr => ∃ (left : Lit → Bool) (cnt : Nat), Hid (wr.ranges Tryz.prog 3 (plainElem Tryz.prog 3) bf w.heap.size F.length (toD (H := Unit) F) left cnt) ∧ s = .int .i64 (sumL F - toCome left F) ∧ Below w.heap.size w wr)
    (fun _ _ wr => wr.rangeLeft bf w.heap.size)
  case atStart =>
    refine ⟨_, _, hrg0, ?_, K0⟩
    rw [toCome_all _ _ fun x hx => ?_]
    · go_num
    · rw [toD_has, mem_getL hA.out (k := x.2) hx]; rfl
  case round =>
    obtain ⟨left, cnt, HRG, rfl, hbel⟩ := hrel
    have hrg := HRG.out
    have hmeas := hrg.left_eq
    have cr := (hbel.cell (p := ⟨pb, 0, none⟩) lp).trans ((K0.cell (p := ⟨pb, 0, none⟩) lp).symm.trans c0')
    have zr := hbel.size
    have HME := Lib.hid hmeas
    have htc := toCome_bd left F
    clear hrg0 hg0 hs0 c0' hmeas
    go_wp2_with (first
      | (at_next; refine wpList_next_ranges_ii _ rfl _ rfl 3 3 .i64 .i64 keyInt Tryz.underlying3 Tryz.underlying3 bf w.heap.size F.length _ _ _ rfl hrg ?_ ?_)
      | go_in)
    · intro hc0 hl0
      have ht0 := toCome_none left F hl0
      have HT := Lib.hid ht0
      clear hl0 ht0 hrg
      go_wp2
      go_quiet (fail)
      go_wp2
      go_ret2
      exact ⟨by rw [HT.out]; simp, (by repeat (first | exact Below.refl _ _ | refine Below.drew ?_ | refine below_drewN ?_ _ | refine Below.trans ?_ (Below.mono (by assumption) (by first | omega | (simp; omega) | (simp; done))) | refine Below.alloc ?_ (by first | omega | (simp; omega) | (simp; done)) _ | refine Below.setCell ?_ (by first | omega | (simp; omega) | (simp; done)) _))⟩
    · intro x c w1 cnt1 hwx hwc hlx hat hrg1 hlt hg1 hs1 hen
      have hmem : (x, c) ∈ F := by
        have := hat (.lit (.int .i64 0))
        have this2 := hat (.lit (.int .i64 1))
        rw [toD_at] at this this2
        cases hg : getL F x with
        | none => rw [hg] at this this2; simp at this this2; omega
        | some q => rw [hg] at this; simp at this; rw [← this]; exact getL_mem hg
      have hst := toCome_step left hA.out hmem hlx
      have hrc := hR.out _ hmem
      simp only at hrc
      obtain ⟨_, _, k0, k6⟩ := hrc
      have hs := shl_sz' k0 k6
      have htc1 := toCome_bd (fun z => left z && !z.sameKey (.int .i64 x)) F
      obtain ⟨s1, s2⟩ := sz_bd k0 k6
      have HST := Lib.hid hst; have HR1 := Lib.hid hrg1
      clear hst hrg1 hat hmem hrg hwx hwc
      have K1 : Below w.heap.size w w1 := hbel.grown hg1 zr (fun j hj => by cases hj; exact Nat.le_refl _)
      go_wp2
      go_roundw
      case rel => exact ⟨_, _, HR1, by have := HST.out; go_num, K1⟩
      case measure => rw [HR1.out.left_eq, HME.out]; omega
end Go.Proofs.YtigginpcokfihaaGreatDoor
