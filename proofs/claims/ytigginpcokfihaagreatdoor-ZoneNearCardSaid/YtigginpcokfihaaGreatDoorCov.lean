/- frames.Cover and the document's CoverOf by their contracts: a new slice that holds just the blocks of the plain law. -/
import Derived.Test.YtigginpcokfihaaGreatDoorPlain
import Derived.Test.YtigginpcokfihaaGreatDoorFramesB
import Derived.Test.YtigginpcokfihaaGreatDoorRef
import Derived.LoopTactic
import Derived.OwnWalk
namespace Go.Proofs.YtigginpcokfihaaGreatDoor
open Go.RowKit
set_option linter.unusedSimpArgs false

/-- blocks as cells -/
def encB (l : List (Int × Int)) : List Value := l.flatMap fun b => [.int .i64 b.1, .int .i64 b.2]
theorem encB_snoc (l : List (Int × Int)) (b : Int × Int) : encB (l ++ [b]) = encB l ++ [.int .i64 b.1, .int .i64 b.2] := by simp [encB]
theorem encB_length (l : List (Int × Int)) : (encB l).length = 2 * l.length := by
  induction l with
  | nil => rfl
  | cons b r ih => simp [encB] at ih ⊢; omega
theorem infoB : (Tryz.prog.info? 39).map (fun i => (i.zero, i.size, i.bytes)) = some (some (.agg #[.int .i64 0, .int .i64 0]), 2, 16) := by kernel_rfl

theorem new_two (w : World) (u0 u1 : Value) (t : TypeId) : ∀ j u, [u0, u1][j]? = some u → (w.alloc (.cells #[u0, u1] t)).cell? ((⟨w.heap.size, 0, none⟩ : Addr).add j) = some u := by
  intro j u hu
  match j, hu with
  | 0, hu => simp at hu; subst hu; simp [Addr.add]
  | 1, hu => simp at hu; subst hu; simp [Addr.add]
theorem one_two (a k : Int) : ∀ u ∈ [Value.int .i64 a, Value.int .i64 k], u.oneCell' = true := by
  intro u hu
  simp at hu
  rcases hu with rfl | rfl <;> rfl

/-- a slice of blocks of the call's own -/
def OwnB (w w' : World) (v : Value) (l : List (Int × Int)) : Prop := w'.ownsRow w.heap.size 39 2 v l.length (encB l) ∧ Below w.heap.size w w'
/-- what Cover answers -/
def CovPost (w : World) (l : List (Int × Int)) (x : Value) (e : Ending) (w' : World) : Prop := ∃ v, e = .returned (.tuple #[v, x]) ∧ OwnB w w' v l

set_option maxHeartbeats 2000000 in
set_option maxRecDepth 100000 in
theorem cover_ok (a n : Int) (w : World) (a0 : 0 ≤ a) (n0 : 0 ≤ n) (h : a + n ≤ 256) :
    Calls Tryz.prog 53 #[.int .i64 a, .int .i64 n] w (CovPost w (covL a n) .nilIface) := by
  obtain ⟨i0, hi, hz0, hz1, hz2⟩ := info_parts infoB
  have hlen := covL_length n.toNat a n (Nat.le_refl _)
  have d1 : decide (a < 0) = false := decide_eq_false (by omega)
  have d2 : decide (n < 0) = false := decide_eq_false (by omega)
  have d3 : decide (256 < a) = false := decide_eq_false (by omega)
  have d4 : decide (256 - a < n) = false := decide_eq_false (by omega)
  go_enter Tryz.func53, Tryz.ntmps53
  go_wp2_with fail
  clear d1 d2 d3 d4
  go_loopw [0, 1, 6] (fun xa xn v wr => ∃ (x m : Int) (done : List (Int × Int)), xa = .int .i64 x ∧ xn = .int .i64 m ∧ 0 ≤ x ∧ 0 ≤ m ∧ x + m ≤ 256 ∧ covL a n = done ++ covL x m ∧ wr.ownsRow w.heap.size 39 2 v done.length (encB done) ∧ Below w.heap.size w wr) (fun _ xn _ _ => (intOf xn).toNat)
  case atStart => exact ⟨a, n, [], rfl, rfl, a0, n0, h, rfl, World.ownsRow_nil _ _ _ _, Below.refl _ _⟩
  case round =>
    obtain ⟨x, m, done, rfl, rfl, x0, m0, hxm, hcov, hown, hbel⟩ := hrel
    have hdl : (done.length : Int) ≤ n.toNat := by rw [hcov] at hlen; simp at hlen; omega
    by_cases hm : m < 1
    · have e : m = 0 := by omega
      subst e
      rw [covL_zero (Int.le_refl _), List.append_nil] at hcov
      have HC := Lib.hid hcov
      clear hcov
      go_wp2
      go_ret2
      exact ⟨_, rfl, by rw [HC.out]; exact ⟨hown, hbel⟩⟩
    · have hst := covL_step (a := x) (n := m) (by omega)
      obtain ⟨k0, k6⟩ := covO_bd x m
      obtain ⟨s1, s2⟩ := sz_bd k0 k6
      obtain ⟨f1, f2⟩ := covO_fits (a := x) (n := m) (by omega)
      have hmax := fun j : Int => covO_max (a := x) (n := m) (k := j)
      have hm1 : 1 ≤ m := by omega
      clear hm
      generalize covO x m = k at *
      have HST := Lib.hid hst; have HMAX := Lib.hid hmax; have F1 := Lib.hid f1; have HC := Lib.hid hcov
      clear hst hmax f1 hcov
      go_wp2
      go_loop [7] (fun kv => ∃ j : Int, k ≤ j ∧ j ≤ 6 ∧ kv = .int .i64 j) (fun kv => (intOf kv).toNat)
      case atStart => exact ⟨6, k6, by omega, rfl⟩
      case round =>
        obtain ⟨j, hkj, hj6, rfl⟩ := hrel
        have hs := shl_sz' (k := j) (by omega) hj6
        have hn := and_sz (a := x) (k := j) x0 (by omega) (by omega) hj6
        obtain ⟨t1, t2⟩ := sz_bd (k := j) (by omega) hj6
        by_cases hlt : k < j
        · have hno := HMAX.out j hj6 hlt
          by_cases hx : x % sz j = 0
          · have hbig : m < sz j := by
              rcases Int.lt_or_le m (sz j) with h' | h'
              · exact h'
              · exact absurd ⟨hx, h'⟩ hno
            have hb : (x % sz j != 0) = false := by simp [hx]
            clear hno hx
            go_wp2
            go_round
            case rel => exact ⟨j - 1, by omega, by omega, rfl⟩
            case measure => simp [intOf]; omega
          · have hb : (x % sz j != 0) = true := by simp [hx]
            clear hno hx
            go_wp2
            go_round
            case rel => exact ⟨j - 1, by omega, by omega, rfl⟩
            case measure => simp [intOf]; omega
        · obtain rfl : j = k := by omega
          have hb : (x % sz j != 0) = false := by simp [F1.out]
          have hle : sz j ≤ m := f2
          go_wp2_with (first | (at_builtin; refine wpList_append_own _ rfl _ _ 75 rfl w.heap.size 39 i0 (.agg #[.int .i64 0, .int .i64 0]) 2 16 Tryz.underlying75 hi hz0 hz1 hz2 rfl (by decide) _ _ _ rfl (hown.alloc _) ⟨wr.heap.size, 0, none⟩ 1 1 [.int .i64 x, .int .i64 j] rfl rfl (new_two _ _ _ _) (one_two _ _) ?c3 ?c4 ?c5 ?_))
          case c3 => unfold maxLen; omega
          case c4 => omega
          case c5 => have := hbel.size; simp; omega
          intro v' w1 hown' hgrow _
          have hbel' : Below w.heap.size w w1 := (hbel.alloc hbel.size _).grown hgrow (by have := hbel.size; simp; omega) (fun r hr => (hown.lt r hr).1)
          have OW := Lib.hid hown'
          clear hown' hgrow hown hbel
          go_wp2
          go_quiet (fail)
          go_wp2
          go_roundw
          case rel =>
            refine ⟨x + sz j, m - sz j, done ++ [(x, j)], rfl, rfl, by omega, by omega, by omega, ?_, ?_, ?_⟩
            · rw [HC.out, HST.out]; simp
            · rw [encB_snoc]; exact (show w1.ownsRow _ _ _ _ _ _ by simpa using OW.out)
            · exact below_drewN hbel' _
          case measure => simp [intOf]; omega
end Go.Proofs.YtigginpcokfihaaGreatDoor
