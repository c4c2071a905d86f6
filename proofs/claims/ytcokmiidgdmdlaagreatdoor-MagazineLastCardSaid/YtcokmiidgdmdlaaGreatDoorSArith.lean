/- Plain: where an object lies on a slab's page, as the program reckons it. -/
import Derived.Test.YtcokmiidgdmdlaaGreatDoorZPl
import Derived.IntWalk
namespace Go.Proofs.YtcokmiidgdmdlaaGreatDoor
open Go.RowKit
set_option linter.unusedSimpArgs false
set_option linter.unusedVariables false

/-- how far behind a page's begin, in the program's numbers -/
def offW (oa pg : Int) : Int := IntKind.i64.wrap (oa - pg * 64)
theorem offW_of {oa pg : Int} (h1 : -9223372036854775808 ≤ oa) (h2 : oa ≤ 9223372036854775807) (h3 : 0 ≤ pg) (h4 : pg < 256) :
    (offW oa pg = oa - pg * 64) ∨ (oa - pg * 64 < 0 ∧ 9223372036854000000 ≤ offW oa pg ∧ offW oa pg ≤ 9223372036854775807) := by
  unfold offW
  rw [IntKind.wrap_i64]
  omega
theorem offW_fit (oa pg : Int) : -9223372036854775808 ≤ offW oa pg ∧ offW oa pg ≤ 9223372036854775807 := by
  unfold offW
  rw [IntKind.wrap_i64]
  omega
/-- the number of an object there -/
def numW (e : Nat) (oa pg : Int) : Nat := (offW oa pg / e).toNat
theorem hasS_W {e : Nat} (e1 : 1 ≤ e) (e2 : e ≤ 64) {n oa : Int} (h1 : -9223372036854775808 ≤ oa) (h2 : oa ≤ 9223372036854775807) {s : Sl} (h3 : 0 ≤ s.pg) (h4 : s.pg < 256) (hl : s.T.length ≤ 64) :
    hasS e (n, oa) s = (decide (s.nd = n) && decide (0 ≤ offW oa s.pg) && decide (offW oa s.pg % e = 0) && decide (numW e oa s.pg < s.T.length) && (s.T[numW e oa s.pg]? == some true)) := by
  have key : (s.T[numW e oa s.pg]? == some true) = (decide (numW e oa s.pg < s.T.length) && (s.T[numW e oa s.pg]? == some true)) := by
    by_cases hq : numW e oa s.pg < s.T.length
    · rw [decide_eq_true hq, Bool.true_and]
    · rw [decide_eq_false hq, Bool.false_and, List.getElem?_eq_none (by omega)]; rfl
  rcases offW_of h1 h2 h3 h4 with q | ⟨q1, q2, q3⟩
  · have hn : numW e oa s.pg = ((oa - s.pg * 64) / e).toNat := by unfold numW; rw [q]
    rw [Bool.and_assoc, ← key, q, hn]
    rfl
  · have big : ¬ numW e oa s.pg < s.T.length := by
      have : offW oa s.pg / e ≥ 9223372036854000000 / 64 := by
        calc (9223372036854000000 : Int) / 64 ≤ offW oa s.pg / 64 := by omega
          _ ≤ offW oa s.pg / e := by
            have he : (0 : Int) < e := by omega
            rw [Int.le_ediv_iff_mul_le he]
            have h64 : offW oa s.pg / 64 * (e : Int) ≤ offW oa s.pg / 64 * 64 := Int.mul_le_mul_of_nonneg_left (by omega) (by omega)
            omega
      unfold numW
      omega
    rw [decide_eq_false big]
    unfold hasS
    rw [decide_eq_false (show ¬ (0 : Int) ≤ (n, oa).2 - s.pg * 64 by simp only; omega)]
    simp
theorem kOf_W {e : Nat} (e1 : 1 ≤ e) (e2 : e ≤ 64) {n oa : Int} (h1 : -9223372036854775808 ≤ oa) (h2 : oa ≤ 9223372036854775807) {s : Sl} (h3 : 0 ≤ s.pg) (h4 : s.pg < 256) (hl : s.T.length ≤ 64) (h : hasS e (n, oa) s = true) : numW e oa s.pg = kOf e (n, oa) s := by
  rcases offW_of h1 h2 h3 h4 with q | ⟨q1, q2, q3⟩
  · unfold numW kOf; rw [q]
  · unfold hasS at h
    simp only [Bool.and_eq_true, decide_eq_true_eq] at h
    omega
theorem quo_W {e : Nat} (e1 : 1 ≤ e) {oa pg : Int} (h : 0 ≤ offW oa pg) : (offW oa pg).tdiv (e : Int) = (numW e oa pg : Int) ∧ (offW oa pg).tmod (e : Int) = offW oa pg % e := by
  have hd : 0 ≤ offW oa pg / (e : Int) := Int.ediv_nonneg h (by omega)
  refine ⟨?_, Int.tmod_eq_emod_of_nonneg h⟩
  unfold numW
  rw [Int.tdiv_eq_ediv_of_nonneg h, Int.toNat_of_nonneg hd]
end Go.Proofs.YtcokmiidgdmdlaaGreatDoor
