/- The plain law of covers: the greatest block at a place within so many pages; the list of blocks that are just those pages. No program in sight. -/
import Derived.Test.YtcooflachcimbaaDoorPure
namespace Go.Proofs.YtcooflachcimbaaDoor
open Go.RowKit

/-- the order of the greatest block at a place within n pages -/
def covO (a n : Int) : Int := if a % 64 = 0 ∧ 64 ≤ n then 6 else if a % 32 = 0 ∧ 32 ≤ n then 5 else if a % 16 = 0 ∧ 16 ≤ n then 4 else if a % 8 = 0 ∧ 8 ≤ n then 3 else if a % 4 = 0 ∧ 4 ≤ n then 2 else if a % 2 = 0 ∧ 2 ≤ n then 1 else 0
theorem covO_bd (a n : Int) : 0 ≤ covO a n ∧ covO a n ≤ 6 := by
  unfold covO
  (repeat' split) <;> omega
/-- it fits -/
theorem covO_fits {a n : Int} (h : 1 ≤ n) : a % sz (covO a n) = 0 ∧ sz (covO a n) ≤ n := by
  unfold covO
  (repeat' split) <;> simp only [sz0, sz1, sz2, sz3, sz4, sz5, sz6] <;> omega
/-- a greater one does not -/
theorem covO_max {a n k : Int} (k6 : k ≤ 6) (h : covO a n < k) : ¬ (a % sz k = 0 ∧ sz k ≤ n) := by
  have h0 := (covO_bd a n).1
  have e : k = 1 ∨ k = 2 ∨ k = 3 ∨ k = 4 ∨ k = 5 ∨ k = 6 := by omega
  unfold covO at h
  rcases e with rfl | rfl | rfl | rfl | rfl | rfl <;> simp only [sz1, sz2, sz3, sz4, sz5, sz6] <;> (repeat' split at h) <;> omega
/-- a smaller one does -/
theorem covO_min {a n k : Int} (k0 : 0 ≤ k) (h : k ≤ covO a n) (hn : 1 ≤ n) : a % sz k = 0 ∧ sz k ≤ n := by
  have h6 := (covO_bd a n).2
  have e : k = 0 ∨ k = 1 ∨ k = 2 ∨ k = 3 ∨ k = 4 ∨ k = 5 ∨ k = 6 := by omega
  unfold covO at h
  rcases e with rfl | rfl | rfl | rfl | rfl | rfl | rfl <;> simp only [sz0, sz1, sz2, sz3, sz4, sz5, sz6] <;> (repeat' split at h) <;> omega

def covF : Nat → Int → Int → List (Int × Int)
  | 0, _, _ => []
  | f + 1, a, n => if n ≤ 0 then [] else (a, covO a n) :: covF f (a + sz (covO a n)) (n - sz (covO a n))
/-- the blocks that are just the pages a to a + n - 1 -/
def covL (a n : Int) : List (Int × Int) := covF n.toNat a n

theorem covF_enough : ∀ (f g : Nat) (a n : Int), n.toNat ≤ f → n.toNat ≤ g → covF f a n = covF g a n
  | 0, 0, _, _, _, _ => rfl
  | 0, g + 1, a, n, hf, _ => by
    have : n ≤ 0 := by omega
    simp [covF, this]
  | f + 1, 0, a, n, _, hg => by
    have : n ≤ 0 := by omega
    simp [covF, this]
  | f + 1, g + 1, a, n, hf, hg => by
    unfold covF
    by_cases h : n ≤ 0
    · rw [if_pos h, if_pos h]
    · rw [if_neg h, if_neg h]
      have hb := covO_bd a n
      have hs := (sz_bd hb.1 hb.2).1
      rw [covF_enough f g _ _ (by omega) (by omega)]
theorem covL_zero {a n : Int} (h : n ≤ 0) : covL a n = [] := by
  unfold covL
  have : n.toNat = 0 := by omega
  rw [this]; rfl
theorem covL_step {a n : Int} (h : 1 ≤ n) : covL a n = (a, covO a n) :: covL (a + sz (covO a n)) (n - sz (covO a n)) := by
  have hb := covO_bd a n
  have hs := (sz_bd hb.1 hb.2).1
  unfold covL
  obtain ⟨f, hf⟩ : ∃ f, n.toNat = f + 1 := ⟨n.toNat - 1, by omega⟩
  rw [hf]
  show (if n ≤ 0 then [] else _) = _
  rw [if_neg (by omega)]
  rw [covF_enough f (n - sz (covO a n)).toNat _ _ (by omega) (Nat.le_refl _)]
/-- no more blocks than pages -/
theorem covL_length : ∀ (f : Nat) (a n : Int), n.toNat ≤ f → ((covL a n).length : Int) ≤ n.toNat
  | 0, a, n, h => by rw [covL_zero (by omega)]; exact Int.natCast_nonneg _
  | f + 1, a, n, h => by
    by_cases h0 : n ≤ 0
    · rw [covL_zero h0]; exact Int.natCast_nonneg _
    · have hb := covO_bd a n
      have hs := (sz_bd hb.1 hb.2).1
      rw [covL_step (by omega)]
      have := covL_length f (a + sz (covO a n)) (n - sz (covO a n)) (by omega)
      simp only [List.length_cons]
      omega
/-- what a chain of blocks is: they follow each other, right ones all, up to an end -/
def Chain (e : Int) : Int → List (Int × Int) → Prop
  | a, [] => a = e
  | a, b :: r => b.1 = a ∧ 0 ≤ b.2 ∧ b.2 ≤ 6 ∧ a % sz b.2 = 0 ∧ a + sz b.2 ≤ e ∧ Chain e (a + sz b.2) r
theorem covL_chain : ∀ (f : Nat) (a n : Int), n.toNat ≤ f → 0 ≤ n → Chain (a + n) a (covL a n)
  | 0, a, n, h, hn => by
    have : n = 0 := by omega
    subst this
    rw [covL_zero (by omega)]
    simp [Chain]
  | f + 1, a, n, h, hn => by
    by_cases h0 : n = 0
    · subst h0
      rw [covL_zero (by omega)]
      simp [Chain]
    · have hb := covO_bd a n
      have hs := (sz_bd hb.1 hb.2).1
      obtain ⟨f1, f2⟩ := covO_fits (a := a) (n := n) (by omega)
      rw [covL_step (by omega)]
      have := covL_chain f (a + sz (covO a n)) (n - sz (covO a n)) (by omega) (by omega)
      refine ⟨rfl, hb.1, hb.2, f1, (show a + sz (covO a n) ≤ a + n by omega), ?_⟩
      rwa [show a + sz (covO a n) + (n - sz (covO a n)) = a + n from by omega] at this
end Go.Proofs.YtcooflachcimbaaDoor
