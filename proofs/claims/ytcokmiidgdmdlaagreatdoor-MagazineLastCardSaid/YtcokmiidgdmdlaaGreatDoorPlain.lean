/- Plain laws of pages and of blocks of pages: sizes of orders, alignment, buddies, parents; what Go's bit operations are on such numbers. No program in sight. The plain law of covers: the greatest block at a place within so many pages; the list of blocks that are just those pages. No program in sight. Plain: a map from where a block begins to its order, as a list that is sorted by where they begin. Plain: blocks of pages that tile; a tiling without two buddies is the only one. Plain: a tiling, one of whose blocks is cut in two halves; and back. Plain: tilings over whole numbers: a block's begin and its order; cut in halves, joined again; only one without buddies. Plain: what taking, giving back and splitting make of the free and of the taken blocks; what stays true: each page in one block, no two free buddies. Plain: the cover that a new buddy begins with tiles, and has no two buddies; how many blocks and pages there are; given back, all is as at the beginning. Plain: the document's lists of blocks, cut and joined by numbers, are the sorted maps. Plain: going through the free and the taken blocks side by side, each page is met once. -/
import Derived.WalkKit
namespace Go.Proofs.YtcokmiidgdmdlaaGreatDoor
open Go.RowKit

/-- pages of an order -/
def sz (k : Int) : Int := 2 ^ k.toNat
theorem ord_cases {k : Int} (h0 : 0 ≤ k) (h6 : k ≤ 6) : k = 0 ∨ k = 1 ∨ k = 2 ∨ k = 3 ∨ k = 4 ∨ k = 5 ∨ k = 6 := by omega
theorem ord_cases7 {k : Int} (h0 : 0 ≤ k) (h6 : k ≤ 7) : k = 0 ∨ k = 1 ∨ k = 2 ∨ k = 3 ∨ k = 4 ∨ k = 5 ∨ k = 6 ∨ k = 7 := by omega
theorem sz0 : sz 0 = 1 := rfl
theorem sz1 : sz 1 = 2 := rfl
theorem sz2 : sz 2 = 4 := rfl
theorem sz3 : sz 3 = 8 := rfl
theorem sz4 : sz 4 = 16 := rfl
theorem sz5 : sz 5 = 32 := rfl
theorem sz6 : sz 6 = 64 := rfl
theorem sz7 : sz 7 = 128 := rfl
theorem sz_bd {k : Int} (h0 : 0 ≤ k) (h6 : k ≤ 6) : 1 ≤ sz k ∧ sz k ≤ 64 := by
  rcases ord_cases h0 h6 with rfl | rfl | rfl | rfl | rfl | rfl | rfl <;> decide
theorem sz_bd7 {k : Int} (h0 : 0 ≤ k) (h6 : k ≤ 7) : 1 ≤ sz k ∧ sz k ≤ 128 := by
  rcases ord_cases7 h0 h6 with rfl | rfl | rfl | rfl | rfl | rfl | rfl | rfl <;> decide
theorem sz_succ {k : Int} (h0 : 0 ≤ k) (h6 : k ≤ 6) : sz (k + 1) = 2 * sz k := by
  rcases ord_cases h0 h6 with rfl | rfl | rfl | rfl | rfl | rfl | rfl <;> decide
theorem shl_sz {k : Int} (h0 : 0 ≤ k) (h6 : k ≤ 6) : wrap64 (2 ^ min k.toNat 64) = sz k := by
  unfold wrap64
  rcases ord_cases h0 h6 with rfl | rfl | rfl | rfl | rfl | rfl | rfl <;> decide

theorem shl_sz' {k : Int} (h0 : 0 ≤ k) (h6 : k ≤ 6) : wrap64 (2 ^ k.toNat) = sz k := by
  unfold wrap64
  rcases ord_cases h0 h6 with rfl | rfl | rfl | rfl | rfl | rfl | rfl <;> decide

theorem bits_table : ∀ a : Fin 512, ∀ k : Fin 7,
    bits .and .i64 ((a.val : Nat) : Int) (((2 ^ k.val : Nat) : Int) - 1) = (((a.val % 2 ^ k.val : Nat)) : Int)
    ∧ bits .xor .i64 ((a.val : Nat) : Int) ((2 ^ k.val : Nat) : Int) = (if a.val % (2 * 2 ^ k.val) < 2 ^ k.val then ((a.val : Nat) : Int) + ((2 ^ k.val : Nat) : Int) else ((a.val : Nat) : Int) - ((2 ^ k.val : Nat) : Int))
    ∧ bits .andNot .i64 ((a.val : Nat) : Int) ((2 ^ k.val : Nat) : Int) = (if a.val % (2 * 2 ^ k.val) < 2 ^ k.val then ((a.val : Nat) : Int) else ((a.val : Nat) : Int) - ((2 ^ k.val : Nat) : Int)) := by
  decide +kernel

theorem bits_at {a k : Int} (h0 : 0 ≤ a) (h1 : a < 512) (k0 : 0 ≤ k) (k6 : k ≤ 6) :
    bits .and .i64 a (sz k - 1) = a % sz k
    ∧ bits .xor .i64 a (sz k) = (if a % (2 * sz k) < sz k then a + sz k else a - sz k)
    ∧ bits .andNot .i64 a (sz k) = (if a % (2 * sz k) < sz k then a else a - sz k) := by
  obtain ⟨n, rfl⟩ := Int.eq_ofNat_of_zero_le h0
  obtain ⟨m, rfl⟩ := Int.eq_ofNat_of_zero_le k0
  have t := bits_table ⟨n, by omega⟩ ⟨m, by omega⟩
  have e : sz (m : Int) = ((2 ^ m : Nat) : Int) := by simp [sz]
  have e2 : (2 : Int) * ((2 ^ m : Nat) : Int) = ((2 * 2 ^ m : Nat) : Int) := by simp
  rw [e, e2]
  simp only [← Int.natCast_emod, Int.ofNat_lt] at t ⊢
  exact t
theorem and_sz {a k : Int} (h0 : 0 ≤ a) (h1 : a < 512) (k0 : 0 ≤ k) (k6 : k ≤ 6) : bits .and .i64 a (sz k - 1) = a % sz k := (bits_at h0 h1 k0 k6).1

/-- a block's own error: its number in the document -/
def aloneE (a k : Int) : Nat := if a < 0 ∨ 256 ≤ a ∨ k < 0 ∨ 6 < k then 2 else if a % sz k = 0 then 0 else 3
def checkE (a k n : Int) : Nat := if n < 1 ∨ 256 < n ∨ k < 0 ∨ 6 < k ∨ a < 0 ∨ n - sz k < a then 2 else if a % sz k = 0 then 0 else 3
/-- where a block's parent begins; where its buddy begins -/
def parA (a k : Int) : Int := if a % (2 * sz k) < sz k then a else a - sz k
def budA (a k : Int) : Int := if a % (2 * sz k) < sz k then a + sz k else a - sz k
theorem xor_sz {a k : Int} (h0 : 0 ≤ a) (h1 : a < 512) (k0 : 0 ≤ k) (k6 : k ≤ 6) : bits .xor .i64 a (sz k) = budA a k := (bits_at h0 h1 k0 k6).2.1
theorem andNot_sz {a k : Int} (h0 : 0 ≤ a) (h1 : a < 512) (k0 : 0 ≤ k) (k6 : k ≤ 6) : bits .andNot .i64 a (sz k) = parA a k := (bits_at h0 h1 k0 k6).2.2

theorem aloneE_cases (a k : Int) : (aloneE a k = 2 ∧ (a < 0 ∨ 256 ≤ a ∨ k < 0 ∨ 6 < k)) ∨ ((0 ≤ a ∧ a ≤ 255 ∧ 0 ≤ k ∧ k ≤ 6) ∧ ((aloneE a k = 3 ∧ a % sz k ≠ 0) ∨ (aloneE a k = 0 ∧ a % sz k = 0))) := by
  unfold aloneE
  by_cases h : a < 0 ∨ 256 ≤ a ∨ k < 0 ∨ 6 < k
  · exact .inl ⟨by rw [if_pos h], h⟩
  · refine .inr ⟨by omega, ?_⟩
    by_cases h2 : a % sz k = 0
    · exact .inr ⟨by rw [if_neg h, if_pos h2], h2⟩
    · exact .inl ⟨by rw [if_neg h, if_neg h2], h2⟩
/-- the error of Buddy and Parent; of Halves -/
def upE (a k : Int) : Nat := if aloneE a k = 0 then (if k = 6 then 4 else 0) else aloneE a k
def downE (a k : Int) : Nat := if aloneE a k = 0 then (if k = 0 then 4 else 0) else aloneE a k
theorem aloneE_zero {a k : Int} (h : aloneE a k = 0) : 0 ≤ a ∧ a ≤ 255 ∧ 0 ≤ k ∧ k ≤ 6 ∧ a % sz k = 0 := by
  rcases aloneE_cases a k with ⟨h2, _⟩ | ⟨⟨a0, a1, k0, k6⟩, ⟨h2, _⟩ | ⟨_, h2⟩⟩
  · omega
  · omega
  · exact ⟨a0, a1, k0, k6, h2⟩
theorem upE_zero {a k : Int} (h : upE a k = 0) : aloneE a k = 0 ∧ k ≠ 6 := by
  unfold upE at h
  by_cases h1 : aloneE a k = 0
  · rw [if_pos h1] at h
    exact ⟨h1, fun e => by rw [if_pos e] at h; omega⟩
  · rw [if_neg h1] at h; omega
theorem downE_zero {a k : Int} (h : downE a k = 0) : aloneE a k = 0 ∧ k ≠ 0 := by
  unfold downE at h
  by_cases h1 : aloneE a k = 0
  · rw [if_pos h1] at h
    exact ⟨h1, fun e => by rw [if_pos e] at h; omega⟩
  · rw [if_neg h1] at h; omega
theorem upE_cases {a k : Int} {c : Nat} (h : upE a k = c + 1) : aloneE a k = c + 1 ∨ (aloneE a k = 0 ∧ k = 6 ∧ c = 3) := by
  unfold upE at h
  by_cases h1 : aloneE a k = 0
  · rw [if_pos h1] at h
    by_cases e : k = 6
    · rw [if_pos e] at h; exact .inr ⟨h1, e, by omega⟩
    · rw [if_neg e] at h; omega
  · rw [if_neg h1] at h; exact .inl h
theorem downE_cases {a k : Int} {c : Nat} (h : downE a k = c + 1) : aloneE a k = c + 1 ∨ (aloneE a k = 0 ∧ k = 0 ∧ c = 3) := by
  unfold downE at h
  by_cases h1 : aloneE a k = 0
  · rw [if_pos h1] at h
    by_cases e : k = 0
    · rw [if_pos e] at h; exact .inr ⟨h1, e, by omega⟩
    · rw [if_neg e] at h; omega
  · rw [if_neg h1] at h; exact .inl h
theorem aloneE_mk {a k : Int} (a0 : 0 ≤ a) (a1 : a ≤ 255) (k0 : 0 ≤ k) (k6 : k ≤ 6) (h : a % sz k = 0) : aloneE a k = 0 := by
  unfold aloneE
  rw [if_neg (by omega), if_pos h]
theorem upE_mk {a k : Int} (h : aloneE a k = 0) (h6 : k ≠ 6) : upE a k = 0 := by unfold upE; rw [if_pos h, if_neg h6]
theorem downE_mk {a k : Int} (h : aloneE a k = 0) (h6 : k ≠ 0) : downE a k = 0 := by unfold downE; rw [if_pos h, if_neg h6]
/-- what a right block below the greatest order, its buddy and its parent are to each other -/
theorem kin {a k : Int} (a0 : 0 ≤ a) (a1 : a ≤ 255) (k0 : 0 ≤ k) (k5 : k ≤ 5) (ha : a % sz k = 0) :
    (0 ≤ budA a k ∧ budA a k ≤ 255 ∧ budA a k % sz k = 0) ∧ budA (budA a k) k = a ∧ parA (budA a k) k = parA a k ∧ (0 ≤ parA a k ∧ parA a k ≤ 255 ∧ parA a k % sz (k + 1) = 0) ∧
    ((parA a k = a ∧ budA a k = parA a k + sz k) ∨ (parA a k = budA a k ∧ a = parA a k + sz k)) ∧ parA a k = a / (2 * sz k) * (2 * sz k) ∧ (budA a k = if parA a k = a then a + sz k else parA a k) := by
  have e : k = 0 ∨ k = 1 ∨ k = 2 ∨ k = 3 ∨ k = 4 ∨ k = 5 := by omega
  rcases e with rfl | rfl | rfl | rfl | rfl | rfl <;> simp only [budA, parA, sz0, sz1, sz2, sz3, sz4, sz5, sz6, show (0 : Int) + 1 = 1 from rfl, show (1 : Int) + 1 = 2 from rfl, show (2 : Int) + 1 = 3 from rfl, show (3 : Int) + 1 = 4 from rfl, show (4 : Int) + 1 = 5 from rfl, show (5 : Int) + 1 = 6 from rfl] at * <;> (refine ⟨⟨?_, ?_, ?_⟩, ?_, ?_, ⟨?_, ?_, ?_⟩, ?_, ?_, ?_⟩ <;> omega)
theorem kin_p {a k : Int} (a0 : 0 ≤ a) (a1 : a ≤ 255) (k0 : 0 ≤ k) (k5 : k ≤ 5) (ha : a % sz k = 0) : 0 ≤ parA a k ∧ parA a k ≤ 255 := by
  obtain ⟨_, _, _, ⟨p0, p1, _⟩, _⟩ := kin a0 a1 k0 k5 ha
  exact ⟨p0, p1⟩
theorem kin_q {a k : Int} (a0 : 0 ≤ a) (a1 : a ≤ 255) (k0 : 0 ≤ k) (k5 : k ≤ 5) (ha : a % sz k = 0) : a / sz (k + 1) * sz (k + 1) = parA a k := by
  obtain ⟨_, _, _, _, _, hp, _⟩ := kin a0 a1 k0 k5 ha
  rw [sz_succ k0 (by omega)]; exact hp.symm
theorem kin_b {a k : Int} (a0 : 0 ≤ a) (a1 : a ≤ 255) (k0 : 0 ≤ k) (k5 : k ≤ 5) (ha : a % sz k = 0) : (parA a k = a ∧ budA a k = a + sz k) ∨ (parA a k ≠ a ∧ budA a k = parA a k) := by
  obtain ⟨_, _, _, _, _, _, hb⟩ := kin a0 a1 k0 k5 ha
  by_cases h : parA a k = a
  · rw [if_pos h] at hb; exact .inl ⟨h, hb⟩
  · rw [if_neg h] at hb; exact .inr ⟨h, hb⟩
theorem twice {a k : Int} (h : upE a k = 0) : upE (budA a k) k = 0 ∧ budA (budA a k) k = a ∧ parA (budA a k) k = parA a k ∧ downE (parA a k) (k + 1) = 0 ∧
    ((parA a k = a ∧ budA a k = parA a k + sz k) ∨ (parA a k = budA a k ∧ a = parA a k + sz k)) := by
  obtain ⟨h1, h6⟩ := upE_zero h
  obtain ⟨a0, a1, k0, k6, ha⟩ := aloneE_zero h1
  obtain ⟨⟨b0, b1, b2⟩, c, d, ⟨p0, p1, p2⟩, f, _⟩ := kin a0 a1 k0 (by omega) ha
  exact ⟨upE_mk (aloneE_mk b0 b1 k0 k6 b2) h6, c, d, downE_mk (aloneE_mk p0 p1 (by omega) (by omega) p2) (by omega), f⟩
/-- the least order that has so many pages -/
def ordI (n : Int) : Int := if n ≤ 1 then 0 else if n ≤ 2 then 1 else if n ≤ 4 then 2 else if n ≤ 8 then 3 else if n ≤ 16 then 4 else if n ≤ 32 then 5 else 6
theorem ordI_bd (n : Int) : 0 ≤ ordI n ∧ ordI n ≤ 6 := by
  unfold ordI
  (repeat' split) <;> omega
theorem ordI_le {n : Int} (h : n ≤ 64) : n ≤ sz (ordI n) := by
  unfold ordI
  (repeat' split) <;> simp only [sz0, sz1, sz2, sz3, sz4, sz5, sz6] <;> omega
theorem ordI_lt {n j : Int} (h0 : 0 ≤ j) (h : j < ordI n) : sz j < n := by
  have hb := (ordI_bd n).2
  have e : j = 0 ∨ j = 1 ∨ j = 2 ∨ j = 3 ∨ j = 4 ∨ j = 5 := by omega
  unfold ordI at h
  rcases e with rfl | rfl | rfl | rfl | rfl | rfl <;> simp only [sz0, sz1, sz2, sz3, sz4, sz5] <;> (repeat' split at h) <;> omega
theorem sz_le64 {k : Int} (h0 : 0 ≤ k) (h6 : k ≤ 6) : sz k ≤ 64 := (sz_bd h0 h6).2
end Go.Proofs.YtcokmiidgdmdlaaGreatDoor

namespace Go.Proofs.YtcokmiidgdmdlaaGreatDoor
open Go.RowKit

/-- the order of the greatest block at a place within n pages -/
def covO (a n : Int) : Int := if a % 64 = 0 ∧ 64 ≤ n then 6 else if a % 32 = 0 ∧ 32 ≤ n then 5 else if a % 16 = 0 ∧ 16 ≤ n then 4 else if a % 8 = 0 ∧ 8 ≤ n then 3 else if a % 4 = 0 ∧ 4 ≤ n then 2 else if a % 2 = 0 ∧ 2 ≤ n then 1 else 0
theorem covO_bd (a n : Int) : 0 ≤ covO a n ∧ covO a n ≤ 6 := by
  unfold covO
  (repeat' split) <;> omega
/-- it fits -/
theorem covO_fits {a n : Int} (h : 1 ≤ n) : a % sz (covO a n) = 0 ∧ sz (covO a n) ≤ n := by
  unfold covO
  (repeat' split) <;> simp only [sz0, sz1, sz2, sz3, sz4, sz5, sz6] <;> omega
/-- a greater one does not -/
theorem covO_max {a n k : Int} (k6 : k ≤ 6) (h : covO a n < k) : ¬ (a % sz k = 0 ∧ sz k ≤ n) := by
  have h0 := (covO_bd a n).1
  have e : k = 1 ∨ k = 2 ∨ k = 3 ∨ k = 4 ∨ k = 5 ∨ k = 6 := by omega
  unfold covO at h
  rcases e with rfl | rfl | rfl | rfl | rfl | rfl <;> simp only [sz1, sz2, sz3, sz4, sz5, sz6] <;> (repeat' split at h) <;> omega
/-- a smaller one does -/
theorem covO_min {a n k : Int} (k0 : 0 ≤ k) (h : k ≤ covO a n) (hn : 1 ≤ n) : a % sz k = 0 ∧ sz k ≤ n := by
  have h6 := (covO_bd a n).2
  have e : k = 0 ∨ k = 1 ∨ k = 2 ∨ k = 3 ∨ k = 4 ∨ k = 5 ∨ k = 6 := by omega
  unfold covO at h
  rcases e with rfl | rfl | rfl | rfl | rfl | rfl | rfl <;> simp only [sz0, sz1, sz2, sz3, sz4, sz5, sz6] <;> (repeat' split at h) <;> omega

def covF : Nat → Int → Int → List (Int × Int)
  | 0, _, _ => []
  | f + 1, a, n => if n ≤ 0 then [] else (a, covO a n) :: covF f (a + sz (covO a n)) (n - sz (covO a n))
/-- the blocks that are just the pages a to a + n - 1 -/
def covL (a n : Int) : List (Int × Int) := covF n.toNat a n

theorem covF_enough : ∀ (f g : Nat) (a n : Int), n.toNat ≤ f → n.toNat ≤ g → covF f a n = covF g a n
  | 0, 0, _, _, _, _ => rfl
  | 0, g + 1, a, n, hf, _ => by
    have : n ≤ 0 := by omega
    simp [covF, this]
  | f + 1, 0, a, n, _, hg => by
    have : n ≤ 0 := by omega
    simp [covF, this]
  | f + 1, g + 1, a, n, hf, hg => by
    unfold covF
    by_cases h : n ≤ 0
    · rw [if_pos h, if_pos h]
    · rw [if_neg h, if_neg h]
      have hb := covO_bd a n
      have hs := (sz_bd hb.1 hb.2).1
      rw [covF_enough f g _ _ (by omega) (by omega)]
theorem covL_zero {a n : Int} (h : n ≤ 0) : covL a n = [] := by
  unfold covL
  have : n.toNat = 0 := by omega
  rw [this]; rfl
theorem covL_step {a n : Int} (h : 1 ≤ n) : covL a n = (a, covO a n) :: covL (a + sz (covO a n)) (n - sz (covO a n)) := by
  have hb := covO_bd a n
  have hs := (sz_bd hb.1 hb.2).1
  unfold covL
  obtain ⟨f, hf⟩ : ∃ f, n.toNat = f + 1 := ⟨n.toNat - 1, by omega⟩
  rw [hf]
  show (if n ≤ 0 then [] else _) = _
  rw [if_neg (by omega)]
  rw [covF_enough f (n - sz (covO a n)).toNat _ _ (by omega) (Nat.le_refl _)]
/-- no more blocks than pages -/
theorem covL_length : ∀ (f : Nat) (a n : Int), n.toNat ≤ f → ((covL a n).length : Int) ≤ n.toNat
  | 0, a, n, h => by rw [covL_zero (by omega)]; exact Int.natCast_nonneg _
  | f + 1, a, n, h => by
    by_cases h0 : n ≤ 0
    · rw [covL_zero h0]; exact Int.natCast_nonneg _
    · have hb := covO_bd a n
      have hs := (sz_bd hb.1 hb.2).1
      rw [covL_step (by omega)]
      have := covL_length f (a + sz (covO a n)) (n - sz (covO a n)) (by omega)
      simp only [List.length_cons]
      omega
/-- what a chain of blocks is: they follow each other, right ones all, up to an end -/
def Chain (e : Int) : Int → List (Int × Int) → Prop
  | a, [] => a = e
  | a, b :: r => b.1 = a ∧ 0 ≤ b.2 ∧ b.2 ≤ 6 ∧ a % sz b.2 = 0 ∧ a + sz b.2 ≤ e ∧ Chain e (a + sz b.2) r
theorem covL_chain : ∀ (f : Nat) (a n : Int), n.toNat ≤ f → 0 ≤ n → Chain (a + n) a (covL a n)
  | 0, a, n, h, hn => by
    have : n = 0 := by omega
    subst this
    rw [covL_zero (by omega)]
    simp [Chain]
  | f + 1, a, n, h, hn => by
    by_cases h0 : n = 0
    · subst h0
      rw [covL_zero (by omega)]
      simp [Chain]
    · have hb := covO_bd a n
      have hs := (sz_bd hb.1 hb.2).1
      obtain ⟨f1, f2⟩ := covO_fits (a := a) (n := n) (by omega)
      rw [covL_step (by omega)]
      have := covL_chain f (a + sz (covO a n)) (n - sz (covO a n)) (by omega) (by omega)
      refine ⟨rfl, hb.1, hb.2, f1, (show a + sz (covO a n) ≤ a + n by omega), ?_⟩
      rwa [show a + sz (covO a n) + (n - sz (covO a n)) = a + n from by omega] at this
end Go.Proofs.YtcokmiidgdmdlaaGreatDoor

namespace Go.Proofs.YtcokmiidgdmdlaaGreatDoor

/-- sorted by where they begin, each once -/
def Asc (l : List (Int × Int)) : Prop := l.Pairwise fun p q => p.1 < q.1
def getL (l : List (Int × Int)) (a : Int) : Option Int := (l.find? fun p => p.1 == a).map (·.2)
def delL (a : Int) (l : List (Int × Int)) : List (Int × Int) := l.filter fun p => p.1 != a
def putL (a k : Int) : List (Int × Int) → List (Int × Int)
  | [] => [(a, k)]
  | p :: r => if a < p.1 then (a, k) :: p :: r else if a = p.1 then (a, k) :: r else p :: putL a k r

theorem Asc.del {l : List (Int × Int)} (h : Asc l) (a : Int) : Asc (delL a l) := List.Pairwise.filter _ h
theorem mem_delL {l : List (Int × Int)} {a : Int} {p : Int × Int} : p ∈ delL a l ↔ p ∈ l ∧ p.1 ≠ a := by simp [delL]
theorem putL_mem : ∀ {l : List (Int × Int)} {a k : Int} {p : Int × Int}, p ∈ putL a k l → p = (a, k) ∨ p ∈ l
  | [], a, k, p, h => by simpa [putL] using h
  | q :: r, a, k, p, h => by
    unfold putL at h
    split at h
    · simpa using h
    · split at h
      · rcases List.mem_cons.1 h with h | h
        · exact .inl h
        · exact .inr (List.mem_cons_of_mem _ h)
      · rcases List.mem_cons.1 h with h | h
        · exact .inr (by simp [h])
        · rcases putL_mem h with h | h
          · exact .inl h
          · exact .inr (List.mem_cons_of_mem _ h)
theorem Asc.put : ∀ {l : List (Int × Int)}, Asc l → ∀ a k, Asc (putL a k l)
  | [], _, a, k => by simp [putL, Asc]
  | q :: r, h, a, k => by
    obtain ⟨h1, h2⟩ := List.pairwise_cons.1 h
    unfold putL
    split
    · refine List.pairwise_cons.2 ⟨fun p hp => ?_, h⟩
      rcases List.mem_cons.1 hp with rfl | hp
      · assumption
      · have := h1 p hp; show a < p.1; omega
    · split
      · rename_i e
        exact List.pairwise_cons.2 ⟨fun p hp => by have := h1 p hp; show a < p.1; omega, h2⟩
      · refine List.pairwise_cons.2 ⟨fun p hp => ?_, Asc.put h2 a k⟩
        rcases putL_mem hp with rfl | hp
        · show q.1 < a; omega
        · exact h1 p hp
theorem getL_cons (p : Int × Int) (l : List (Int × Int)) (a : Int) : getL (p :: l) a = if p.1 = a then some p.2 else getL l a := by
  unfold getL
  by_cases h : p.1 = a <;> simp [h]
theorem getL_none {l : List (Int × Int)} {a : Int} (h : ∀ p ∈ l, p.1 ≠ a) : getL l a = none := by
  induction l with
  | nil => rfl
  | cons p r ih => rw [getL_cons, if_neg (h p (by simp)), ih fun q hq => h q (by simp [hq])]
theorem getL_mem : ∀ {l : List (Int × Int)} {a k : Int}, getL l a = some k → (a, k) ∈ l
  | [], a, k, h => by simp [getL] at h
  | p :: r, a, k, h => by
    rw [getL_cons] at h
    split at h
    · rename_i e
      have : p.2 = k := Option.some.inj h
      have : p = (a, k) := by rw [← e, ← this]
      simp [this]
    · exact List.mem_cons_of_mem _ (getL_mem h)
theorem mem_getL : ∀ {l : List (Int × Int)} {a k : Int}, Asc l → (a, k) ∈ l → getL l a = some k
  | [], a, k, _, h => by simp at h
  | p :: r, a, k, hA, h => by
    obtain ⟨h1, h2⟩ := List.pairwise_cons.1 hA
    rw [getL_cons]
    rcases List.mem_cons.1 h with rfl | h
    · simp
    · rw [if_neg, mem_getL h2 h]
      have := h1 _ h
      simp at this
      omega
theorem getL_put : ∀ {l : List (Int × Int)} (a k b : Int), Asc l → getL (putL a k l) b = if a = b then some k else getL l b
  | [], a, k, b, _ => by rw [putL, getL_cons]
  | p :: r, a, k, b, h => by
    obtain ⟨h1, h2⟩ := List.pairwise_cons.1 h
    unfold putL
    split
    · rw [getL_cons]
    · split
      · rename_i e
        rw [getL_cons, getL_cons]
        by_cases hb : a = b
        · simp [hb]
        · rw [if_neg (by simpa using hb), if_neg (by simpa using hb), if_neg (by omega)]
      · rw [getL_cons, getL_cons, getL_put a k b h2]
        by_cases hb : p.1 = b
        · rw [if_pos hb, if_pos hb, if_neg (by omega)]
        · rw [if_neg hb, if_neg hb]
theorem getL_del (l : List (Int × Int)) (a b : Int) : getL (delL a l) b = if a = b then none else getL l b := by
  induction l with
  | nil => simp [delL, getL]
  | cons p r ih =>
    have e : delL a (p :: r) = if p.1 = a then delL a r else p :: delL a r := by
      by_cases h : p.1 = a <;> simp [delL, h]
    rw [e, getL_cons]
    by_cases h : p.1 = a
    · rw [if_pos h, ih]
      by_cases hb : a = b
      · simp [hb]
      · rw [if_neg hb, if_neg hb, if_neg (by omega)]
    · rw [if_neg h, getL_cons, ih]
      by_cases hb : p.1 = b
      · rw [if_pos hb, if_pos hb, if_neg (by omega)]
      · rw [if_neg hb, if_neg hb]
/-- two sorted lists that answer alike are one -/
theorem asc_ext : ∀ {l m : List (Int × Int)}, Asc l → Asc m → (∀ a, getL l a = getL m a) → l = m
  | [], [], _, _, _ => rfl
  | [], q :: s, _, _, h => by have := h q.1; rw [getL_cons] at this; simp [getL] at this
  | p :: r, [], _, _, h => by have := h p.1; rw [getL_cons] at this; simp [getL] at this
  | p :: r, q :: s, hl, hm, h => by
    obtain ⟨l1, l2⟩ := List.pairwise_cons.1 hl
    obtain ⟨m1, m2⟩ := List.pairwise_cons.1 hm
    have e1 : p.1 = q.1 := by
      have a1 := h p.1
      have a2 := h q.1
      rw [getL_cons, if_pos rfl] at a1
      rw [getL_cons q s q.1, if_pos rfl] at a2
      have b1 := getL_mem a1.symm
      have b2 := getL_mem a2
      rcases List.mem_cons.1 b1 with e | b1
      · rw [← e]
      · rcases List.mem_cons.1 b2 with e | b2
        · rw [← e]
        · have := m1 _ b1; have := l1 _ b2; simp at *; omega
    have e2 : p.2 = q.2 := by
      have := h p.1
      rw [getL_cons, if_pos rfl, getL_cons, if_pos e1.symm] at this
      exact Option.some.inj this
    have e3 : p = q := Prod.ext e1 e2
    subst e3
    rw [asc_ext l2 m2 fun a => ?_]
    by_cases ha : p.1 = a
    · rw [getL_none fun x hx => by have := l1 x hx; omega, getL_none fun x hx => by have := m1 x hx; omega]
    · have := h a
      rwa [getL_cons, getL_cons, if_neg ha, if_neg ha] at this
end Go.Proofs.YtcokmiidgdmdlaaGreatDoor

namespace Go.Proofs.YtcokmiidgdmdlaaGreatDoor

/-- a block that lies right: an order, its begin a multiple of its size -/
def Blk (x : Nat × Nat) : Prop := x.2 ≤ 6 ∧ x.1 % 2 ^ x.2 = 0
/-- page p lies in x -/
def Inn (p : Nat) (x : Nat × Nat) : Prop := x.1 ≤ p ∧ p < x.1 + 2 ^ x.2
instance (p : Nat) (x : Nat × Nat) : Decidable (Inn p x) := inferInstanceAs (Decidable (_ ∧ _))
/-- where x's buddy begins -/
def budN (x : Nat × Nat) : Nat := if x.1 / 2 ^ x.2 % 2 = 0 then x.1 + 2 ^ x.2 else x.1 - 2 ^ x.2

theorem pow_cases {k : Nat} (h : k ≤ 6) : (k = 0 ∧ 2 ^ k = 1) ∨ (k = 1 ∧ 2 ^ k = 2) ∨ (k = 2 ∧ 2 ^ k = 4) ∨ (k = 3 ∧ 2 ^ k = 8) ∨ (k = 4 ∧ 2 ^ k = 16) ∨ (k = 5 ∧ 2 ^ k = 32) ∨ (k = 6 ∧ 2 ^ k = 64) := by
  rcases k with _ | _ | _ | _ | _ | _ | _ | k
  all_goals first | omega | simp

/-- two blocks with a page in common: the smaller one lies in the greater one -/
theorem nest {x y : Nat × Nat} (hx : Blk x) (hy : Blk y) (h : x.2 ≤ y.2) {p : Nat} (px : Inn p x) (py : Inn p y) : y.1 ≤ x.1 ∧ x.1 + 2 ^ x.2 ≤ y.1 + 2 ^ y.2 := by
  obtain ⟨a, k⟩ := x
  obtain ⟨b, m⟩ := y
  obtain ⟨hk, ha⟩ := hx
  obtain ⟨hm, hb⟩ := hy
  obtain ⟨p1, p2⟩ := px
  obtain ⟨q1, q2⟩ := py
  simp only at *
  rcases pow_cases hk with ⟨rfl, e⟩ | ⟨rfl, e⟩ | ⟨rfl, e⟩ | ⟨rfl, e⟩ | ⟨rfl, e⟩ | ⟨rfl, e⟩ | ⟨rfl, e⟩ <;>
  rcases pow_cases hm with ⟨rfl, f⟩ | ⟨rfl, f⟩ | ⟨rfl, f⟩ | ⟨rfl, f⟩ | ⟨rfl, f⟩ | ⟨rfl, f⟩ | ⟨rfl, f⟩ <;>
  first | omega | (simp only [e, f] at *; omega)
theorem same_of_nest {x y : Nat × Nat} (hx : Blk x) (hy : Blk y) (h : x.2 = y.2) {p : Nat} (px : Inn p x) (py : Inn p y) : x = y := by
  obtain ⟨a1, a2⟩ := nest hx hy (by omega) px py
  obtain ⟨b1, b2⟩ := nest hy hx (by omega) py px
  rw [h] at a2
  exact Prod.ext (by omega) h

/-- a buddy's block lies right, and beside it -/
theorem bud_blk {x : Nat × Nat} (hx : Blk x) (h : x.2 < 6) : Blk (budN x, x.2) ∧ (∀ p, Inn p (budN x, x.2) → ¬ Inn p x) := by
  obtain ⟨a, k⟩ := x
  obtain ⟨hk, ha⟩ := hx
  unfold Blk Inn budN
  simp only at *
  rcases pow_cases hk with ⟨rfl, e⟩ | ⟨rfl, e⟩ | ⟨rfl, e⟩ | ⟨rfl, e⟩ | ⟨rfl, e⟩ | ⟨rfl, e⟩ | ⟨rfl, e⟩
  all_goals first
    | omega
    | (simp only [e] at *
       split <;> exact ⟨⟨by omega, by omega⟩, fun p hp hq => by omega⟩)

/-- a greater block that x lies in holds x's buddy too -/
theorem bud_in {x y : Nat × Nat} (hx : Blk x) (hy : Blk y) (h : x.2 < y.2) (h1 : y.1 ≤ x.1) (h2 : x.1 + 2 ^ x.2 ≤ y.1 + 2 ^ y.2) : y.1 ≤ budN x ∧ budN x + 2 ^ x.2 ≤ y.1 + 2 ^ y.2 := by
  obtain ⟨a, k⟩ := x
  obtain ⟨b, m⟩ := y
  obtain ⟨hk, ha⟩ := hx
  obtain ⟨hm, hb⟩ := hy
  unfold budN
  simp only at *
  rcases pow_cases hk with ⟨rfl, e⟩ | ⟨rfl, e⟩ | ⟨rfl, e⟩ | ⟨rfl, e⟩ | ⟨rfl, e⟩ | ⟨rfl, e⟩ | ⟨rfl, e⟩ <;>
  rcases pow_cases hm with ⟨rfl, f⟩ | ⟨rfl, f⟩ | ⟨rfl, f⟩ | ⟨rfl, f⟩ | ⟨rfl, f⟩ | ⟨rfl, f⟩ | ⟨rfl, f⟩ <;>
  first | omega | (simp only [e, f] at *; split <;> omega)
/-- .. and one that holds x's buddy holds x -/
theorem bud_back {x y : Nat × Nat} (hx : Blk x) (hy : Blk y) (h : x.2 < y.2) (h1 : y.1 ≤ budN x) (h2 : budN x + 2 ^ x.2 ≤ y.1 + 2 ^ y.2) : y.1 ≤ x.1 ∧ x.1 + 2 ^ x.2 ≤ y.1 + 2 ^ y.2 := by
  obtain ⟨a, k⟩ := x
  obtain ⟨b, m⟩ := y
  obtain ⟨hk, ha⟩ := hx
  obtain ⟨hm, hb⟩ := hy
  unfold budN at h1 h2
  simp only at *
  rcases pow_cases hk with ⟨rfl, e⟩ | ⟨rfl, e⟩ | ⟨rfl, e⟩ | ⟨rfl, e⟩ | ⟨rfl, e⟩ | ⟨rfl, e⟩ | ⟨rfl, e⟩ <;>
  rcases pow_cases hm with ⟨rfl, f⟩ | ⟨rfl, f⟩ | ⟨rfl, f⟩ | ⟨rfl, f⟩ | ⟨rfl, f⟩ | ⟨rfl, f⟩ | ⟨rfl, f⟩ <;>
  first | omega | (simp only [e, f] at *; split at h1 <;> split at h2 <;> omega)

/-- the blocks tile the pages below n: each page in one, and none beyond -/
structure Tiles (n : Nat) (L : List (Nat × Nat)) : Prop where
  blk : ∀ x ∈ L, Blk x
  cov : ∀ p, p < n → ∃ x ∈ L, Inn p x
  one : ∀ x ∈ L, ∀ y ∈ L, ∀ p, Inn p x → Inn p y → x = y
  bound : ∀ x ∈ L, x.1 + 2 ^ x.2 ≤ n
/-- no two of them are buddies -/
def Apart (L : List (Nat × Nat)) : Prop := ∀ x ∈ L, x.2 < 6 → (budN x, x.2) ∉ L

/-- in a tiling without buddies no block lies in a greater one of another tiling's place -/
theorem no_less {n : Nat} {L : List (Nat × Nat)} (hL : Tiles n L) (hA : Apart L) {y : Nat × Nat} (hy : Blk y) (hyn : y.1 + 2 ^ y.2 ≤ n) :
    ∀ d, ∀ x ∈ L, x.2 = d → x.2 < y.2 → ¬ (y.1 ≤ x.1 ∧ x.1 + 2 ^ x.2 ≤ y.1 + 2 ^ y.2) := by
  intro d
  induction d using Nat.strongRecOn with
  | ind d ih =>
    intro x hx hd hlt hin
    have bx := hL.blk x hx
    have hk6 : x.2 < 6 := Nat.lt_of_lt_of_le hlt hy.1
    obtain ⟨bb, bapart⟩ := bud_blk bx hk6
    obtain ⟨b1, b2⟩ := bud_in bx hy hlt hin.1 hin.2
    have hpos : 0 < 2 ^ x.2 := Nat.pos_of_ne_zero (by simp)
    have pb : Inn (budN x) (budN x, x.2) := ⟨Nat.le_refl _, by show _ < budN x + 2 ^ x.2; omega⟩
    obtain ⟨z, hz, pz⟩ := hL.cov (budN x) (by omega)
    have bz := hL.blk z hz
    have hzx : z ≠ x := fun e => bapart _ pb (e ▸ pz)
    rcases Nat.lt_trichotomy z.2 x.2 with h | h | h
    · obtain ⟨c1, c2⟩ := nest bz bb (by show z.2 ≤ x.2; omega) pz pb
      simp only at c1 c2
      exact ih z.2 (by omega) z hz rfl (by omega) ⟨by omega, by omega⟩
    · have := same_of_nest bz bb h pz pb
      exact hA x hx hk6 (this ▸ hz)
    · obtain ⟨c1, c2⟩ := nest bb bz (by show x.2 ≤ z.2; omega) pb pz
      simp only at c1 c2
      obtain ⟨d1, d2⟩ := bud_back bx bz h c1 c2
      exact hzx (hL.one z hz x hx x.1 ⟨d1, by omega⟩ ⟨Nat.le_refl _, by omega⟩)

/-- a tiling without buddies is the only one -/
theorem only_one {n : Nat} {L M : List (Nat × Nat)} (hL : Tiles n L) (hA : Apart L) (hM : Tiles n M) (hB : Apart M) : ∀ x, x ∈ L → x ∈ M := by
  intro x hx
  have bx := hL.blk x hx
  have nx := hL.bound x hx
  have hpos : 0 < 2 ^ x.2 := Nat.pos_of_ne_zero (by simp)
  have px : Inn x.1 x := ⟨Nat.le_refl _, by omega⟩
  obtain ⟨y, hy, py⟩ := hM.cov x.1 (by omega)
  have by' := hM.blk y hy
  rcases Nat.lt_trichotomy x.2 y.2 with h | h | h
  · exact absurd (nest bx by' (by omega) px py) (no_less hL hA by' (hM.bound y hy) _ x hx rfl h)
  · exact same_of_nest bx by' h px py ▸ hy
  · exact absurd (nest by' bx (by omega) py px) (no_less hM hB bx nx _ y hy rfl h)
end Go.Proofs.YtcokmiidgdmdlaaGreatDoor

namespace Go.Proofs.YtcokmiidgdmdlaaGreatDoor

/-- the two halves of a block lie right, and are it -/
theorem half_blk {a k : Nat} (h : Blk (a, k + 1)) : Blk (a, k) ∧ Blk (a + 2 ^ k, k) ∧ ∀ p, Inn p (a, k + 1) ↔ (Inn p (a, k) ∨ Inn p (a + 2 ^ k, k)) := by
  obtain ⟨hk, ha⟩ := h
  unfold Blk Inn
  simp only at *
  rcases pow_cases (show k ≤ 6 by omega) with ⟨rfl, e⟩ | ⟨rfl, e⟩ | ⟨rfl, e⟩ | ⟨rfl, e⟩ | ⟨rfl, e⟩ | ⟨rfl, e⟩ | ⟨rfl, e⟩
  all_goals first
    | omega
    | (simp only [Nat.reduceAdd, Nat.reducePow] at *
       refine ⟨⟨by omega, by omega⟩, ⟨by omega, by omega⟩, fun p => by omega⟩)
theorem half_apart {a k : Nat} (p : Nat) : Inn p (a, k) → ¬ Inn p (a + 2 ^ k, k) := by
  unfold Inn
  simp only
  omega

theorem Tiles.split {n : Nat} {L M : List (Nat × Nat)} (h : Tiles n L) {a k : Nat} (hx : (a, k + 1) ∈ L)
    (hM : ∀ z, z ∈ M ↔ (z ∈ L ∧ z ≠ (a, k + 1)) ∨ z = (a, k) ∨ z = (a + 2 ^ k, k)) : Tiles n M := by
  obtain ⟨b1, b2, hp⟩ := half_blk (h.blk _ hx)
  have hb := h.bound _ hx
  have e2 : 2 ^ (k + 1) = 2 ^ k + 2 ^ k := by rw [Nat.pow_succ]; omega
  simp only [e2] at hb
  have hpos : 0 < 2 ^ k := Nat.pos_of_ne_zero (by simp)
  refine ⟨fun z hz => ?_, fun p hpn => ?_, fun x hx' y hy' p px py => ?_, fun z hz => ?_⟩
  · rcases (hM z).1 hz with ⟨h1, _⟩ | rfl | rfl
    · exact h.blk z h1
    · exact b1
    · exact b2
  · obtain ⟨z, hz, pz⟩ := h.cov p hpn
    by_cases e : z = (a, k + 1)
    · subst e
      rcases (hp p).1 pz with q | q
      · exact ⟨_, (hM _).2 (.inr (.inl rfl)), q⟩
      · exact ⟨_, (hM _).2 (.inr (.inr rfl)), q⟩
    · exact ⟨z, (hM z).2 (.inl ⟨hz, e⟩), pz⟩
  · rcases (hM x).1 hx' with ⟨h1, n1⟩ | rfl | rfl <;> rcases (hM y).1 hy' with ⟨h2, n2⟩ | rfl | rfl
    · exact h.one x h1 y h2 p px py
    · exact absurd (h.one x h1 _ hx p px ((hp p).2 (.inl py))) n1
    · exact absurd (h.one x h1 _ hx p px ((hp p).2 (.inr py))) n1
    · exact absurd (h.one y h2 _ hx p py ((hp p).2 (.inl px))) n2
    · rfl
    · exact absurd py (half_apart p px)
    · exact absurd (h.one y h2 _ hx p py ((hp p).2 (.inr px))) n2
    · exact absurd px (half_apart p py)
    · rfl
  · rcases (hM z).1 hz with ⟨h1, _⟩ | rfl | rfl
    · exact h.bound z h1
    · show a + 2 ^ k ≤ n; omega
    · show a + 2 ^ k + 2 ^ k ≤ n; omega

/-- .. and back: two halves become one -/
theorem Tiles.join {n : Nat} {L M : List (Nat × Nat)} (h : Tiles n L) {a k : Nat} (hb : Blk (a, k + 1)) (h1 : (a, k) ∈ L) (h2 : (a + 2 ^ k, k) ∈ L)
    (hM : ∀ z, z ∈ M ↔ (z ∈ L ∧ z ≠ (a, k) ∧ z ≠ (a + 2 ^ k, k)) ∨ z = (a, k + 1)) : Tiles n M := by
  obtain ⟨b1, b2, hp⟩ := half_blk hb
  have hn := h.bound _ h2
  simp only at hn
  have e2 : 2 ^ (k + 1) = 2 ^ k + 2 ^ k := by rw [Nat.pow_succ]; omega
  refine ⟨fun z hz => ?_, fun p hpn => ?_, fun x hx' y hy' p px py => ?_, fun z hz => ?_⟩
  · rcases (hM z).1 hz with ⟨q, _⟩ | rfl
    · exact h.blk z q
    · exact hb
  · obtain ⟨z, hz, pz⟩ := h.cov p hpn
    by_cases e : z = (a, k)
    · subst e; exact ⟨_, (hM _).2 (.inr rfl), (hp p).2 (.inl pz)⟩
    · by_cases e' : z = (a + 2 ^ k, k)
      · subst e'; exact ⟨_, (hM _).2 (.inr rfl), (hp p).2 (.inr pz)⟩
      · exact ⟨z, (hM z).2 (.inl ⟨hz, e, e'⟩), pz⟩
  · rcases (hM x).1 hx' with ⟨q1, n1, n1'⟩ | rfl <;> rcases (hM y).1 hy' with ⟨q2, n2, n2'⟩ | rfl
    · exact h.one x q1 y q2 p px py
    · rcases (hp p).1 py with q | q
      · exact absurd (h.one x q1 _ h1 p px q) n1
      · exact absurd (h.one x q1 _ h2 p px q) n1'
    · rcases (hp p).1 px with q | q
      · exact absurd (h.one y q2 _ h1 p py q) n2
      · exact absurd (h.one y q2 _ h2 p py q) n2'
    · rfl
  · rcases (hM z).1 hz with ⟨q, _⟩ | rfl
    · exact h.bound z q
    · show a + 2 ^ (k + 1) ≤ n; omega
end Go.Proofs.YtcokmiidgdmdlaaGreatDoor

namespace Go.Proofs.YtcokmiidgdmdlaaGreatDoor

def nt (p : Int × Int) : Nat × Nat := (p.1.toNat, p.2.toNat)
theorem nt_inj {p q : Int × Int} (hp : 0 ≤ p.1 ∧ 0 ≤ p.2) (hq : 0 ≤ q.1 ∧ 0 ≤ q.2) (h : nt p = nt q) : p = q := by
  obtain ⟨a, k⟩ := p
  obtain ⟨b, m⟩ := q
  simp only [nt, Prod.mk.injEq] at *
  exact ⟨by omega, by omega⟩
theorem sz_nat {k : Int} (_ : 0 ≤ k) : sz k = ((2 ^ k.toNat : Nat) : Int) := by simp [sz]
theorem sz_pos (k : Int) : 1 ≤ sz k := by
  have : 0 < 2 ^ k.toNat := Nat.pos_of_ne_zero (by simp)
  have e : sz k = ((2 ^ k.toNat : Nat) : Int) := by simp [sz]
  omega

/-- a block that lies right -/
def BlkI (x : Int × Int) : Prop := 0 ≤ x.1 ∧ 0 ≤ x.2 ∧ x.2 ≤ 6 ∧ x.1 % sz x.2 = 0
def InnI (p : Int) (x : Int × Int) : Prop := x.1 ≤ p ∧ p < x.1 + sz x.2
structure TI (n : Int) (L : List (Int × Int)) : Prop where
  nn : ∀ x ∈ L, 0 ≤ x.1 ∧ 0 ≤ x.2
  t : Tiles n.toNat (L.map nt)
def ApI (L : List (Int × Int)) : Prop := ∀ x ∈ L, x.2 < 6 → (budA x.1 x.2, x.2) ∉ L

theorem TI.mem {n : Int} {L : List (Int × Int)} (_ : TI n L) {x : Int × Int} (hx : x ∈ L) : nt x ∈ L.map nt := List.mem_map.2 ⟨x, hx, rfl⟩
theorem blkI_of {x : Int × Int} (h0 : 0 ≤ x.1 ∧ 0 ≤ x.2) (h : Blk (nt x)) : BlkI x := by
  obtain ⟨a, k⟩ := x
  obtain ⟨h1, h2⟩ := h
  simp only [nt] at *
  refine ⟨h0.1, h0.2, (by show k ≤ 6; omega), ?_⟩
  show a % sz k = 0
  rw [sz_nat h0.2, show a = ((a.toNat : Nat) : Int) by omega, ← Int.natCast_emod, h2]; rfl
theorem blk_nt {x : Int × Int} (h : BlkI x) : Blk (nt x) := by
  obtain ⟨a, k⟩ := x
  obtain ⟨h0, h1, h2, h3⟩ := h
  simp only [nt] at *
  refine ⟨(by show k.toNat ≤ 6; omega), ?_⟩
  show a.toNat % 2 ^ k.toNat = 0
  rw [sz_nat h1, show a = ((a.toNat : Nat) : Int) by omega, ← Int.natCast_emod] at h3
  exact Int.ofNat.inj h3
theorem inn_nt {p : Int} {x : Int × Int} (h0 : 0 ≤ x.1 ∧ 0 ≤ x.2) (hp : 0 ≤ p) : Inn p.toNat (nt x) ↔ InnI p x := by
  unfold Inn InnI nt
  rw [sz_nat h0.2]
  simp only
  omega
theorem TI.blk {n : Int} {L : List (Int × Int)} (h : TI n L) {x : Int × Int} (hx : x ∈ L) : BlkI x := blkI_of (h.nn x hx) (h.t.blk _ (h.mem hx))
theorem TI.bound {n : Int} {L : List (Int × Int)} (h : TI n L) {x : Int × Int} (hx : x ∈ L) : x.1 + sz x.2 ≤ n := by
  have := h.t.bound _ (h.mem hx)
  have h0 := h.nn x hx
  simp only [nt] at this
  have hpos : 0 < 2 ^ x.2.toNat := Nat.pos_of_ne_zero (by simp)
  rw [sz_nat h0.2]; omega
theorem TI.cov {n : Int} {L : List (Int × Int)} (h : TI n L) {p : Int} (p0 : 0 ≤ p) (pn : p < n) : ∃ x ∈ L, InnI p x := by
  obtain ⟨y, hy, py⟩ := h.t.cov p.toNat (by omega)
  obtain ⟨x, hx, rfl⟩ := List.mem_map.1 hy
  exact ⟨x, hx, (inn_nt (h.nn x hx) p0).1 py⟩
theorem TI.one {n : Int} {L : List (Int × Int)} (h : TI n L) {x y : Int × Int} (hx : x ∈ L) (hy : y ∈ L) {p : Int} (px : InnI p x) (py : InnI p y) : x = y := by
  have p0 : 0 ≤ p := by have := (h.nn x hx).1; have := px.1; omega
  exact nt_inj (h.nn x hx) (h.nn y hy) (h.t.one _ (h.mem hx) _ (h.mem hy) p.toNat ((inn_nt (h.nn x hx) p0).2 px) ((inn_nt (h.nn y hy) p0).2 py))
/-- two blocks that begin alike are one -/
theorem TI.same {n : Int} {L : List (Int × Int)} (h : TI n L) {x y : Int × Int} (hx : x ∈ L) (hy : y ∈ L) (e : x.1 = y.1) : x = y :=
  h.one hx hy (p := x.1) ⟨Int.le_refl _, by have := sz_pos x.2; omega⟩ ⟨by omega, by have := sz_pos y.2; omega⟩

theorem nt_iff {M : List (Int × Int)} {P : Int × Int → Prop} {Q : Nat × Nat → Prop} (hM : ∀ z, z ∈ M ↔ P z) (hPQ : ∀ z, P z → Q (nt z)) (hQP : ∀ y, Q y → ∃ z, nt z = y ∧ P z) :
    ∀ y, y ∈ M.map nt ↔ Q y := by
  intro y
  constructor
  · intro h
    obtain ⟨z, hz, rfl⟩ := List.mem_map.1 h
    exact hPQ z ((hM z).1 hz)
  · intro h
    obtain ⟨z, rfl, hz⟩ := hQP y h
    exact List.mem_map.2 ⟨z, (hM z).2 hz, rfl⟩

/-- cut in halves -/
theorem TI.split {n : Int} {L M : List (Int × Int)} (h : TI n L) {a k : Int} (k0 : 0 ≤ k) (hx : (a, k + 1) ∈ L)
    (hM : ∀ z, z ∈ M ↔ (z ∈ L ∧ z ≠ (a, k + 1)) ∨ z = (a, k) ∨ z = (a + sz k, k)) : TI n M := by
  have a0 := (h.nn _ hx).1
  simp only at a0
  have sk := sz_pos k
  have nnM : ∀ z ∈ M, 0 ≤ z.1 ∧ 0 ≤ z.2 := fun z hz => by
    rcases (hM z).1 hz with ⟨h1, _⟩ | rfl | rfl
    · exact h.nn z h1
    · exact ⟨a0, k0⟩
    · exact ⟨(show (0 : Int) ≤ a + sz k by omega), k0⟩
  have e1 : nt (a, k + 1) = (a.toNat, k.toNat + 1) := by simp only [nt, Prod.mk.injEq]; exact ⟨trivial, by omega⟩
  have hsn := sz_nat k0
  have e2 : nt (a + sz k, k) = (a.toNat + 2 ^ k.toNat, k.toNat) := by
    simp only [nt, Prod.mk.injEq]
    exact ⟨by omega, trivial⟩
  refine ⟨nnM, h.t.split (a := a.toNat) (k := k.toNat) (e1 ▸ h.mem hx) ?_⟩
  refine nt_iff (P := fun z => (z ∈ L ∧ z ≠ (a, k + 1)) ∨ z = (a, k) ∨ z = (a + sz k, k)) hM ?_ ?_
  · rintro z (⟨h1, h2⟩ | rfl | rfl)
    · exact .inl ⟨h.mem h1, fun e => h2 (nt_inj (h.nn z h1) (h.nn _ hx) (e.trans e1.symm))⟩
    · exact .inr (.inl rfl)
    · exact .inr (.inr e2)
  · rintro y (⟨h1, h2⟩ | rfl | rfl)
    · obtain ⟨z, hz, rfl⟩ := List.mem_map.1 h1
      exact ⟨z, rfl, .inl ⟨hz, fun e => h2 (by rw [e, e1])⟩⟩
    · exact ⟨(a, k), rfl, .inr (.inl rfl)⟩
    · exact ⟨(a + sz k, k), e2, .inr (.inr rfl)⟩

/-- joined again -/
theorem TI.join {n : Int} {L M : List (Int × Int)} (h : TI n L) {a k : Int} (k0 : 0 ≤ k) (hb : BlkI (a, k + 1)) (h1 : (a, k) ∈ L) (h2 : (a + sz k, k) ∈ L)
    (hM : ∀ z, z ∈ M ↔ (z ∈ L ∧ z ≠ (a, k) ∧ z ≠ (a + sz k, k)) ∨ z = (a, k + 1)) : TI n M := by
  have a0 := (h.nn _ h1).1
  simp only at a0
  have sk := sz_pos k
  have e1 : nt (a, k + 1) = (a.toNat, k.toNat + 1) := by simp only [nt, Prod.mk.injEq]; exact ⟨trivial, by omega⟩
  have hsn := sz_nat k0
  have e2 : nt (a + sz k, k) = (a.toNat + 2 ^ k.toNat, k.toNat) := by
    simp only [nt, Prod.mk.injEq]
    exact ⟨by omega, trivial⟩
  refine ⟨fun z hz => ?_, h.t.join (a := a.toNat) (k := k.toNat) (e1 ▸ blk_nt hb) (h.mem h1) (e2 ▸ h.mem h2) ?_⟩
  · rcases (hM z).1 hz with ⟨q, _⟩ | rfl
    · exact h.nn z q
    · exact ⟨a0, (show (0 : Int) ≤ k + 1 by omega)⟩
  refine nt_iff (P := fun z => (z ∈ L ∧ z ≠ (a, k) ∧ z ≠ (a + sz k, k)) ∨ z = (a, k + 1)) hM ?_ ?_
  · rintro z (⟨q1, q2, q3⟩ | rfl)
    · exact .inl ⟨h.mem q1, fun e => q2 (nt_inj (h.nn z q1) (h.nn _ h1) e), fun e => q3 (nt_inj (h.nn z q1) (h.nn _ h2) (e.trans e2.symm))⟩
    · exact .inr e1
  · rintro y (⟨q1, q2, q3⟩ | rfl)
    · obtain ⟨z, hz, rfl⟩ := List.mem_map.1 q1
      exact ⟨z, rfl, .inl ⟨hz, fun e => q2 (by rw [e]; rfl), fun e => q3 (by rw [e, e2])⟩⟩
    · exact ⟨(a, k + 1), e1, .inr rfl⟩

theorem bud_nt {a k : Int} (h : BlkI (a, k)) (h5 : k < 6) : nt (budA a k, k) = (budN (nt (a, k)), k.toNat) := by
  obtain ⟨a0, k0, _, hm⟩ := h
  simp only at a0 k0 hm h5
  simp only [nt, Prod.mk.injEq, and_true]
  have e : k = 0 ∨ k = 1 ∨ k = 2 ∨ k = 3 ∨ k = 4 ∨ k = 5 := by omega
  unfold budA budN
  simp only
  by_cases hc : a.toNat / 2 ^ k.toNat % 2 = 0
  · rw [if_pos hc]
    rcases e with rfl | rfl | rfl | rfl | rfl | rfl <;> simp only [sz0, sz1, sz2, sz3, sz4, sz5, show Int.toNat 0 = 0 from rfl, show Int.toNat 1 = 1 from rfl, show Int.toNat 2 = 2 from rfl, show Int.toNat 3 = 3 from rfl, show Int.toNat 4 = 4 from rfl, show Int.toNat 5 = 5 from rfl, Nat.reducePow] at * <;> omega
  · rw [if_neg hc]
    rcases e with rfl | rfl | rfl | rfl | rfl | rfl <;> simp only [sz0, sz1, sz2, sz3, sz4, sz5, show Int.toNat 0 = 0 from rfl, show Int.toNat 1 = 1 from rfl, show Int.toNat 2 = 2 from rfl, show Int.toNat 3 = 3 from rfl, show Int.toNat 4 = 4 from rfl, show Int.toNat 5 = 5 from rfl, Nat.reducePow] at * <;> omega
theorem ApI.nt {n : Int} {L : List (Int × Int)} (h : ApI L) (hL : TI n L) : Apart (L.map nt) := by
  intro y hy h6 hb
  obtain ⟨x, hx, rfl⟩ := List.mem_map.1 hy
  obtain ⟨a, k⟩ := x
  have bx := hL.blk hx
  have k6 : k < 6 := by have : k.toNat < 6 := h6; omega
  have e := bud_nt bx k6
  have hb' : Go.Proofs.YtcokmiidgdmdlaaGreatDoor.nt (budA a k, k) ∈ L.map Go.Proofs.YtcokmiidgdmdlaaGreatDoor.nt := by rw [e]; exact hb
  obtain ⟨z, hz, ez⟩ := List.mem_map.1 hb'
  have b0 : 0 ≤ budA a k := by
    obtain ⟨a0, k0, _, hm⟩ := bx
    simp only at a0 k0 hm
    have ek : k = 0 ∨ k = 1 ∨ k = 2 ∨ k = 3 ∨ k = 4 ∨ k = 5 := by omega
    unfold budA
    rcases ek with rfl | rfl | rfl | rfl | rfl | rfl <;> simp only [sz0, sz1, sz2, sz3, sz4, sz5] at * <;> omega
  have := nt_inj (hL.nn z hz) (q := (budA a k, k)) ⟨b0, bx.2.1⟩ ez
  exact h _ hx k6 (this ▸ hz)
/-- a tiling without buddies is the only one -/
theorem TI.only {n : Int} {L M : List (Int × Int)} (hL : TI n L) (hA : ApI L) (hM : TI n M) (hB : ApI M) {x : Int × Int} (hx : x ∈ L) : x ∈ M := by
  have := only_one hL.t (hA.nt hL) hM.t (hB.nt hM) _ (hL.mem hx)
  obtain ⟨z, hz, ez⟩ := List.mem_map.1 this
  exact nt_inj (hM.nn z hz) (hL.nn x hx) ez ▸ hz
end Go.Proofs.YtcokmiidgdmdlaaGreatDoor

namespace Go.Proofs.YtcokmiidgdmdlaaGreatDoor

/-- the first of the least order -/
def minL (x : Int × Int) : List (Int × Int) → Int × Int
  | [] => x
  | y :: r => minL (if y.2 < x.2 then y else x) r
def fitL (k : Int) (F : List (Int × Int)) : List (Int × Int) := F.filter fun p => !decide (p.2 < k)
def bestL (k : Int) (F : List (Int × Int)) : Option (Int × Int) := match fitL k F with | [] => none | x :: r => some (minL x r)
/-- a block d orders above k is cut down to k: the upper halves are free -/
def downF : Nat → Int → Int → List (Int × Int) → List (Int × Int)
  | 0, _, _, F => F
  | d + 1, a, k, F => downF d a k (putL (a + sz (k + d)) (k + d) F)
/-- a block is joined with its buddy while that is free -/
def upF : Nat → Int → Int → List (Int × Int) → (Int × Int) × List (Int × Int)
  | 0, a, k, F => ((a, k), F)
  | f + 1, a, k, F => if getL F (budA a k) = some k then upF f (parA a k) (k + 1) (delL (budA a k) F) else ((a, k), F)
def takeF (k : Int) (x : Int × Int) (F : List (Int × Int)) : List (Int × Int) := downF (x.2 - k).toNat x.1 k (delL x.1 F)
def giveF (a k : Int) (F : List (Int × Int)) : List (Int × Int) := putL (upF (6 - k).toNat a k F).1.1 (upF (6 - k).toNat a k F).1.2 (upF (6 - k).toNat a k F).2
/-- pages of blocks -/
def sumL : List (Int × Int) → Int
  | [] => 0
  | x :: r => sz x.2 + sumL r

theorem minL_mem : ∀ (x : Int × Int) (r : List (Int × Int)), minL x r ∈ x :: r
  | x, [] => by simp [minL]
  | x, y :: r => by
    unfold minL
    rcases List.mem_cons.1 (minL_mem (if y.2 < x.2 then y else x) r) with h | h
    · rw [h]
      split <;> simp
    · exact List.mem_cons_of_mem _ (List.mem_cons_of_mem _ h)
theorem minL_le : ∀ (x : Int × Int) (r : List (Int × Int)), ∀ z ∈ x :: r, (minL x r).2 ≤ z.2
  | x, [], z, hz => by simp at hz; subst hz; exact Int.le_refl _
  | x, y :: r, z, hz => by
    unfold minL
    have h0 := minL_le (if y.2 < x.2 then y else x) r _ (List.mem_cons_self ..)
    have h1 : (if y.2 < x.2 then y else x).2 ≤ x.2 ∧ (if y.2 < x.2 then y else x).2 ≤ y.2 := by split <;> omega
    rcases List.mem_cons.1 hz with rfl | hz
    · omega
    · rcases List.mem_cons.1 hz with rfl | hz
      · omega
      · exact minL_le _ r z (List.mem_cons_of_mem _ hz)
theorem mem_fitL {k : Int} {F : List (Int × Int)} {p : Int × Int} : p ∈ fitL k F ↔ p ∈ F ∧ k ≤ p.2 := by simp [fitL]
theorem bestL_some {k : Int} {F : List (Int × Int)} {x : Int × Int} (h : bestL k F = some x) : x ∈ F ∧ k ≤ x.2 := by
  unfold bestL at h
  split at h
  · cases h
  · rename_i y r e
    obtain rfl := Option.some.inj h
    exact mem_fitL.1 (e ▸ minL_mem y r)
theorem bestL_least {k : Int} {F : List (Int × Int)} {x : Int × Int} (h : bestL k F = some x) : ∀ p ∈ F, k ≤ p.2 → x.2 ≤ p.2 := by
  intro p hp hk
  unfold bestL at h
  split at h
  · cases h
  · rename_i y r e
    obtain rfl := Option.some.inj h
    exact minL_le y r p (e ▸ mem_fitL.2 ⟨hp, hk⟩)
theorem bestL_none {k : Int} {F : List (Int × Int)} (h : bestL k F = none) : ∀ p ∈ F, p.2 < k := by
  intro p hp
  unfold bestL at h
  split at h
  · rename_i e
    rcases Int.lt_or_le p.2 k with h' | h'
    · exact h'
    · have := mem_fitL.2 ⟨hp, h'⟩
      rw [e] at this
      cases this
  · cases h

theorem mem_asc {l : List (Int × Int)} (h : Asc l) (z : Int × Int) : z ∈ l ↔ getL l z.1 = some z.2 := ⟨fun hz => mem_getL h hz, fun hz => getL_mem hz⟩
theorem mem_putL {l : List (Int × Int)} (h : Asc l) {a k : Int} {z : Int × Int} : z ∈ putL a k l ↔ z = (a, k) ∨ (z ∈ l ∧ z.1 ≠ a) := by
  obtain ⟨b, m⟩ := z
  rw [mem_asc (h.put a k), getL_put a k _ h, mem_asc h]
  simp only [Prod.mk.injEq]
  by_cases e : a = b
  · subst e
    rw [if_pos rfl]
    constructor
    · intro q; exact .inl ⟨rfl, (Option.some.inj q).symm⟩
    · rintro (⟨_, q⟩ | ⟨_, q⟩)
      · rw [q]
      · exact absurd rfl q
  · rw [if_neg e]
    constructor
    · intro q; exact .inr ⟨q, fun x => e x.symm⟩
    · rintro (⟨q, _⟩ | ⟨q, _⟩)
      · exact absurd q.symm e
      · exact q

/-- what holds of buddies between any two acts -/
structure Inv (n : Int) (F T : List (Int × Int)) : Prop where
  n1 : 1 ≤ n
  n2 : n ≤ 256
  fa : Asc F
  ta : Asc T
  t : TI n (F ++ T)
  dis : ∀ p ∈ F, p ∉ T
  ap : ApI F
/-- .. and while a block is in hand -/
structure InvH (n : Int) (F T : List (Int × Int)) (x : Int × Int) : Prop where
  n1 : 1 ≤ n
  n2 : n ≤ 256
  fa : Asc F
  ta : Asc T
  t : TI n (x :: (F ++ T))
  dis : ∀ p ∈ F, p ∉ T
  nf : x ∉ F
  ntk : x ∉ T
  ap : ApI F

theorem inn_at (x : Int × Int) : InnI x.1 x := ⟨Int.le_refl _, by have := sz_pos x.2; omega⟩
theorem Inv.memF {n : Int} {F T : List (Int × Int)} (_ : Inv n F T) {x : Int × Int} (hx : x ∈ F) : x ∈ F ++ T := List.mem_append_left _ hx
theorem Inv.memT {n : Int} {F T : List (Int × Int)} (_ : Inv n F T) {x : Int × Int} (hx : x ∈ T) : x ∈ F ++ T := List.mem_append_right _ hx
theorem Inv.hand {n : Int} {F T : List (Int × Int)} (h : Inv n F T) {x : Int × Int} (hx : x ∈ F) : InvH n (delL x.1 F) T x := by
  have hd : ∀ z, z ∈ delL x.1 F ↔ z ∈ F ∧ z ≠ x := fun z => by
    rw [mem_delL]
    exact ⟨fun ⟨q, r⟩ => ⟨q, fun e => r (by rw [e])⟩, fun ⟨q, r⟩ => ⟨q, fun e => r (h.t.same (h.memF q) (h.memF hx) e)⟩⟩
  refine ⟨h.n1, h.n2, h.fa.del _, h.ta, ?_, fun p hp => h.dis p ((hd p).1 hp).1, fun q => ((hd x).1 q).2 rfl, h.dis x hx, fun y hy h6 hb => h.ap y ((hd y).1 hy).1 h6 ((hd _).1 hb).1⟩
  have hm : ∀ z, z ∈ x :: (delL x.1 F ++ T) ↔ z ∈ F ++ T := fun z => by
    simp only [List.mem_cons, List.mem_append, hd]
    constructor
    · rintro (rfl | ⟨q, _⟩ | q)
      · exact .inl hx
      · exact .inl q
      · exact .inr q
    · rintro (q | q)
      · by_cases e : z = x
        · exact .inl e
        · exact .inr (.inl ⟨q, e⟩)
      · exact .inr (.inr q)
  have t := h.t
  have hm2 : ∀ y, y ∈ (x :: (delL x.1 F ++ T)).map nt ↔ y ∈ (F ++ T).map nt := fun y => by
    simp only [List.mem_map, hm]
  exact ⟨fun z hz => t.nn z ((hm z).1 hz), ⟨fun y hy => t.t.blk y ((hm2 y).1 hy), fun p hp => by obtain ⟨y, hy, q⟩ := t.t.cov p hp; exact ⟨y, (hm2 y).2 hy, q⟩,
    fun y hy z hz p => t.t.one y ((hm2 y).1 hy) z ((hm2 z).1 hz) p, fun y hy => t.t.bound y ((hm2 y).1 hy)⟩⟩
/-- the same blocks tile the same -/
theorem TI.congr {n : Int} {L M : List (Int × Int)} (t : TI n L) (hm : ∀ z, z ∈ M ↔ z ∈ L) : TI n M := by
  have hm2 : ∀ y, y ∈ M.map nt ↔ y ∈ L.map nt := fun y => by simp only [List.mem_map, hm]
  exact ⟨fun z hz => t.nn z ((hm z).1 hz), ⟨fun y hy => t.t.blk y ((hm2 y).1 hy), fun p hp => by obtain ⟨y, hy, q⟩ := t.t.cov p hp; exact ⟨y, (hm2 y).2 hy, q⟩,
    fun y hy z hz p => t.t.one y ((hm2 y).1 hy) z ((hm2 z).1 hz) p, fun y hy => t.t.bound y ((hm2 y).1 hy)⟩⟩
theorem Inv.handT {n : Int} {F T : List (Int × Int)} (h : Inv n F T) {x : Int × Int} (hx : x ∈ T) : InvH n F (delL x.1 T) x := by
  have hd : ∀ z, z ∈ delL x.1 T ↔ z ∈ T ∧ z ≠ x := fun z => by
    rw [mem_delL]
    exact ⟨fun ⟨q, r⟩ => ⟨q, fun e => r (by rw [e])⟩, fun ⟨q, r⟩ => ⟨q, fun e => r (h.t.same (h.memT q) (h.memT hx) e)⟩⟩
  refine ⟨h.n1, h.n2, h.fa, h.ta.del _, h.t.congr fun z => ?_, fun p hp q => h.dis p hp ((hd p).1 q).1, fun q => h.dis x q hx, fun q => ((hd x).1 q).2 rfl, h.ap⟩
  simp only [List.mem_cons, List.mem_append, hd]
  constructor
  · rintro (rfl | q | ⟨q, _⟩)
    · exact .inr hx
    · exact .inl q
    · exact .inr q
  · rintro (q | q)
    · exact .inr (.inl q)
    · by_cases e : z = x
      · exact .inl e
      · exact .inr (.inr ⟨q, e⟩)
/-- nothing else begins where the block in hand does -/
theorem InvH.other {n : Int} {F T : List (Int × Int)} {x : Int × Int} (h : InvH n F T x) {z : Int × Int} (hz : z ∈ F ++ T) : z.1 ≠ x.1 := fun e => by
  have := h.t.same (List.mem_cons_of_mem _ hz) (List.mem_cons_self ..) e
  subst this
  rcases List.mem_append.1 hz with q | q
  · exact h.nf q
  · exact h.ntk q
theorem InvH.blk {n : Int} {F T : List (Int × Int)} {x : Int × Int} (h : InvH n F T x) : BlkI x := h.t.blk (List.mem_cons_self ..)
theorem InvH.putT {n : Int} {F T : List (Int × Int)} {a k : Int} (h : InvH n F T (a, k)) : Inv n F (putL a k T) := by
  have hd : ∀ z, z ∈ putL a k T ↔ z = (a, k) ∨ z ∈ T := fun z => by
    rw [mem_putL h.ta]
    exact ⟨fun q => q.imp id And.left, fun q => q.imp id fun r => ⟨r, h.other (List.mem_append_right _ r)⟩⟩
  refine ⟨h.n1, h.n2, h.fa, h.ta.put _ _, h.t.congr fun z => ?_, fun p hp q => ?_, h.ap⟩
  · simp only [List.mem_cons, List.mem_append, hd]
    constructor
    · rintro (q | q | q)
      · exact .inr (.inl q)
      · exact .inl q
      · exact .inr (.inr q)
    · rintro (q | q | q)
      · exact .inr (.inl q)
      · exact .inl q
      · exact .inr (.inr q)
  · rcases (hd p).1 q with rfl | q
    · exact h.nf hp
    · exact h.dis p hp q
theorem InvH.putF {n : Int} {F T : List (Int × Int)} {a k : Int} (h : InvH n F T (a, k)) (hb : k < 6 → getL F (budA a k) ≠ some k) : Inv n (putL a k F) T := by
  have hd : ∀ z, z ∈ putL a k F ↔ z = (a, k) ∨ z ∈ F := fun z => by
    rw [mem_putL h.fa]
    exact ⟨fun q => q.imp id And.left, fun q => q.imp id fun r => ⟨r, h.other (List.mem_append_left _ r)⟩⟩
  obtain ⟨b0, b1, b2, b3⟩ := h.blk
  have bn := h.t.bound (List.mem_cons_self ..)
  have := sz_pos k
  have n2 := h.n2
  simp only at b0 b1 b2 b3 bn
  refine ⟨h.n1, h.n2, h.fa.put _ _, h.ta, h.t.congr fun z => ?_, fun p hp q => ?_, fun y hy h6 hbad => ?_⟩
  · simp only [List.mem_cons, List.mem_append, hd]
    constructor
    · rintro ((q | q) | q)
      · exact .inl q
      · exact .inr (.inl q)
      · exact .inr (.inr q)
    · rintro (q | q | q)
      · exact .inl (.inl q)
      · exact .inl (.inr q)
      · exact .inr q
  · rcases (hd p).1 hp with rfl | hp
    · exact h.ntk q
    · exact h.dis p hp q
  · rcases (hd y).1 hy with rfl | hy
    · obtain ⟨_, hinv, _⟩ := kin b0 (by omega) b1 (by simp only at h6; omega) b3
      rcases (hd _).1 hbad with e | hbad
      · have e1 : budA a k = a := congrArg Prod.fst e
        unfold budA at e1
        split at e1 <;> omega
      · exact hb h6 ((mem_asc h.fa _).1 hbad)
    · rcases (hd _).1 hbad with e | hbad
      · have e1 : budA y.1 y.2 = a := congrArg Prod.fst e
        have e2 : y.2 = k := congrArg Prod.snd e
        have by' := h.t.blk (List.mem_cons_of_mem _ (List.mem_append_left _ hy))
        have bny := h.t.bound (List.mem_cons_of_mem _ (List.mem_append_left T hy))
        have := sz_pos y.2
        obtain ⟨_, hinv, _⟩ := kin by'.1 (by omega) by'.2.1 (by omega) by'.2.2.2
        rw [e1, e2] at hinv
        refine hb (by omega) ?_
        rw [hinv, ← e2]
        exact (mem_asc h.fa _).1 hy
      · exact h.ap y hy h6 hbad

theorem half_bud {a k : Int} (k0 : 0 ≤ k) (k5 : k ≤ 5) (h : a % sz (k + 1) = 0) : a % sz k = 0 ∧ budA a k = a + sz k ∧ parA a k = a ∧ budA (a + sz k) k = a ∧ (a + sz k) % sz k = 0 := by
  have e : k = 0 ∨ k = 1 ∨ k = 2 ∨ k = 3 ∨ k = 4 ∨ k = 5 := by omega
  unfold budA parA
  rcases e with rfl | rfl | rfl | rfl | rfl | rfl <;> simp only [sz0, sz1, sz2, sz3, sz4, sz5, sz6, show (0 : Int) + 1 = 1 from rfl, show (1 : Int) + 1 = 2 from rfl, show (2 : Int) + 1 = 3 from rfl, show (3 : Int) + 1 = 4 from rfl, show (4 : Int) + 1 = 5 from rfl, show (5 : Int) + 1 = 6 from rfl] at * <;> (refine ⟨?_, ?_, ?_, ?_, ?_⟩ <;> omega)

/-- the block in hand is cut: the lower half stays in hand, the upper one is free -/
theorem InvH.cut {n : Int} {F T : List (Int × Int)} {a k : Int} (k0 : 0 ≤ k) (h : InvH n F T (a, k + 1)) : InvH n (putL (a + sz k) k F) T (a, k) := by
  obtain ⟨b0, b1, b2, b3⟩ := h.blk
  have bn := h.t.bound (List.mem_cons_self ..)
  have sk := sz_pos k
  have n2 := h.n2
  simp only at b0 b1 b2 b3 bn
  have e2 := sz_succ k0 (by omega)
  obtain ⟨m1, m2, m3, m4, m5⟩ := half_bud k0 (by omega) b3
  -- what lies in the block in hand is not elsewhere
  have hno : ∀ z : Int × Int, z ∈ F ++ T → ∀ p, InnI p z → ¬ (a ≤ p ∧ p < a + sz (k + 1)) := fun z hz p hp hq => by
    have := h.t.one (List.mem_cons_of_mem _ hz) (List.mem_cons_self ..) hp hq
    exact h.other hz (by rw [this])
  have hd : ∀ z, z ∈ putL (a + sz k) k F ↔ z = (a + sz k, k) ∨ z ∈ F := fun z => by
    rw [mem_putL h.fa]
    refine ⟨fun q => q.imp id And.left, fun q => q.imp id fun r => ⟨r, fun e => ?_⟩⟩
    exact hno z (List.mem_append_left _ r) z.1 (inn_at z) ⟨by omega, by omega⟩
  have hlow : (a, k) ∉ F ++ T := fun q => hno _ q a (inn_at (a, k)) ⟨by omega, by omega⟩
  have hhigh : (a + sz k, k) ∉ F ++ T := fun q => hno _ q (a + sz k) (inn_at (a + sz k, k)) ⟨by omega, by omega⟩
  refine ⟨h.n1, h.n2, h.fa.put _ _, h.ta, h.t.split (a := a) (k := k) k0 (List.mem_cons_self ..) fun z => ?_, fun p hp q => ?_, fun q => ?_, fun q => hlow (List.mem_append_right _ q), fun y hy h6 hbad => ?_⟩
  · simp only [List.mem_cons, List.mem_append, hd]
    constructor
    · rintro (q | (q | q) | q)
      · exact .inr (.inl q)
      · exact .inr (.inr q)
      · exact .inl ⟨.inr (.inl q), fun e => h.nf (e ▸ q)⟩
      · exact .inl ⟨.inr (.inr q), fun e => h.ntk (e ▸ q)⟩
    · rintro (⟨q | q | q, r⟩ | q | q)
      · exact absurd q r
      · exact .inr (.inl (.inr q))
      · exact .inr (.inr q)
      · exact .inl q
      · exact .inr (.inl (.inl q))
  · rcases (hd p).1 hp with rfl | hp
    · exact hhigh (List.mem_append_right _ q)
    · exact h.dis p hp q
  · rcases (hd _).1 q with e | q
    · have : a = a + sz k := congrArg Prod.fst e
      omega
    · exact hlow (List.mem_append_left _ q)
  · rcases (hd y).1 hy with rfl | hy
    · simp only [m4] at hbad
      rcases (hd _).1 hbad with e | q
      · have : a = a + sz k := congrArg Prod.fst e
        omega
      · exact hlow (List.mem_append_left _ q)
    · rcases (hd _).1 hbad with e | hbad
      · have e1 : budA y.1 y.2 = a + sz k := congrArg Prod.fst e
        have e2' : y.2 = k := congrArg Prod.snd e
        have by' := h.t.blk (List.mem_cons_of_mem _ (List.mem_append_left _ hy))
        have bny := h.t.bound (List.mem_cons_of_mem _ (List.mem_append_left T hy))
        have := sz_pos y.2
        obtain ⟨_, hinv, _⟩ := kin by'.1 (by omega) by'.2.1 (by omega) by'.2.2.2
        rw [e1, e2', m4] at hinv
        refine hlow (List.mem_append_left _ ?_)
        have : y = (a, k) := Prod.ext hinv.symm e2'
        exact this ▸ hy
      · exact h.ap y hy h6 hbad

/-- the block in hand is joined with its buddy, which is free -/
theorem InvH.up {n : Int} {F T : List (Int × Int)} {a k : Int} (h : InvH n F T (a, k)) (k5 : k < 6) (hb : getL F (budA a k) = some k) : InvH n (delL (budA a k) F) T (parA a k, k + 1) := by
  obtain ⟨b0, b1, b2, b3⟩ := h.blk
  have bn := h.t.bound (List.mem_cons_self ..)
  have sk := sz_pos k
  have n2 := h.n2
  simp only at b0 b1 b2 b3 bn
  have hbm : (budA a k, k) ∈ F := getL_mem hb
  obtain ⟨⟨q0, q1, q2⟩, hinv, hpar, ⟨p0, p1, p2⟩, hcase, _⟩ := kin b0 (by omega) b1 (by omega) b3
  have hd : ∀ z, z ∈ delL (budA a k) F ↔ z ∈ F ∧ z ≠ (budA a k, k) := fun z => by
    rw [mem_delL]
    refine ⟨fun ⟨q, r⟩ => ⟨q, fun e => r (by rw [e])⟩, fun ⟨q, r⟩ => ⟨q, fun e => r ?_⟩⟩
    exact h.t.same (List.mem_cons_of_mem _ (List.mem_append_left _ q)) (List.mem_cons_of_mem _ (List.mem_append_left _ hbm)) e
  have hbT : (budA a k, k) ∉ T := h.dis _ hbm
  have hne : (budA a k, k) ≠ (a, k) := fun e => h.nf (e ▸ hbm)
  have hbig : BlkI (parA a k, k + 1) := ⟨p0, (show (0 : Int) ≤ k + 1 by omega), (show k + 1 ≤ 6 by omega), p2⟩
  -- nothing that is left overlaps the joined block
  have e2 := sz_succ b1 b2
  have hno : ∀ z : Int × Int, z ∈ delL (budA a k) F ++ T → z ≠ (parA a k, k + 1) := fun z hz e => by
    subst e
    have hz' : (parA a k, k + 1) ∈ F ++ T := by
      rcases List.mem_append.1 hz with q | q
      · exact List.mem_append_left _ ((hd _).1 q).1
      · exact List.mem_append_right _ q
    have := h.t.one (List.mem_cons_of_mem _ hz') (List.mem_cons_self ..) (p := a) ⟨by rcases hcase with ⟨c1, c2⟩ | ⟨c1, c2⟩ <;> simp only <;> omega, by simp only; rcases hcase with ⟨c1, c2⟩ | ⟨c1, c2⟩ <;> omega⟩ (inn_at (a, k))
    have := congrArg Prod.snd this
    simp only at this
    omega
  refine ⟨h.n1, h.n2, h.fa.del _, h.ta, ?_, fun p hp => h.dis p ((hd p).1 hp).1, fun q => hno _ (List.mem_append_left _ q) rfl, fun q => hno _ (List.mem_append_right _ q) rfl, fun y hy h6 hbad => h.ap y ((hd y).1 hy).1 h6 ((hd _).1 hbad).1⟩
  rcases hcase with ⟨c1, c2⟩ | ⟨c1, c2⟩
  · rw [c1] at c2 hbig ⊢
    refine h.t.join (a := a) (k := k) b1 hbig (List.mem_cons_self ..) (List.mem_cons_of_mem _ (List.mem_append_left _ (c2 ▸ hbm))) fun z => ?_
    rw [← c2]
    simp only [List.mem_cons, List.mem_append, hd]
    constructor
    · rintro (q | ⟨q, r⟩ | q)
      · exact .inr q
      · exact .inl ⟨.inr (.inl q), fun e => h.nf (e ▸ q), r⟩
      · exact .inl ⟨.inr (.inr q), fun e => h.ntk (e ▸ q), fun e => hbT (e ▸ q)⟩
    · rintro (⟨q | q | q, r, s⟩ | q)
      · exact absurd q r
      · exact .inr (.inl ⟨q, s⟩)
      · exact .inr (.inr q)
      · exact .inl q
  · rw [c1] at c2 hbig ⊢
    refine h.t.join (a := budA a k) (k := k) b1 hbig (List.mem_cons_of_mem _ (List.mem_append_left _ hbm)) (by rw [← c2]; exact List.mem_cons_self ..) fun z => ?_
    rw [← c2]
    simp only [List.mem_cons, List.mem_append, hd]
    constructor
    · rintro (q | ⟨q, r⟩ | q)
      · exact .inr q
      · exact .inl ⟨.inr (.inl q), r, fun e => h.nf (e ▸ q)⟩
      · exact .inl ⟨.inr (.inr q), fun e => hbT (e ▸ q), fun e => h.ntk (e ▸ q)⟩
    · rintro (⟨q | q | q, r, s⟩ | q)
      · exact absurd q s
      · exact .inr (.inl ⟨q, r⟩)
      · exact .inr (.inr q)
      · exact .inl q

/-- taking keeps it -/
theorem InvH.down {n : Int} {T : List (Int × Int)} {a k : Int} (k0 : 0 ≤ k) : ∀ (d : Nat) {F : List (Int × Int)}, InvH n F T (a, k + d) → InvH n (downF d a k F) T (a, k)
  | 0, F, h => by simpa [downF] using h
  | d + 1, F, h => by
    unfold downF
    refine InvH.down k0 d (InvH.cut (by omega) ?_)
    have e : k + ((d + 1 : Nat) : Int) = k + d + 1 := by omega
    rw [e] at h
    exact h
theorem Inv.take {n : Int} {F T : List (Int × Int)} (h : Inv n F T) {k : Int} (k0 : 0 ≤ k) {x : Int × Int} (hx : bestL k F = some x) : Inv n (takeF k x F) (putL x.1 k T) := by
  obtain ⟨h1, h2⟩ := bestL_some hx
  have hh := h.hand h1
  obtain ⟨a, m⟩ := x
  simp only at h2
  refine InvH.putT (InvH.down k0 _ ?_)
  rwa [show k + (((m - k).toNat : Nat) : Int) = m by omega]
/-- giving back keeps it -/
theorem InvH.give {n : Int} {T : List (Int × Int)} : ∀ (f : Nat) {a k : Int} {F : List (Int × Int)}, InvH n F T (a, k) → f = (6 - k).toNat → Inv n (putL (upF f a k F).1.1 (upF f a k F).1.2 (upF f a k F).2) T
  | 0, a, k, F, h, hf => by
    unfold upF
    exact h.putF fun q => by omega
  | f + 1, a, k, F, h, hf => by
    unfold upF
    by_cases hb : getL F (budA a k) = some k
    · rw [if_pos hb]
      exact InvH.give f (h.up (by omega) hb) (by omega)
    · rw [if_neg hb]
      exact h.putF fun _ => hb
theorem Inv.give {n : Int} {F T : List (Int × Int)} (h : Inv n F T) {a k : Int} (hx : (a, k) ∈ T) : Inv n (giveF a k F) (delL a T) := InvH.give _ (h.handT hx) rfl
/-- splitting keeps it -/
theorem Inv.split {n : Int} {F T : List (Int × Int)} (h : Inv n F T) {a k : Int} (k1 : 1 ≤ k) (hx : (a, k) ∈ T) : Inv n F (putL (a + sz (k - 1)) (k - 1) (putL a (k - 1) T)) := by
  obtain ⟨j, rfl⟩ : ∃ j, k = j + 1 := ⟨k - 1, by omega⟩
  rw [show j + 1 - 1 = j by omega]
  have hx' := h.memT hx
  obtain ⟨b0, b1, b2, b3⟩ := h.t.blk hx'
  have bn := h.t.bound hx'
  have sk := sz_pos j
  simp only at b0 b1 b2 b3 bn
  have e2 := sz_succ (k := j) (by omega) (by omega)
  have hno : ∀ z : Int × Int, z ∈ F ++ T → z ≠ (a, j + 1) → ∀ p, InnI p z → ¬ (a ≤ p ∧ p < a + sz (j + 1)) := fun z hz hne p hp hq => hne (h.t.one hz hx' hp hq)
  have hd : ∀ z, z ∈ putL (a + sz j) j (putL a j T) ↔ z = (a + sz j, j) ∨ z = (a, j) ∨ (z ∈ T ∧ z ≠ (a, j + 1)) := fun z => by
    rw [mem_putL (h.ta.put _ _), mem_putL h.ta]
    constructor
    · rintro (q | ⟨q | ⟨q, r⟩, s⟩)
      · exact .inl q
      · exact .inr (.inl q)
      · exact .inr (.inr ⟨q, fun e => r (by rw [e])⟩)
    · rintro (q | q | ⟨q, r⟩)
      · exact .inl q
      · refine .inr ⟨.inl q, ?_⟩
        subst q
        show a ≠ a + sz j
        omega
      · refine .inr ⟨.inr ⟨q, fun e => ?_⟩, fun e => ?_⟩
        · exact hno z (h.memT q) r z.1 (inn_at z) ⟨by omega, by omega⟩
        · exact hno z (h.memT q) r z.1 (inn_at z) ⟨by omega, by omega⟩
  refine ⟨h.n1, h.n2, h.fa, (h.ta.put _ _).put _ _, h.t.split (a := a) (k := j) (by omega) hx' fun z => ?_, fun p hp q => ?_, h.ap⟩
  · simp only [List.mem_append, hd]
    constructor
    · rintro (q | q | q | ⟨q, r⟩)
      · exact .inl ⟨.inl q, fun e => h.dis z q (e ▸ hx)⟩
      · exact .inr (.inr q)
      · exact .inr (.inl q)
      · exact .inl ⟨.inr q, r⟩
    · rintro (⟨q | q, r⟩ | q | q)
      · exact .inl q
      · exact .inr (.inr (.inr ⟨q, r⟩))
      · exact .inr (.inr (.inl q))
      · exact .inr (.inl q)
  · have hpn : p ≠ (a, j + 1) := fun e => h.dis p hp (e ▸ hx)
    rcases (hd p).1 q with rfl | rfl | ⟨q, _⟩
    · exact hno _ (h.memF hp) hpn _ (inn_at _) ⟨by simp only; omega, by simp only; omega⟩
    · exact hno _ (h.memF hp) hpn _ (inn_at _) ⟨by simp only; omega, by simp only; omega⟩
    · exact h.dis p hp q
end Go.Proofs.YtcokmiidgdmdlaaGreatDoor

namespace Go.Proofs.YtcokmiidgdmdlaaGreatDoor

theorem Asc.len : ∀ {l : List (Int × Int)} {a e : Int}, Asc l → (∀ p ∈ l, a ≤ p.1 ∧ p.1 < e) → a ≤ e → (l.length : Int) ≤ e - a
  | [], a, e, _, _, h => by simp; omega
  | p :: r, a, e, hA, hr, h => by
    obtain ⟨h1, h2⟩ := List.pairwise_cons.1 hA
    have hp := hr p (by simp)
    have := Asc.len (a := p.1 + 1) (e := e) h2 (fun q hq => ⟨by have := h1 q hq; omega, (hr q (by simp [hq])).2⟩) (by omega)
    simp only [List.length_cons]
    omega
theorem Inv.rngF {n : Int} {F T : List (Int × Int)} (h : Inv n F T) {p : Int × Int} (hp : p ∈ F) : 0 ≤ p.1 ∧ p.1 < 256 ∧ 0 ≤ p.2 ∧ p.2 ≤ 6 := by
  obtain ⟨b0, b1, b2, _⟩ := h.t.blk (h.memF hp)
  have := h.t.bound (h.memF hp)
  have := sz_pos p.2
  have := h.n2
  exact ⟨b0, by omega, b1, b2⟩
theorem Inv.rngT {n : Int} {F T : List (Int × Int)} (h : Inv n F T) {p : Int × Int} (hp : p ∈ T) : 0 ≤ p.1 ∧ p.1 < 256 ∧ 0 ≤ p.2 ∧ p.2 ≤ 6 := by
  obtain ⟨b0, b1, b2, _⟩ := h.t.blk (h.memT hp)
  have := h.t.bound (h.memT hp)
  have := sz_pos p.2
  have := h.n2
  exact ⟨b0, by omega, b1, b2⟩
theorem InvH.rng {n : Int} {F T : List (Int × Int)} {x : Int × Int} (h : InvH n F T x) {p : Int × Int} (hp : p ∈ x :: (F ++ T)) : 0 ≤ p.1 ∧ p.1 < 256 ∧ 0 ≤ p.2 ∧ p.2 ≤ 6 := by
  obtain ⟨b0, b1, b2, _⟩ := h.t.blk hp
  have := h.t.bound hp
  have := sz_pos p.2
  have := h.n2
  exact ⟨b0, by omega, b1, b2⟩
theorem asc_len256 {l : List (Int × Int)} (hA : Asc l) (hr : ∀ p ∈ l, 0 ≤ p.1 ∧ p.1 < 256 ∧ 0 ≤ p.2 ∧ p.2 ≤ 6) : l.length ≤ 256 := by
  have := hA.len (a := 0) (e := 256) (fun p hp => ⟨(hr p hp).1, (hr p hp).2.1⟩) (by omega)
  omega
theorem Inv.lenF {n : Int} {F T : List (Int × Int)} (h : Inv n F T) : F.length ≤ 256 := asc_len256 h.fa fun _ => h.rngF
theorem Inv.lenT {n : Int} {F T : List (Int × Int)} (h : Inv n F T) : T.length ≤ 256 := asc_len256 h.ta fun _ => h.rngT

/-- a chain of right blocks -/
theorem Chain.low {e : Int} : ∀ {a : Int} {l : List (Int × Int)}, Chain e a l → 0 ≤ a → ∀ x ∈ l, a ≤ x.1 ∧ x.1 + sz x.2 ≤ e ∧ BlkI x
  | _, [], _, _, x, hx => by cases hx
  | a, b :: r, ⟨h1, h2, h3, h4, h5, h6⟩, h0, x, hx => by
    have := sz_pos b.2
    rcases List.mem_cons.1 hx with rfl | hx
    · exact ⟨by omega, by omega, ⟨by omega, h2, h3, by rw [h1]; exact h4⟩⟩
    · obtain ⟨c1, c2, c3⟩ := Chain.low h6 (by omega) x hx
      exact ⟨by omega, c2, c3⟩
theorem Chain.end {e : Int} : ∀ {a : Int} {l : List (Int × Int)}, Chain e a l → a ≤ e
  | _, [], h => by simp only [Chain] at h; omega
  | a, b :: r, ⟨_, _, _, _, h5, _⟩ => by have := sz_pos b.2; omega
theorem Chain.cov {e : Int} : ∀ {a : Int} {l : List (Int × Int)}, Chain e a l → ∀ p, a ≤ p → p < e → ∃ x ∈ l, InnI p x
  | _, [], h, p, h1, h2 => by simp only [Chain] at h; omega
  | a, b :: r, ⟨h1, _, _, _, _, h6⟩, p, p1, p2 => by
    by_cases h : p < a + sz b.2
    · exact ⟨b, by simp, ⟨by omega, by omega⟩⟩
    · obtain ⟨x, hx, q⟩ := Chain.cov h6 p (by omega) p2
      exact ⟨x, by simp [hx], q⟩
theorem Chain.asc {e : Int} : ∀ {a : Int} {l : List (Int × Int)}, Chain e a l → 0 ≤ a → l.Pairwise fun x y => x.1 + sz x.2 ≤ y.1
  | _, [], _, _ => List.Pairwise.nil
  | a, b :: r, ⟨h1, _, _, _, _, h6⟩, h0 => by
    have := sz_pos b.2
    exact List.pairwise_cons.2 ⟨fun y hy => by have := (Chain.low h6 (by omega) y hy).1; omega, Chain.asc h6 (by omega)⟩
theorem TI.mk' {n : Int} {L : List (Int × Int)} (hb : ∀ x ∈ L, BlkI x) (hc : ∀ p, 0 ≤ p → p < n → ∃ x ∈ L, InnI p x) (h1 : ∀ x ∈ L, ∀ y ∈ L, ∀ p, InnI p x → InnI p y → x = y) (hn : ∀ x ∈ L, x.1 + sz x.2 ≤ n) : TI n L := by
  have nn : ∀ x ∈ L, 0 ≤ x.1 ∧ 0 ≤ x.2 := fun x hx => ⟨(hb x hx).1, (hb x hx).2.1⟩
  have back : ∀ y ∈ L.map nt, ∃ x ∈ L, nt x = y := fun y hy => by simpa using hy
  refine ⟨nn, ⟨fun y hy => ?_, fun p hp => ?_, fun y hy z hz p py pz => ?_, fun y hy => ?_⟩⟩
  · obtain ⟨x, hx, rfl⟩ := back y hy
    exact blk_nt (hb x hx)
  · obtain ⟨x, hx, q⟩ := hc p (by omega) (by omega)
    refine ⟨nt x, List.mem_map.2 ⟨x, hx, rfl⟩, ?_⟩
    have := (inn_nt (p := p) (nn x hx) (by omega)).2 q
    simpa using this
  · obtain ⟨x, hx, rfl⟩ := back y hy
    obtain ⟨x', hx', rfl⟩ := back z hz
    have q1 := (inn_nt (p := (p : Int)) (nn x hx) (by omega)).1 (by simpa using py)
    have q2 := (inn_nt (p := (p : Int)) (nn x' hx') (by omega)).1 (by simpa using pz)
    rw [h1 x hx x' hx' _ q1 q2]
  · obtain ⟨x, hx, rfl⟩ := back y hy
    have := hn x hx
    have h0 := nn x hx
    rw [sz_nat h0.2] at this
    show x.1.toNat + 2 ^ x.2.toNat ≤ n.toNat
    omega
theorem pairwise_one {L : List (Int × Int)} (h : L.Pairwise fun x y => x.1 + sz x.2 ≤ y.1) : ∀ x ∈ L, ∀ y ∈ L, ∀ p, InnI p x → InnI p y → x = y := by
  induction h with
  | nil => intro x hx; cases hx
  | @cons b r hb _ ih =>
    intro x hx y hy p px py
    unfold InnI at px py
    rcases List.mem_cons.1 hx with rfl | hx <;> rcases List.mem_cons.1 hy with rfl | hy
    · rfl
    · have := hb _ hy; omega
    · have := hb _ ‹_ ∈ r›; omega
    · exact ih x ‹_› y ‹_› p px py
theorem Chain.tiles {n : Int} {l : List (Int × Int)} (h : Chain n 0 l) : TI n l :=
  TI.mk' (fun x hx => (h.low (Int.le_refl _) x hx).2.2) (fun p p0 pn => h.cov p p0 pn) (pairwise_one (h.asc (Int.le_refl _))) (fun x hx => (h.low (Int.le_refl _) x hx).2.1)
/-- each block of a cover is the greatest that fits there -/
theorem covL_ord : ∀ (f : Nat) (a n : Int), n.toNat ≤ f → ∀ x ∈ covL a n, x.2 = covO x.1 (a + n - x.1) ∧ x.1 < a + n
  | 0, a, n, h, x, hx => by rw [covL_zero (by omega)] at hx; cases hx
  | f + 1, a, n, h, x, hx => by
    by_cases h0 : n ≤ 0
    · rw [covL_zero h0] at hx; cases hx
    · rw [covL_step (by omega)] at hx
      have := sz_pos (covO a n)
      rcases List.mem_cons.1 hx with rfl | hx
      · refine ⟨?_, (show a < a + n by omega)⟩
        show covO a n = covO a (a + n - a)
        rw [show a + n - a = n by omega]
      · obtain ⟨c1, c2⟩ := covL_ord f _ _ (by omega) x hx
        rw [show a + sz (covO a n) + (n - sz (covO a n)) = a + n by omega] at c1 c2
        exact ⟨c1, c2⟩
theorem cov_ap {n : Int} (n0 : 0 ≤ n) (n2 : n ≤ 256) : ApI (covL 0 n) := by
  have hch := covL_chain n.toNat 0 n (Nat.le_refl _) n0
  rw [show (0 : Int) + n = n by omega] at hch
  -- the lower one of two buddies would have been taken as one with the upper one
  have key : ∀ a k : Int, (a, k) ∈ covL 0 n → k < 6 → a % sz (k + 1) = 0 → (a + sz k, k) ∉ covL 0 n := by
    intro a k h1 h6 hm h2
    obtain ⟨_, k0, _, _⟩ := (hch.low (Int.le_refl _) _ h1).2.2
    have e := (covL_ord n.toNat 0 n (Nat.le_refl _) _ h1).1
    have hb := (hch.low (Int.le_refl _) _ h2).2.1
    simp only at e hb k0
    have e2 := sz_succ k0 (by omega)
    exact covO_max (a := a) (n := 0 + n - a) (k := k + 1) (by omega) (by omega) ⟨hm, by omega⟩
  intro x hx h6 hb
  obtain ⟨a, k⟩ := x
  obtain ⟨b1, b2, b0, k0, k6, hm⟩ := hch.low (Int.le_refl _) _ hx
  have sk := sz_pos k
  simp only at b1 b2 b0 k0 k6 hm h6 hb
  obtain ⟨_, hinv, hpar, ⟨_, _, p2⟩, hcase, _⟩ := kin b0 (by omega) k0 (by omega) hm
  rcases hcase with ⟨c1, c2⟩ | ⟨c1, c2⟩
  · rw [c1] at c2 p2
    exact key a k hx h6 p2 (c2 ▸ hb)
  · rw [c1] at c2 p2
    exact key _ k hb h6 p2 (by rw [← c2]; exact hx)
theorem pairwise_asc {L : List (Int × Int)} (h : L.Pairwise fun x y => x.1 + sz x.2 ≤ y.1) : Asc L := h.imp fun {x y} q => by have := sz_pos x.2; omega
theorem cov_asc {n : Int} (n0 : 0 ≤ n) : Asc (covL 0 n) := pairwise_asc ((covL_chain n.toNat 0 n (Nat.le_refl _) n0).asc (Int.le_refl _))
/-- a new buddy -/
theorem Inv.start {n : Int} (n1 : 1 ≤ n) (n2 : n ≤ 256) : Inv n (covL 0 n) [] := by
  have hch := covL_chain n.toNat 0 n (Nat.le_refl _) (by omega)
  rw [show (0 : Int) + n = n by omega] at hch
  exact ⟨n1, n2, cov_asc (by omega), List.Pairwise.nil, by rw [List.append_nil]; exact hch.tiles, (fun _ _ h => by cases h), cov_ap (by omega) n2⟩
theorem putL_last : ∀ {l : List (Int × Int)} {a : Int} (k : Int), (∀ p ∈ l, p.1 < a) → putL a k l = l ++ [(a, k)]
  | [], _, _, _ => rfl
  | p :: r, a, k, h => by
    have := h p (by simp)
    unfold putL
    rw [if_neg (by omega), if_neg (by omega), putL_last k fun q hq => h q (by simp [hq])]
    rfl
/-- with all given back it is as at the beginning -/
theorem Inv.whole {n : Int} {F : List (Int × Int)} (h : Inv n F []) : F = covL 0 n := by
  have h0 := Inv.start h.n1 h.n2
  have t1 := h.t
  have t2 := h0.t
  rw [List.append_nil] at t1 t2
  refine asc_ext h.fa h0.fa fun a => ?_
  have e : ∀ z, z ∈ F ↔ z ∈ covL 0 n := fun z => ⟨fun q => t1.only h.ap t2 h0.ap q, fun q => t2.only h0.ap t1 h.ap q⟩
  cases hg : getL F a with
  | none =>
    cases hg' : getL (covL 0 n) a with
    | none => rfl
    | some k => rw [mem_getL h.fa ((e _).2 (getL_mem hg'))] at hg; cases hg
  | some k => exact (mem_getL h0.fa ((e _).1 (getL_mem hg))).symm

theorem sumL_append : ∀ l m : List (Int × Int), sumL (l ++ m) = sumL l + sumL m
  | [], m => by simp [sumL]
  | x :: r, m => by simp only [List.cons_append, sumL, sumL_append r m]; omega
theorem sumL_nonneg : ∀ l : List (Int × Int), 0 ≤ sumL l
  | [] => Int.le_refl _
  | x :: r => by have := sumL_nonneg r; have := sz_pos x.2; simp only [sumL]; omega
theorem sumL_put : ∀ {l : List (Int × Int)} {a : Int} (k : Int), (∀ p ∈ l, p.1 ≠ a) → sumL (putL a k l) = sz k + sumL l
  | [], a, k, _ => by simp [putL, sumL]
  | p :: r, a, k, h => by
    have h1 := h p (by simp)
    unfold putL
    by_cases c : a < p.1
    · rw [if_pos c]; simp only [sumL]
    · rw [if_neg c, if_neg (fun e => h1 e.symm)]
      have := sumL_put (l := r) k fun q hq => h q (List.mem_cons_of_mem _ hq)
      simp only [sumL]; omega
theorem sumL_del : ∀ {l : List (Int × Int)} {x : Int × Int}, Asc l → x ∈ l → sumL (delL x.1 l) = sumL l - sz x.2
  | [], x, _, h => by cases h
  | p :: r, x, hA, h => by
    obtain ⟨h1, h2⟩ := List.pairwise_cons.1 hA
    rcases List.mem_cons.1 h with rfl | h
    · have e : delL x.1 (x :: r) = r := by
        have : delL x.1 (x :: r) = delL x.1 r := by simp [delL]
        rw [this, delL, List.filter_eq_self.2 fun q hq => by have := h1 q hq; simp; omega]
      rw [e]; simp only [sumL]; omega
    · have := h1 x h
      have e : delL x.1 (p :: r) = p :: delL x.1 r := by
        have : ¬ p.1 = x.1 := by omega
        simp [delL, this]
      rw [e]; simp only [sumL, sumL_del h2 h]; omega
theorem chain_sum {e : Int} : ∀ {a : Int} {l : List (Int × Int)}, Chain e a l → sumL l = e - a
  | _, [], h => by simp only [Chain] at h; simp [sumL]; omega
  | a, b :: r, ⟨_, _, _, _, _, h6⟩ => by simp only [sumL, chain_sum h6]; omega
/-- sorted blocks that do not overlap are no more pages than there are -/
theorem sum_le {e : Int} : ∀ {a : Int} {l : List (Int × Int)}, a ≤ e → (l.Pairwise fun x y => x.1 + sz x.2 ≤ y.1) → (∀ x ∈ l, a ≤ x.1 ∧ x.1 + sz x.2 ≤ e) → sumL l ≤ e - a
  | a, [], h, _, _ => by simp [sumL]; omega
  | a, b :: r, h, hP, hr => by
    obtain ⟨h1, h2⟩ := List.pairwise_cons.1 hP
    have hb := hr b (by simp)
    have := sum_le (a := b.1 + sz b.2) (e := e) (by omega) h2 fun x hx => ⟨h1 x hx, (hr x (by simp [hx])).2⟩
    simp only [sumL]; omega
theorem asc_apart {n : Int} {L l : List (Int × Int)} (t : TI n L) (hs : ∀ x ∈ l, x ∈ L) (hA : Asc l) : l.Pairwise fun x y => x.1 + sz x.2 ≤ y.1 := by
  refine hA.imp_of_mem fun {x y} hx hy q => ?_
  rcases Int.lt_or_le y.1 (x.1 + sz x.2) with h | h
  · have := t.one (hs x hx) (hs y hy) (p := y.1) ⟨by omega, h⟩ (inn_at y)
    rw [this] at q; omega
  · exact h
theorem Inv.sumF {n : Int} {F T : List (Int × Int)} (h : Inv n F T) : 0 ≤ sumL F ∧ sumL F ≤ n := by
  refine ⟨sumL_nonneg F, ?_⟩
  have := sum_le (a := 0) (e := n) (by have := h.n1; omega) (asc_apart h.t (fun x hx => h.memF hx) h.fa) fun x hx => ⟨(h.rngF hx).1, h.t.bound (h.memF hx)⟩
  omega
theorem InvH.sum_down {n : Int} {T : List (Int × Int)} {a k : Int} (k0 : 0 ≤ k) : ∀ (d : Nat) {F : List (Int × Int)}, InvH n F T (a, k + d) → sumL (downF d a k F) = sumL F + sz (k + d) - sz k
  | 0, F, _ => by simp [downF]
  | d + 1, F, h => by
    have e : k + ((d + 1 : Nat) : Int) = k + d + 1 := by omega
    rw [e] at h
    have hc := InvH.cut (by omega) h
    have b2 := h.blk.2.2.1
    simp only at b2
    unfold downF
    rw [InvH.sum_down k0 d hc, e, sz_succ (by omega) (by omega), sumL_put _ fun p hp q => ?_]
    · omega
    · have := h.t.one (List.mem_cons_of_mem _ (List.mem_append_left _ hp)) (List.mem_cons_self ..) (p := p.1) (inn_at p)
        ⟨by have := sz_pos (k + d); omega, by show p.1 < a + sz (k + d + 1); have := sz_pos (k + d); have := sz_succ (k := k + d) (by omega) (by omega); omega⟩
      exact h.nf (this ▸ hp)
/-- taking takes so many pages -/
theorem Inv.sum_take {n : Int} {F T : List (Int × Int)} (h : Inv n F T) {k : Int} (k0 : 0 ≤ k) {x : Int × Int} (hx : bestL k F = some x) : sumL (takeF k x F) = sumL F - sz k := by
  obtain ⟨h1, h2⟩ := bestL_some hx
  have hh := h.hand h1
  have hd := sumL_del h.fa h1
  obtain ⟨a, m⟩ := x
  simp only at h2 hd
  have e : k + (((m - k).toNat : Nat) : Int) = m := by omega
  have := InvH.sum_down (a := a) k0 (m - k).toNat (F := delL a F) (T := T) (n := n) (by rw [e]; exact hh)
  rw [e] at this
  show sumL (downF (m - k).toNat a k (delL a F)) = _
  omega
end Go.Proofs.YtcokmiidgdmdlaaGreatDoor

namespace Go.Proofs.YtcokmiidgdmdlaaGreatDoor

theorem putL_cut : ∀ {l : List (Int × Int)} {a k : Int} {j : Nat}, (∀ x ∈ l.take j, x.1 < a) → (∀ x ∈ l.drop j, a < x.1) → putL a k l = l.take j ++ (a, k) :: l.drop j
  | [], a, k, j, _, _ => by simp [putL]
  | p :: r, a, k, 0, _, h2 => by
    have := h2 p (by simp)
    unfold putL
    rw [if_pos this]
    rfl
  | p :: r, a, k, j + 1, h1, h2 => by
    have := h1 p (by simp)
    unfold putL
    rw [if_neg (by omega), if_neg (by omega), putL_cut (j := j) (fun x hx => h1 x (by simp [hx])) (fun x hx => h2 x (by simpa using hx))]
    rfl
theorem delL_cut : ∀ {l : List (Int × Int)} {z : Int × Int} {j : Nat}, Asc l → l[j]? = some z → delL z.1 l = l.take j ++ l.drop (j + 1)
  | [], z, j, _, h => by simp at h
  | p :: r, z, 0, hA, h => by
    obtain ⟨h1, h2⟩ := List.pairwise_cons.1 hA
    simp at h
    subst h
    have : delL p.1 (p :: r) = delL p.1 r := by simp [delL]
    rw [this, delL, List.filter_eq_self.2 fun q hq => by have := h1 q hq; simp; omega]
    rfl
  | p :: r, z, j + 1, hA, h => by
    obtain ⟨h1, h2⟩ := List.pairwise_cons.1 hA
    have hz : r[j]? = some z := by simpa using h
    have := h1 z (List.mem_of_getElem? hz)
    have e : delL z.1 (p :: r) = p :: delL z.1 r := by
      have : ¬ p.1 = z.1 := by omega
      simp [delL, this]
    rw [e, delL_cut h2 hz]
    rfl
/-- where the document's search stops: all before begin lower, all behind higher -/
theorem cut_at {l : List (Int × Int)} {a : Int} {j : Nat} (hA : Asc l) (hne : ∀ x ∈ l, x.1 ≠ a) (_ : ∀ x ∈ l.take j, x.1 < a) (hj : ∀ x, l[j]? = some x → a ≤ x.1) : ∀ x ∈ l.drop j, a < x.1 := by
  intro x hx
  cases e : l[j]? with
  | none =>
    rw [List.drop_eq_nil_of_le (by simpa using e)] at hx
    cases hx
  | some y =>
    have h0 := hj y e
    have hy := hne y (List.mem_of_getElem? e)
    rw [List.drop_eq_getElem_cons (List.getElem?_eq_some_iff.1 e).1, (List.getElem?_eq_some_iff.1 e).2] at hx
    rcases List.mem_cons.1 hx with rfl | hx
    · omega
    · have hA' : Asc (l.drop j) := List.Pairwise.sublist (List.drop_sublist j l) hA
      rw [List.drop_eq_getElem_cons (List.getElem?_eq_some_iff.1 e).1, (List.getElem?_eq_some_iff.1 e).2] at hA'
      have := (List.pairwise_cons.1 hA').1 x hx
      omega
theorem take_lt {l : List (Int × Int)} {a : Int} {j : Nat} {y : Int × Int} (h : ∀ x ∈ l.take j, x.1 < a) (hy : l[j]? = some y) (hlt : y.1 < a) : ∀ x ∈ l.take (j + 1), x.1 < a := by
  intro x hx
  rw [List.take_add_one, hy] at hx
  rcases List.mem_append.1 hx with q | q
  · exact h x q
  · simp at q; rw [q]; exact hlt

/-- the document's search for the best: the state behind j rounds -/
def bestTo (k : Int) (l : List (Int × Int)) : Option (Nat × (Int × Int)) → Prop := fun
  | none => ∀ x ∈ l, x.2 < k
  | some (i, x) => l[i]? = some x ∧ bestL k l = some x
theorem minL_snoc : ∀ (r : List (Int × Int)) (x y : Int × Int), minL x (r ++ [y]) = if y.2 < (minL x r).2 then y else minL x r
  | [], x, y => rfl
  | z :: r, x, y => by simp only [List.cons_append, minL]; exact minL_snoc r _ y
theorem fitL_snoc (k : Int) (l : List (Int × Int)) (y : Int × Int) : fitL k (l ++ [y]) = if y.2 < k then fitL k l else fitL k l ++ [y] := by
  unfold fitL
  rw [List.filter_append]
  by_cases h : y.2 < k <;> simp [h]
theorem bestL_snoc (k : Int) (l : List (Int × Int)) (y : Int × Int) : bestL k (l ++ [y]) = if y.2 < k then bestL k l else match bestL k l with | none => some y | some x => if y.2 < x.2 then some y else some x := by
  unfold bestL
  rw [fitL_snoc]
  by_cases h : y.2 < k
  · rw [if_pos h, if_pos h]
  · rw [if_neg h, if_neg h]
    cases e : fitL k l with
    | nil => simp [minL]
    | cons x r =>
      simp only [List.cons_append, minL_snoc]
      split <;> rfl
theorem bestTo_nil (k : Int) : bestTo k [] none := fun _ h => by cases h
/-- one round -/
theorem bestTo_skip {k : Int} {l : List (Int × Int)} {b : Option (Nat × (Int × Int))} {y : Int × Int} (h : bestTo k l b) (hy : y.2 < k ∨ ∃ i x, b = some (i, x) ∧ x.2 ≤ y.2) : bestTo k (l ++ [y]) b := by
  match b, h with
  | none, h =>
    rcases hy with hy | ⟨i, x, e, _⟩
    · intro x hx
      rcases List.mem_append.1 hx with q | q
      · exact h x q
      · simp at q; rw [q]; exact hy
    · cases e
  | some (i, x), ⟨h1, h2⟩ =>
    refine ⟨?_, ?_⟩
    · rw [List.getElem?_append_left (List.getElem?_eq_some_iff.1 h1).1]; exact h1
    · rw [bestL_snoc, h2]
      rcases hy with hy | ⟨i', x', e, hy⟩
      · rw [if_pos hy]
      · obtain ⟨rfl, rfl⟩ : i = i' ∧ x = x' := by simpa using e
        split
        · rfl
        · simp only
          rw [if_neg (by omega)]
theorem bestTo_take {k : Int} {l : List (Int × Int)} {b : Option (Nat × (Int × Int))} {y : Int × Int} (h : bestTo k l b) (hk : k ≤ y.2) (hy : ∀ i x, b = some (i, x) → y.2 < x.2) : bestTo k (l ++ [y]) (some (l.length, y)) := by
  refine ⟨by simp, ?_⟩
  rw [bestL_snoc, if_neg (by omega)]
  match b, h with
  | none, h =>
    have : bestL k l = none := by
      unfold bestL
      have : fitL k l = [] := by
        refine List.filter_eq_nil_iff.2 fun x hx => ?_
        have := h x hx
        simp; omega
      rw [this]
    rw [this]
  | some (i, x), ⟨_, h2⟩ =>
    rw [h2]
    simp only
    rw [if_pos (hy i x rfl)]
theorem bestTo_none {k : Int} {l : List (Int × Int)} (h : bestTo k l none) : bestL k l = none := by
  unfold bestL
  have : fitL k l = [] := by
    refine List.filter_eq_nil_iff.2 fun x hx => ?_
    have := h x hx
    simp; omega
  rw [this]
end Go.Proofs.YtcokmiidgdmdlaaGreatDoor

namespace Go.Proofs.YtcokmiidgdmdlaaGreatDoor

structure TS (n : Int) (F T : List (Int × Int)) (i k : Nat) (at' : Int) : Prop where
  i1 : i ≤ F.length
  k1 : k ≤ T.length
  a0 : 0 ≤ at'
  a1 : at' ≤ n
  fb : ∀ x ∈ F.take i, x.1 + sz x.2 ≤ at'
  fa : ∀ x ∈ F.drop i, at' ≤ x.1
  tb : ∀ x ∈ T.take k, x.1 + sz x.2 ≤ at'
  ta : ∀ x ∈ T.drop k, at' ≤ x.1

theorem TS.start {n : Int} {F T : List (Int × Int)} (h : Inv n F T) : TS n F T 0 0 0 :=
  ⟨Nat.zero_le _, Nat.zero_le _, Int.le_refl _, by have := h.n1; omega, (fun x hx => by simp at hx), (fun x hx => (h.rngF (by simpa using hx)).1), (fun x hx => by simp at hx), fun x hx => (h.rngT (by simpa using hx)).1⟩

theorem mem_take_drop {l : List (Int × Int)} {x : Int × Int} (i : Nat) (h : x ∈ l) : x ∈ l.take i ∨ x ∈ l.drop i := by
  rw [← List.take_append_drop i l] at h
  exact List.mem_append.1 h
/-- the block at a place, if it is one of those still to come, is the next one -/
theorem next_one {l : List (Int × Int)} {i : Nat} {z : Int × Int} (hA : Asc l) (hz : z ∈ l.drop i) (hlo : ∀ x ∈ l.drop i, z.1 ≤ x.1) : l[i]? = some z := by
  have hA' : Asc (l.drop i) := List.Pairwise.sublist (List.drop_sublist i l) hA
  cases e : l.drop i with
  | nil => rw [e] at hz; cases hz
  | cons y r =>
    have h0 : l[i]? = some y := by
      have : (l.drop i)[0]? = some y := by rw [e]; rfl
      rwa [List.getElem?_drop, Nat.add_zero] at this
    rw [e] at hz hlo hA'
    rcases List.mem_cons.1 hz with rfl | hz
    · exact h0
    · have h1 := (List.pairwise_cons.1 hA').1 z hz
      have := hlo y (by simp)
      omega
theorem take_succ_mem {l : List (Int × Int)} {i : Nat} {z : Int × Int} (h : l[i]? = some z) {x : Int × Int} (hx : x ∈ l.take (i + 1)) : x ∈ l.take i ∨ x = z := by
  rw [List.take_add_one, h] at hx
  simpa using hx
theorem drop_succ_sub {l : List (Int × Int)} {i : Nat} {x : Int × Int} (hx : x ∈ l.drop (i + 1)) : x ∈ l.drop i := by
  rw [← List.drop_drop] at hx
  exact List.mem_of_mem_drop hx
theorem drop_succ_gt {l : List (Int × Int)} {i : Nat} {z : Int × Int} (hA : Asc l) (h : l[i]? = some z) {x : Int × Int} (hx : x ∈ l.drop (i + 1)) : z.1 < x.1 := by
  have hA' : Asc (l.drop i) := List.Pairwise.sublist (List.drop_sublist i l) hA
  rw [List.drop_eq_getElem_cons (List.getElem?_eq_some_iff.1 h).1, (List.getElem?_eq_some_iff.1 h).2] at hA'
  exact (List.pairwise_cons.1 hA').1 x hx
theorem mem_of_drop {l : List (Int × Int)} {i : Nat} {x : Int × Int} (hx : x ∈ l.drop i) : x ∈ l := List.mem_of_mem_drop hx

theorem checkE_of {n a k : Int} {L : List (Int × Int)} (t : TI n L) (n1 : 1 ≤ n) (n2 : n ≤ 256) (h : (a, k) ∈ L) : checkE a k n = 0 := by
  obtain ⟨b0, b1, b2, b3⟩ := t.blk h
  have := t.bound h
  simp only at b0 b1 b2 b3 this
  unfold checkE
  rw [if_neg (by omega), if_pos b3]

theorem TS.step {n : Int} {F T : List (Int × Int)} (h : Inv n F T) {i k : Nat} {at' : Int} (s : TS n F T i k at') (hlt : i < F.length ∨ k < T.length) :
    ∃ b, checkE at' b n = 0 ∧ 0 ≤ b ∧ b ≤ 6 ∧ ((F[i]? = some (at', b) ∧ TS n F T (i + 1) k (at' + sz b)) ∨ ((∀ x, F[i]? = some x → x.1 ≠ at') ∧ T[k]? = some (at', b) ∧ TS n F T i (k + 1) (at' + sz b))) := by
  have hn : at' < n := by
    rcases hlt with q | q
    · have hm : F[i]'q ∈ F.drop i := by rw [List.drop_eq_getElem_cons q]; exact List.mem_cons_self ..
      have h1 := s.fa _ hm
      have h2 := h.t.bound (h.memF (mem_of_drop hm))
      have := sz_pos (F[i]'q).2
      omega
    · have hm : T[k]'q ∈ T.drop k := by rw [List.drop_eq_getElem_cons q]; exact List.mem_cons_self ..
      have h1 := s.ta _ hm
      have h2 := h.t.bound (h.memT (mem_of_drop hm))
      have := sz_pos (T[k]'q).2
      omega
  obtain ⟨z, hz, pz⟩ := h.t.cov s.a0 hn
  have bz := h.t.blk hz
  have bnd := h.t.bound hz
  have sp := sz_pos z.2
  obtain ⟨p1, p2⟩ := pz
  have apart : ∀ y ∈ F ++ T, y ≠ z → z.1 ≤ y.1 → z.1 + sz z.2 ≤ y.1 := fun y hy hne hle => by
    rcases Int.lt_or_le y.1 (z.1 + sz z.2) with q | q
    · exact absurd (h.t.one hy hz (inn_at y) ⟨hle, q⟩) hne
    · exact q
  rcases List.mem_append.1 hz with hF | hT
  · rcases mem_take_drop i hF with q | q
    · have := s.fb z q; omega
    · have e : z.1 = at' := by have := s.fa z q; omega
      have hi := next_one h.fa q (fun x hx => by rw [e]; exact s.fa x hx)
      obtain ⟨a, b⟩ := z
      simp only at e p1 p2 sp bnd
      subst e
      have hck := checkE_of h.t h.n1 h.n2 hz
      refine ⟨b, hck, bz.2.1, bz.2.2.1, .inl ⟨hi, ?_⟩⟩
      refine ⟨(List.getElem?_eq_some_iff.1 hi).1, s.k1, by have := s.a0; omega, by omega, fun x hx => ?_, fun x hx => ?_, fun x hx => by have := s.tb x hx; omega, fun x hx => ?_⟩
      · rcases take_succ_mem hi hx with q | rfl
        · have := s.fb x q; omega
        · exact Int.le_refl _
      · have hgt := drop_succ_gt h.fa hi hx
        simp only at hgt
        exact apart x (h.memF (mem_of_drop hx)) (fun e => by rw [e] at hgt; simp only at hgt; omega) (by simp only; omega)
      · have hle := s.ta x hx
        exact apart x (h.memT (mem_of_drop hx)) (fun e => h.dis _ hF (e ▸ mem_of_drop hx)) hle
  · rcases mem_take_drop k hT with q | q
    · have := s.tb z q; omega
    · have e : z.1 = at' := by have := s.ta z q; omega
      have hi := next_one h.ta q (fun x hx => by rw [e]; exact s.ta x hx)
      obtain ⟨a, b⟩ := z
      simp only at e p1 p2 sp bnd
      subst e
      have hck := checkE_of h.t h.n1 h.n2 hz
      refine ⟨b, hck, bz.2.1, bz.2.2.1, .inr ⟨fun x hx hxe => ?_, hi, ?_⟩⟩
      · have hxm : x ∈ F := List.mem_of_getElem? hx
        have := h.t.same (h.memF hxm) hz hxe
        exact h.dis x hxm (this ▸ hT)
      refine ⟨s.i1, (List.getElem?_eq_some_iff.1 hi).1, by have := s.a0; omega, by omega, fun x hx => by have := s.fb x hx; omega, fun x hx => ?_, fun x hx => ?_, fun x hx => ?_⟩
      · have hle := s.fa x hx
        exact apart x (h.memF (mem_of_drop hx)) (fun e => h.dis x (mem_of_drop hx) (e ▸ hT)) hle
      · rcases take_succ_mem hi hx with q | rfl
        · have := s.tb x q; omega
        · exact Int.le_refl _
      · have hgt := drop_succ_gt h.ta hi hx
        simp only at hgt
        exact apart x (h.memT (mem_of_drop hx)) (fun e => by rw [e] at hgt; simp only at hgt; omega) (by simp only; omega)
theorem TS.fin {n : Int} {F T : List (Int × Int)} (h : Inv n F T) {at' : Int} (s : TS n F T F.length T.length at') : at' = n := by
  rcases Int.lt_or_le at' n with q | q
  · obtain ⟨z, hz, p1, p2⟩ := h.t.cov s.a0 q
    rcases List.mem_append.1 hz with q | q
    · have := s.fb z (by rwa [List.take_length]); omega
    · have := s.tb z (by rwa [List.take_length]); omega
  · have := s.a1; omega
end Go.Proofs.YtcokmiidgdmdlaaGreatDoor
