/- Plain laws of pages and of blocks of pages: sizes of orders, alignment, buddies, parents; what Go's bit operations are on such numbers. No program in sight. -/
import Derived.WalkKit
namespace Go.Proofs.YtcooflachcimbaaDoor
open Go.RowKit

/-- pages of an order -/
def sz (k : Int) : Int := 2 ^ k.toNat
theorem ord_cases {k : Int} (h0 : 0 ≤ k) (h6 : k ≤ 6) : k = 0 ∨ k = 1 ∨ k = 2 ∨ k = 3 ∨ k = 4 ∨ k = 5 ∨ k = 6 := by omega
theorem ord_cases7 {k : Int} (h0 : 0 ≤ k) (h6 : k ≤ 7) : k = 0 ∨ k = 1 ∨ k = 2 ∨ k = 3 ∨ k = 4 ∨ k = 5 ∨ k = 6 ∨ k = 7 := by omega
theorem sz0 : sz 0 = 1 := rfl
theorem sz1 : sz 1 = 2 := rfl
theorem sz2 : sz 2 = 4 := rfl
theorem sz3 : sz 3 = 8 := rfl
theorem sz4 : sz 4 = 16 := rfl
theorem sz5 : sz 5 = 32 := rfl
theorem sz6 : sz 6 = 64 := rfl
theorem sz7 : sz 7 = 128 := rfl
theorem sz_bd {k : Int} (h0 : 0 ≤ k) (h6 : k ≤ 6) : 1 ≤ sz k ∧ sz k ≤ 64 := by
  rcases ord_cases h0 h6 with rfl | rfl | rfl | rfl | rfl | rfl | rfl <;> decide
theorem sz_bd7 {k : Int} (h0 : 0 ≤ k) (h6 : k ≤ 7) : 1 ≤ sz k ∧ sz k ≤ 128 := by
  rcases ord_cases7 h0 h6 with rfl | rfl | rfl | rfl | rfl | rfl | rfl | rfl <;> decide
theorem sz_succ {k : Int} (h0 : 0 ≤ k) (h6 : k ≤ 6) : sz (k + 1) = 2 * sz k := by
  rcases ord_cases h0 h6 with rfl | rfl | rfl | rfl | rfl | rfl | rfl <;> decide
theorem shl_sz {k : Int} (h0 : 0 ≤ k) (h6 : k ≤ 6) : wrap64 (2 ^ min k.toNat 64) = sz k := by
  unfold wrap64
  rcases ord_cases h0 h6 with rfl | rfl | rfl | rfl | rfl | rfl | rfl <;> decide

theorem shl_sz' {k : Int} (h0 : 0 ≤ k) (h6 : k ≤ 6) : wrap64 (2 ^ k.toNat) = sz k := by
  unfold wrap64
  rcases ord_cases h0 h6 with rfl | rfl | rfl | rfl | rfl | rfl | rfl <;> decide

theorem bits_table : ∀ a : Fin 512, ∀ k : Fin 7,
    bits .and .i64 ((a.val : Nat) : Int) (((2 ^ k.val : Nat) : Int) - 1) = (((a.val % 2 ^ k.val : Nat)) : Int)
    ∧ bits .xor .i64 ((a.val : Nat) : Int) ((2 ^ k.val : Nat) : Int) = (if a.val % (2 * 2 ^ k.val) < 2 ^ k.val then ((a.val : Nat) : Int) + ((2 ^ k.val : Nat) : Int) else ((a.val : Nat) : Int) - ((2 ^ k.val : Nat) : Int))
    ∧ bits .andNot .i64 ((a.val : Nat) : Int) ((2 ^ k.val : Nat) : Int) = (if a.val % (2 * 2 ^ k.val) < 2 ^ k.val then ((a.val : Nat) : Int) else ((a.val : Nat) : Int) - ((2 ^ k.val : Nat) : Int)) := by
  decide +kernel

theorem bits_at {a k : Int} (h0 : 0 ≤ a) (h1 : a < 512) (k0 : 0 ≤ k) (k6 : k ≤ 6) :
    bits .and .i64 a (sz k - 1) = a % sz k
    ∧ bits .xor .i64 a (sz k) = (if a % (2 * sz k) < sz k then a + sz k else a - sz k)
    ∧ bits .andNot .i64 a (sz k) = (if a % (2 * sz k) < sz k then a else a - sz k) := by
  obtain ⟨n, rfl⟩ := Int.eq_ofNat_of_zero_le h0
  obtain ⟨m, rfl⟩ := Int.eq_ofNat_of_zero_le k0
  have t := bits_table ⟨n, by omega⟩ ⟨m, by omega⟩
  have e : sz (m : Int) = ((2 ^ m : Nat) : Int) := by simp [sz]
  have e2 : (2 : Int) * ((2 ^ m : Nat) : Int) = ((2 * 2 ^ m : Nat) : Int) := by simp
  rw [e, e2]
  simp only [← Int.natCast_emod, Int.ofNat_lt] at t ⊢
  exact t
theorem and_sz {a k : Int} (h0 : 0 ≤ a) (h1 : a < 512) (k0 : 0 ≤ k) (k6 : k ≤ 6) : bits .and .i64 a (sz k - 1) = a % sz k := (bits_at h0 h1 k0 k6).1

/-- a block's own error: its number in the document -/
def aloneE (a k : Int) : Nat := if a < 0 ∨ 256 ≤ a ∨ k < 0 ∨ 6 < k then 2 else if a % sz k = 0 then 0 else 3
def checkE (a k n : Int) : Nat := if n < 1 ∨ 256 < n ∨ k < 0 ∨ 6 < k ∨ a < 0 ∨ n - sz k < a then 2 else if a % sz k = 0 then 0 else 3
/-- where a block's parent begins; where its buddy begins -/
def parA (a k : Int) : Int := if a % (2 * sz k) < sz k then a else a - sz k
def budA (a k : Int) : Int := if a % (2 * sz k) < sz k then a + sz k else a - sz k
theorem xor_sz {a k : Int} (h0 : 0 ≤ a) (h1 : a < 512) (k0 : 0 ≤ k) (k6 : k ≤ 6) : bits .xor .i64 a (sz k) = budA a k := (bits_at h0 h1 k0 k6).2.1
theorem andNot_sz {a k : Int} (h0 : 0 ≤ a) (h1 : a < 512) (k0 : 0 ≤ k) (k6 : k ≤ 6) : bits .andNot .i64 a (sz k) = parA a k := (bits_at h0 h1 k0 k6).2.2

theorem aloneE_cases (a k : Int) : (aloneE a k = 2 ∧ (a < 0 ∨ 256 ≤ a ∨ k < 0 ∨ 6 < k)) ∨ ((0 ≤ a ∧ a ≤ 255 ∧ 0 ≤ k ∧ k ≤ 6) ∧ ((aloneE a k = 3 ∧ a % sz k ≠ 0) ∨ (aloneE a k = 0 ∧ a % sz k = 0))) := by
  unfold aloneE
  by_cases h : a < 0 ∨ 256 ≤ a ∨ k < 0 ∨ 6 < k
  · exact .inl ⟨by rw [if_pos h], h⟩
  · refine .inr ⟨by omega, ?_⟩
    by_cases h2 : a % sz k = 0
    · exact .inr ⟨by rw [if_neg h, if_pos h2], h2⟩
    · exact .inl ⟨by rw [if_neg h, if_neg h2], h2⟩
/-- the error of Buddy and Parent; of Halves -/
def upE (a k : Int) : Nat := if aloneE a k = 0 then (if k = 6 then 4 else 0) else aloneE a k
def downE (a k : Int) : Nat := if aloneE a k = 0 then (if k = 0 then 4 else 0) else aloneE a k
theorem aloneE_zero {a k : Int} (h : aloneE a k = 0) : 0 ≤ a ∧ a ≤ 255 ∧ 0 ≤ k ∧ k ≤ 6 ∧ a % sz k = 0 := by
  rcases aloneE_cases a k with ⟨h2, _⟩ | ⟨⟨a0, a1, k0, k6⟩, ⟨h2, _⟩ | ⟨_, h2⟩⟩
  · omega
  · omega
  · exact ⟨a0, a1, k0, k6, h2⟩
theorem upE_zero {a k : Int} (h : upE a k = 0) : aloneE a k = 0 ∧ k ≠ 6 := by
  unfold upE at h
  by_cases h1 : aloneE a k = 0
  · rw [if_pos h1] at h
    exact ⟨h1, fun e => by rw [if_pos e] at h; omega⟩
  · rw [if_neg h1] at h; omega
theorem downE_zero {a k : Int} (h : downE a k = 0) : aloneE a k = 0 ∧ k ≠ 0 := by
  unfold downE at h
  by_cases h1 : aloneE a k = 0
  · rw [if_pos h1] at h
    exact ⟨h1, fun e => by rw [if_pos e] at h; omega⟩
  · rw [if_neg h1] at h; omega
theorem upE_cases {a k : Int} {c : Nat} (h : upE a k = c + 1) : aloneE a k = c + 1 ∨ (aloneE a k = 0 ∧ k = 6 ∧ c = 3) := by
  unfold upE at h
  by_cases h1 : aloneE a k = 0
  · rw [if_pos h1] at h
    by_cases e : k = 6
    · rw [if_pos e] at h; exact .inr ⟨h1, e, by omega⟩
    · rw [if_neg e] at h; omega
  · rw [if_neg h1] at h; exact .inl h
theorem downE_cases {a k : Int} {c : Nat} (h : downE a k = c + 1) : aloneE a k = c + 1 ∨ (aloneE a k = 0 ∧ k = 0 ∧ c = 3) := by
  unfold downE at h
  by_cases h1 : aloneE a k = 0
  · rw [if_pos h1] at h
    by_cases e : k = 0
    · rw [if_pos e] at h; exact .inr ⟨h1, e, by omega⟩
    · rw [if_neg e] at h; omega
  · rw [if_neg h1] at h; exact .inl h
theorem aloneE_mk {a k : Int} (a0 : 0 ≤ a) (a1 : a ≤ 255) (k0 : 0 ≤ k) (k6 : k ≤ 6) (h : a % sz k = 0) : aloneE a k = 0 := by
  unfold aloneE
  rw [if_neg (by omega), if_pos h]
theorem upE_mk {a k : Int} (h : aloneE a k = 0) (h6 : k ≠ 6) : upE a k = 0 := by unfold upE; rw [if_pos h, if_neg h6]
theorem downE_mk {a k : Int} (h : aloneE a k = 0) (h6 : k ≠ 0) : downE a k = 0 := by unfold downE; rw [if_pos h, if_neg h6]
/-- what a right block below the greatest order, its buddy and its parent are to each other -/
theorem kin {a k : Int} (a0 : 0 ≤ a) (a1 : a ≤ 255) (k0 : 0 ≤ k) (k5 : k ≤ 5) (ha : a % sz k = 0) :
    (0 ≤ budA a k ∧ budA a k ≤ 255 ∧ budA a k % sz k = 0) ∧ budA (budA a k) k = a ∧ parA (budA a k) k = parA a k ∧ (0 ≤ parA a k ∧ parA a k ≤ 255 ∧ parA a k % sz (k + 1) = 0) ∧
    ((parA a k = a ∧ budA a k = parA a k + sz k) ∨ (parA a k = budA a k ∧ a = parA a k + sz k)) ∧ parA a k = a / (2 * sz k) * (2 * sz k) ∧ (budA a k = if parA a k = a then a + sz k else parA a k) := by
  have e : k = 0 ∨ k = 1 ∨ k = 2 ∨ k = 3 ∨ k = 4 ∨ k = 5 := by omega
  rcases e with rfl | rfl | rfl | rfl | rfl | rfl <;> simp only [budA, parA, sz0, sz1, sz2, sz3, sz4, sz5, sz6, show (0 : Int) + 1 = 1 from rfl, show (1 : Int) + 1 = 2 from rfl, show (2 : Int) + 1 = 3 from rfl, show (3 : Int) + 1 = 4 from rfl, show (4 : Int) + 1 = 5 from rfl, show (5 : Int) + 1 = 6 from rfl] at * <;> (refine ⟨⟨?_, ?_, ?_⟩, ?_, ?_, ⟨?_, ?_, ?_⟩, ?_, ?_, ?_⟩ <;> omega)
theorem kin_p {a k : Int} (a0 : 0 ≤ a) (a1 : a ≤ 255) (k0 : 0 ≤ k) (k5 : k ≤ 5) (ha : a % sz k = 0) : 0 ≤ parA a k ∧ parA a k ≤ 255 := by
  obtain ⟨_, _, _, ⟨p0, p1, _⟩, _⟩ := kin a0 a1 k0 k5 ha
  exact ⟨p0, p1⟩
theorem kin_q {a k : Int} (a0 : 0 ≤ a) (a1 : a ≤ 255) (k0 : 0 ≤ k) (k5 : k ≤ 5) (ha : a % sz k = 0) : a / sz (k + 1) * sz (k + 1) = parA a k := by
  obtain ⟨_, _, _, _, _, hp, _⟩ := kin a0 a1 k0 k5 ha
  rw [sz_succ k0 (by omega)]; exact hp.symm
theorem kin_b {a k : Int} (a0 : 0 ≤ a) (a1 : a ≤ 255) (k0 : 0 ≤ k) (k5 : k ≤ 5) (ha : a % sz k = 0) : (parA a k = a ∧ budA a k = a + sz k) ∨ (parA a k ≠ a ∧ budA a k = parA a k) := by
  obtain ⟨_, _, _, _, _, _, hb⟩ := kin a0 a1 k0 k5 ha
  by_cases h : parA a k = a
  · rw [if_pos h] at hb; exact .inl ⟨h, hb⟩
  · rw [if_neg h] at hb; exact .inr ⟨h, hb⟩
theorem twice {a k : Int} (h : upE a k = 0) : upE (budA a k) k = 0 ∧ budA (budA a k) k = a ∧ parA (budA a k) k = parA a k ∧ downE (parA a k) (k + 1) = 0 ∧
    ((parA a k = a ∧ budA a k = parA a k + sz k) ∨ (parA a k = budA a k ∧ a = parA a k + sz k)) := by
  obtain ⟨h1, h6⟩ := upE_zero h
  obtain ⟨a0, a1, k0, k6, ha⟩ := aloneE_zero h1
  obtain ⟨⟨b0, b1, b2⟩, c, d, ⟨p0, p1, p2⟩, f, _⟩ := kin a0 a1 k0 (by omega) ha
  exact ⟨upE_mk (aloneE_mk b0 b1 k0 k6 b2) h6, c, d, downE_mk (aloneE_mk p0 p1 (by omega) (by omega) p2) (by omega), f⟩
/-- the least order that has so many pages -/
def ordI (n : Int) : Int := if n ≤ 1 then 0 else if n ≤ 2 then 1 else if n ≤ 4 then 2 else if n ≤ 8 then 3 else if n ≤ 16 then 4 else if n ≤ 32 then 5 else 6
theorem ordI_bd (n : Int) : 0 ≤ ordI n ∧ ordI n ≤ 6 := by
  unfold ordI
  (repeat' split) <;> omega
theorem ordI_le {n : Int} (h : n ≤ 64) : n ≤ sz (ordI n) := by
  unfold ordI
  (repeat' split) <;> simp only [sz0, sz1, sz2, sz3, sz4, sz5, sz6] <;> omega
theorem ordI_lt {n j : Int} (h0 : 0 ≤ j) (h : j < ordI n) : sz j < n := by
  have hb := (ordI_bd n).2
  have e : j = 0 ∨ j = 1 ∨ j = 2 ∨ j = 3 ∨ j = 4 ∨ j = 5 := by omega
  unfold ordI at h
  rcases e with rfl | rfl | rfl | rfl | rfl | rfl <;> simp only [sz0, sz1, sz2, sz3, sz4, sz5] <;> (repeat' split at h) <;> omega
theorem sz_le64 {k : Int} (h0 : 0 ≤ k) (h6 : k ≤ 6) : sz k ≤ 64 := (sz_bd h0 h6).2
end Go.Proofs.YtcooflachcimbaaDoor
