/- Lemmas and contracts for the claim's last text: Lay, Plain. -/
import Derived.Ground.GgzProg
import Derived.Ground.SlgmProg
import Derived.Ground.SlmcProg
import Derived.Shelf.SlIterI.Nil
import Derived.Shelf.SortM.Plain
import Derived.Shelf.SortM.SortNone
import Derived.Shelf.SlMaps.Clone
import Derived.Test.YtcokmiidgdmdlaaGreatDoorProg
import Derived.WalkKit
namespace Go.Proofs
open Go.Shelf
def Tryz.keysA_ren : Go.Shelf.Ren := ⟨fun | 7 => 146 | 10 => 166 | n => n, fun | 23 => 181 | 26 => 3 | 3 => 3 | 28 => 222 | 0 => 0 | 27 => 221 | 33 => 96 | 4 => 4 | n => n, fun | n => n⟩
theorem Tryz.keysA : Go.Proofs.SlLaysZI.n7 Tryz.prog Tryz.keysA_ren := {
  mixed := by kernel_rfl
  f7 := ⟨Tryz.f146.name, by decide, Tryz.func146.trans (congrArg some (by kernel_rfl))⟩
  f10 := ⟨Tryz.f166.name, by decide, Tryz.func166.trans (congrArg some (by kernel_rfl))⟩
  t0 := Tryz.underlying0
  a0 := Tryz.isAgg0
  z0 := Tryz.sizeOf0
  v0 := Tryz.zeroValue0
  t4 := Tryz.underlying4
  a4 := Tryz.isAgg4
  z4 := Tryz.sizeOf4
  v4 := Tryz.zeroValue4
  t23 := Tryz.underlying181
  a23 := Tryz.isAgg181
  z23 := Tryz.sizeOf181
  v23 := Tryz.zeroValue181
  t26 := Tryz.underlying3
  a26 := Tryz.isAgg3
  z26 := Tryz.sizeOf3
  v26 := Tryz.zeroValue3
  t27 := Tryz.underlying221
  a27 := Tryz.isAgg221
  z27 := Tryz.sizeOf221
  v27 := Tryz.zeroValue221
  t28 := Tryz.underlying222
  a28 := Tryz.isAgg222
  z28 := Tryz.sizeOf222
  v28 := Tryz.zeroValue222
  t33 := Tryz.underlying96
  a33 := Tryz.isAgg96
  z33 := Tryz.sizeOf96
  v33 := Tryz.zeroValue96 }
def Tryz.sortedA_ren : Go.Shelf.Ren := ⟨fun | 6 => 145 | 8 => 164 | 9 => 165 | 11 => 174 | 13 => 176 | 12 => 175 | 23 => 188 | 24 => 189 | 14 => 179 | 15 => 180 | 16 => 181 | 17 => 182 | 18 => 183 | 19 => 184 | 20 => 185 | 21 => 186 | 22 => 187 | 25 => 190 | 26 => 191 | 27 => 192 | 28 => 193 | 29 => 194 | 30 => 118 | 31 => 195 | n => n, fun | 26 => 3 | 28 => 222 | 24 => 22 | 0 => 0 | 3 => 3 | 37 => 245 | 48 => 280 | 50 => 282 | 4 => 4 | 40 => 274 | 39 => 273 | 45 => 208 | 5 => 5 | 9 => 9 | 51 => 283 | 55 => 287 | 57 => 289 | 58 => 78 | 33 => 96 | n => n, fun | n => n⟩
theorem Tryz.sortedA : Go.Proofs.SlLaysZI.n6 Tryz.prog Tryz.sortedA_ren := {
  mixed := by kernel_rfl
  f6 := ⟨Tryz.f145.name, by decide, Tryz.func145.trans (congrArg some (by kernel_rfl))⟩
  f8 := ⟨Tryz.f164.name, by decide, Tryz.func164.trans (congrArg some (by kernel_rfl))⟩
  f11 := ⟨Tryz.f174.name, by decide, Tryz.func174.trans (congrArg some (by kernel_rfl))⟩
  t0 := Tryz.underlying0
  a0 := Tryz.isAgg0
  z0 := Tryz.sizeOf0
  v0 := Tryz.zeroValue0
  t24 := Tryz.underlying22
  a24 := Tryz.isAgg22
  z24 := Tryz.sizeOf22
  v24 := Tryz.zeroValue22
  t26 := Tryz.underlying3
  a26 := Tryz.isAgg3
  z26 := Tryz.sizeOf3
  v26 := Tryz.zeroValue3
  t28 := Tryz.underlying222
  a28 := Tryz.isAgg222
  z28 := Tryz.sizeOf222
  v28 := Tryz.zeroValue222
  i26 := by kernel_rfl }
def Tryz.sortA_ren : Go.Shelf.Ren := ⟨fun | 5 => 165 | 8 => 176 | 7 => 175 | 19 => 188 | 20 => 189 | 10 => 179 | 11 => 180 | 12 => 181 | 13 => 182 | 14 => 183 | 15 => 184 | 16 => 185 | 17 => 186 | 18 => 187 | 30 => 190 | 31 => 191 | 32 => 192 | 33 => 193 | 34 => 194 | 35 => 118 | 40 => 195 | n => n, fun | 23 => 22 | 25 => 3 | 3 => 3 | 32 => 245 | 22 => 22 | 0 => 0 | 44 => 280 | 46 => 282 | 4 => 4 | 36 => 274 | 35 => 273 | 41 => 208 | 5 => 5 | 9 => 9 | 53 => 283 | 57 => 287 | 63 => 289 | 64 => 78 | n => n, fun | n => n⟩
theorem Tryz.sortA : Go.Proofs.SlLaysM.n5 Tryz.prog Tryz.sortA_ren := {
  mixed := by kernel_rfl
  f5 := ⟨Tryz.f165.name, by decide, Tryz.func165.trans (congrArg some (by kernel_rfl))⟩
  f7 := ⟨Tryz.f175.name, by decide, Tryz.func175.trans (congrArg some (by kernel_rfl))⟩
  f8 := Tryz.func176.trans (congrArg some (by kernel_rfl))
  f10 := ⟨Tryz.f179.name, by decide, Tryz.func179.trans (congrArg some (by kernel_rfl))⟩
  f11 := ⟨Tryz.f180.name, by decide, Tryz.func180.trans (congrArg some (by kernel_rfl))⟩
  f12 := ⟨Tryz.f181.name, by decide, Tryz.func181.trans (congrArg some (by kernel_rfl))⟩
  f13 := ⟨Tryz.f182.name, by decide, Tryz.func182.trans (congrArg some (by kernel_rfl))⟩
  f14 := ⟨Tryz.f183.name, by decide, Tryz.func183.trans (congrArg some (by kernel_rfl))⟩
  f15 := ⟨Tryz.f184.name, by decide, Tryz.func184.trans (congrArg some (by kernel_rfl))⟩
  f16 := ⟨Tryz.f185.name, by decide, Tryz.func185.trans (congrArg some (by kernel_rfl))⟩
  f17 := ⟨Tryz.f186.name, by decide, Tryz.func186.trans (congrArg some (by kernel_rfl))⟩
  f18 := ⟨Tryz.f187.name, by decide, Tryz.func187.trans (congrArg some (by kernel_rfl))⟩
  f19 := Tryz.func188.trans (congrArg some (by kernel_rfl))
  f20 := Tryz.func189.trans (congrArg some (by kernel_rfl))
  f30 := ⟨Tryz.f190.name, by decide, Tryz.func190.trans (congrArg some (by kernel_rfl))⟩
  f31 := Tryz.func191.trans (congrArg some (by kernel_rfl))
  f32 := Tryz.func192.trans (congrArg some (by kernel_rfl))
  f33 := ⟨Tryz.f193.name, by decide, Tryz.func193.trans (congrArg some (by kernel_rfl))⟩
  f34 := ⟨Tryz.f194.name, by decide, Tryz.func194.trans (congrArg some (by kernel_rfl))⟩
  f35 := ⟨Tryz.f118.name, by decide, Tryz.func118.trans (congrArg some (by kernel_rfl))⟩
  f40 := ⟨Tryz.f195.name, by decide, Tryz.func195.trans (congrArg some (by kernel_rfl))⟩
  t0 := Tryz.underlying0
  a0 := Tryz.isAgg0
  z0 := Tryz.sizeOf0
  v0 := Tryz.zeroValue0
  t3 := Tryz.underlying3
  a3 := Tryz.isAgg3
  z3 := Tryz.sizeOf3
  v3 := Tryz.zeroValue3
  t4 := Tryz.underlying4
  a4 := Tryz.isAgg4
  z4 := Tryz.sizeOf4
  v4 := Tryz.zeroValue4
  t5 := Tryz.underlying5
  a5 := Tryz.isAgg5
  z5 := Tryz.sizeOf5
  v5 := Tryz.zeroValue5
  t9 := Tryz.underlying9
  a9 := Tryz.isAgg9
  z9 := Tryz.sizeOf9
  v9 := Tryz.zeroValue9
  t22 := Tryz.underlying22
  a22 := Tryz.isAgg22
  z22 := Tryz.sizeOf22
  v22 := Tryz.zeroValue22
  t23 := Tryz.underlying22
  a23 := Tryz.isAgg22
  z23 := Tryz.sizeOf22
  v23 := Tryz.zeroValue22
  t25 := Tryz.underlying3
  a25 := Tryz.isAgg3
  z25 := Tryz.sizeOf3
  v25 := Tryz.zeroValue3
  t32 := Tryz.underlying245
  a32 := Tryz.isAgg245
  z32 := Tryz.sizeOf245
  v32 := Tryz.zeroValue245
  t35 := Tryz.underlying273
  a35 := Tryz.isAgg273
  z35 := Tryz.sizeOf273
  v35 := Tryz.zeroValue273
  t36 := Tryz.underlying274
  a36 := Tryz.isAgg274
  z36 := Tryz.sizeOf274
  v36 := Tryz.zeroValue274
  t41 := Tryz.underlying208
  a41 := Tryz.isAgg208
  z41 := Tryz.sizeOf208
  v41 := Tryz.zeroValue208
  t44 := Tryz.underlying280
  a44 := Tryz.isAgg280
  z44 := Tryz.sizeOf280
  v44 := Tryz.zeroValue280
  t46 := Tryz.underlying282
  a46 := Tryz.isAgg282
  z46 := Tryz.sizeOf282
  v46 := Tryz.zeroValue282
  t53 := Tryz.underlying283
  a53 := Tryz.isAgg283
  z53 := Tryz.sizeOf283
  v53 := Tryz.zeroValue283
  t57 := Tryz.underlying287
  a57 := Tryz.isAgg287
  z57 := Tryz.sizeOf287
  v57 := Tryz.zeroValue287
  t63 := Tryz.underlying289
  a63 := Tryz.isAgg289
  z63 := Tryz.sizeOf289
  v63 := Tryz.zeroValue289
  t64 := Tryz.underlying78
  a64 := Tryz.isAgg78
  z64 := Tryz.sizeOf78
  v64 := Tryz.zeroValue78 }
def Tryz.cloneA_ren : Go.Shelf.Ren := ⟨fun | 5 => 157 | 7 => 170 | n => n, fun | 23 => 181 | 25 => 3 | 3 => 3 | 4 => 4 | 20 => 20 | n => n, fun | n => n⟩
end Go.Proofs

namespace Go.Proofs.YtcokmiidgdmdlaaGreatDoor
open Go.RowKit

/-- pages of an order -/
def sz (k : Int) : Int := 2 ^ k.toNat
theorem ord_cases {k : Int} (h0 : 0 ≤ k) (h6 : k ≤ 6) : k = 0 ∨ k = 1 ∨ k = 2 ∨ k = 3 ∨ k = 4 ∨ k = 5 ∨ k = 6 := by omega
theorem sz0 : sz 0 = 1 := rfl
theorem sz1 : sz 1 = 2 := rfl
theorem sz2 : sz 2 = 4 := rfl
theorem sz3 : sz 3 = 8 := rfl
theorem sz4 : sz 4 = 16 := rfl
theorem sz5 : sz 5 = 32 := rfl
theorem sz6 : sz 6 = 64 := rfl
theorem sz_bd {k : Int} (h0 : 0 ≤ k) (h6 : k ≤ 6) : 1 ≤ sz k ∧ sz k ≤ 64 := by
  rcases ord_cases h0 h6 with rfl | rfl | rfl | rfl | rfl | rfl | rfl <;> decide
theorem sz_succ {k : Int} (h0 : 0 ≤ k) (h6 : k ≤ 6) : sz (k + 1) = 2 * sz k := by
  rcases ord_cases h0 h6 with rfl | rfl | rfl | rfl | rfl | rfl | rfl <;> decide
theorem shl_sz' {k : Int} (h0 : 0 ≤ k) (h6 : k ≤ 6) : wrap64 (2 ^ k.toNat) = sz k := by
  unfold wrap64
  rcases ord_cases h0 h6 with rfl | rfl | rfl | rfl | rfl | rfl | rfl <;> decide

theorem bits_table : ∀ a : Fin 512, ∀ k : Fin 7,
    bits .and .i64 ((a.val : Nat) : Int) (((2 ^ k.val : Nat) : Int) - 1) = (((a.val % 2 ^ k.val : Nat)) : Int)
    ∧ bits .xor .i64 ((a.val : Nat) : Int) ((2 ^ k.val : Nat) : Int) = (if a.val % (2 * 2 ^ k.val) < 2 ^ k.val then ((a.val : Nat) : Int) + ((2 ^ k.val : Nat) : Int) else ((a.val : Nat) : Int) - ((2 ^ k.val : Nat) : Int))
    ∧ bits .andNot .i64 ((a.val : Nat) : Int) ((2 ^ k.val : Nat) : Int) = (if a.val % (2 * 2 ^ k.val) < 2 ^ k.val then ((a.val : Nat) : Int) else ((a.val : Nat) : Int) - ((2 ^ k.val : Nat) : Int)) := by
  decide +kernel

theorem bits_at {a k : Int} (h0 : 0 ≤ a) (h1 : a < 512) (k0 : 0 ≤ k) (k6 : k ≤ 6) :
    bits .and .i64 a (sz k - 1) = a % sz k
    ∧ bits .xor .i64 a (sz k) = (if a % (2 * sz k) < sz k then a + sz k else a - sz k)
    ∧ bits .andNot .i64 a (sz k) = (if a % (2 * sz k) < sz k then a else a - sz k) := by
  obtain ⟨n, rfl⟩ := Int.eq_ofNat_of_zero_le h0
  obtain ⟨m, rfl⟩ := Int.eq_ofNat_of_zero_le k0
  have t := bits_table ⟨n, by omega⟩ ⟨m, by omega⟩
  have e : sz (m : Int) = ((2 ^ m : Nat) : Int) := by simp [sz]
  have e2 : (2 : Int) * ((2 ^ m : Nat) : Int) = ((2 * 2 ^ m : Nat) : Int) := by simp
  rw [e, e2]
  simp only [← Int.natCast_emod, Int.ofNat_lt] at t ⊢
  exact t
theorem and_sz {a k : Int} (h0 : 0 ≤ a) (h1 : a < 512) (k0 : 0 ≤ k) (k6 : k ≤ 6) : bits .and .i64 a (sz k - 1) = a % sz k := (bits_at h0 h1 k0 k6).1

/-- a block's own error: its number in the document -/
def aloneE (a k : Int) : Nat := if a < 0 ∨ 256 ≤ a ∨ k < 0 ∨ 6 < k then 2 else if a % sz k = 0 then 0 else 3
def checkE (a k n : Int) : Nat := if n < 1 ∨ 256 < n ∨ k < 0 ∨ 6 < k ∨ a < 0 ∨ n - sz k < a then 2 else if a % sz k = 0 then 0 else 3
/-- where a block's parent begins; where its buddy begins -/
def parA (a k : Int) : Int := if a % (2 * sz k) < sz k then a else a - sz k
def budA (a k : Int) : Int := if a % (2 * sz k) < sz k then a + sz k else a - sz k
theorem aloneE_cases (a k : Int) : (aloneE a k = 2 ∧ (a < 0 ∨ 256 ≤ a ∨ k < 0 ∨ 6 < k)) ∨ ((0 ≤ a ∧ a ≤ 255 ∧ 0 ≤ k ∧ k ≤ 6) ∧ ((aloneE a k = 3 ∧ a % sz k ≠ 0) ∨ (aloneE a k = 0 ∧ a % sz k = 0))) := by
  unfold aloneE
  by_cases h : a < 0 ∨ 256 ≤ a ∨ k < 0 ∨ 6 < k
  · exact .inl ⟨by rw [if_pos h], h⟩
  · refine .inr ⟨by omega, ?_⟩
    by_cases h2 : a % sz k = 0
    · exact .inr ⟨by rw [if_neg h, if_pos h2], h2⟩
    · exact .inl ⟨by rw [if_neg h, if_neg h2], h2⟩
/-- the error of Buddy and Parent; of Halves -/
def upE (a k : Int) : Nat := if aloneE a k = 0 then (if k = 6 then 4 else 0) else aloneE a k
def downE (a k : Int) : Nat := if aloneE a k = 0 then (if k = 0 then 4 else 0) else aloneE a k
theorem aloneE_zero {a k : Int} (h : aloneE a k = 0) : 0 ≤ a ∧ a ≤ 255 ∧ 0 ≤ k ∧ k ≤ 6 ∧ a % sz k = 0 := by
  rcases aloneE_cases a k with ⟨h2, _⟩ | ⟨⟨a0, a1, k0, k6⟩, ⟨h2, _⟩ | ⟨_, h2⟩⟩
  · omega
  · omega
  · exact ⟨a0, a1, k0, k6, h2⟩
theorem downE_zero {a k : Int} (h : downE a k = 0) : aloneE a k = 0 ∧ k ≠ 0 := by
  unfold downE at h
  by_cases h1 : aloneE a k = 0
  · rw [if_pos h1] at h
    exact ⟨h1, fun e => by rw [if_pos e] at h; omega⟩
  · rw [if_neg h1] at h; omega
theorem aloneE_mk {a k : Int} (a0 : 0 ≤ a) (a1 : a ≤ 255) (k0 : 0 ≤ k) (k6 : k ≤ 6) (h : a % sz k = 0) : aloneE a k = 0 := by
  unfold aloneE
  rw [if_neg (by omega), if_pos h]
theorem downE_mk {a k : Int} (h : aloneE a k = 0) (h6 : k ≠ 0) : downE a k = 0 := by unfold downE; rw [if_pos h, if_neg h6]
theorem kin {a k : Int} (a0 : 0 ≤ a) (a1 : a ≤ 255) (k0 : 0 ≤ k) (k5 : k ≤ 5) (ha : a % sz k = 0) :
    (0 ≤ budA a k ∧ budA a k ≤ 255 ∧ budA a k % sz k = 0) ∧ budA (budA a k) k = a ∧ parA (budA a k) k = parA a k ∧ (0 ≤ parA a k ∧ parA a k ≤ 255 ∧ parA a k % sz (k + 1) = 0) ∧
    ((parA a k = a ∧ budA a k = parA a k + sz k) ∨ (parA a k = budA a k ∧ a = parA a k + sz k)) ∧ parA a k = a / (2 * sz k) * (2 * sz k) ∧ (budA a k = if parA a k = a then a + sz k else parA a k) := by
  have e : k = 0 ∨ k = 1 ∨ k = 2 ∨ k = 3 ∨ k = 4 ∨ k = 5 := by omega
  rcases e with rfl | rfl | rfl | rfl | rfl | rfl <;> simp only [budA, parA, sz0, sz1, sz2, sz3, sz4, sz5, sz6, show (0 : Int) + 1 = 1 from rfl, show (1 : Int) + 1 = 2 from rfl, show (2 : Int) + 1 = 3 from rfl, show (3 : Int) + 1 = 4 from rfl, show (4 : Int) + 1 = 5 from rfl, show (5 : Int) + 1 = 6 from rfl] at * <;> (refine ⟨⟨?_, ?_, ?_⟩, ?_, ?_, ⟨?_, ?_, ?_⟩, ?_, ?_, ?_⟩ <;> omega)
/-- the least order that has so many pages -/
def ordI (n : Int) : Int := if n ≤ 1 then 0 else if n ≤ 2 then 1 else if n ≤ 4 then 2 else if n ≤ 8 then 3 else if n ≤ 16 then 4 else if n ≤ 32 then 5 else 6
theorem sz_le64 {k : Int} (h0 : 0 ≤ k) (h6 : k ≤ 6) : sz k ≤ 64 := (sz_bd h0 h6).2
end Go.Proofs.YtcokmiidgdmdlaaGreatDoor

namespace Go.Proofs.YtcokmiidgdmdlaaGreatDoor
open Go.RowKit

/-- the order of the greatest block at a place within n pages -/
def covO (a n : Int) : Int := if a % 64 = 0 ∧ 64 ≤ n then 6 else if a % 32 = 0 ∧ 32 ≤ n then 5 else if a % 16 = 0 ∧ 16 ≤ n then 4 else if a % 8 = 0 ∧ 8 ≤ n then 3 else if a % 4 = 0 ∧ 4 ≤ n then 2 else if a % 2 = 0 ∧ 2 ≤ n then 1 else 0
theorem covO_bd (a n : Int) : 0 ≤ covO a n ∧ covO a n ≤ 6 := by
  unfold covO
  (repeat' split) <;> omega
theorem covO_fits {a n : Int} (h : 1 ≤ n) : a % sz (covO a n) = 0 ∧ sz (covO a n) ≤ n := by
  unfold covO
  (repeat' split) <;> simp only [sz0, sz1, sz2, sz3, sz4, sz5, sz6] <;> omega
theorem covO_max {a n k : Int} (k6 : k ≤ 6) (h : covO a n < k) : ¬ (a % sz k = 0 ∧ sz k ≤ n) := by
  have h0 := (covO_bd a n).1
  have e : k = 1 ∨ k = 2 ∨ k = 3 ∨ k = 4 ∨ k = 5 ∨ k = 6 := by omega
  unfold covO at h
  rcases e with rfl | rfl | rfl | rfl | rfl | rfl <;> simp only [sz1, sz2, sz3, sz4, sz5, sz6] <;> (repeat' split at h) <;> omega
def covF : Nat → Int → Int → List (Int × Int)
  | 0, _, _ => []
  | f + 1, a, n => if n ≤ 0 then [] else (a, covO a n) :: covF f (a + sz (covO a n)) (n - sz (covO a n))
/-- the blocks that are just the pages a to a + n - 1 -/
def covL (a n : Int) : List (Int × Int) := covF n.toNat a n

theorem covF_enough : ∀ (f g : Nat) (a n : Int), n.toNat ≤ f → n.toNat ≤ g → covF f a n = covF g a n
  | 0, 0, _, _, _, _ => rfl
  | 0, g + 1, a, n, hf, _ => by
    have : n ≤ 0 := by omega
    simp [covF, this]
  | f + 1, 0, a, n, _, hg => by
    have : n ≤ 0 := by omega
    simp [covF, this]
  | f + 1, g + 1, a, n, hf, hg => by
    unfold covF
    by_cases h : n ≤ 0
    · rw [if_pos h, if_pos h]
    · rw [if_neg h, if_neg h]
      have hb := covO_bd a n
      have hs := (sz_bd hb.1 hb.2).1
      rw [covF_enough f g _ _ (by omega) (by omega)]
theorem covL_zero {a n : Int} (h : n ≤ 0) : covL a n = [] := by
  unfold covL
  have : n.toNat = 0 := by omega
  rw [this]; rfl
theorem covL_step {a n : Int} (h : 1 ≤ n) : covL a n = (a, covO a n) :: covL (a + sz (covO a n)) (n - sz (covO a n)) := by
  have hb := covO_bd a n
  have hs := (sz_bd hb.1 hb.2).1
  unfold covL
  obtain ⟨f, hf⟩ : ∃ f, n.toNat = f + 1 := ⟨n.toNat - 1, by omega⟩
  rw [hf]
  show (if n ≤ 0 then [] else _) = _
  rw [if_neg (by omega)]
  rw [covF_enough f (n - sz (covO a n)).toNat _ _ (by omega) (Nat.le_refl _)]
theorem covL_length : ∀ (f : Nat) (a n : Int), n.toNat ≤ f → ((covL a n).length : Int) ≤ n.toNat
  | 0, a, n, h => by rw [covL_zero (by omega)]; exact Int.natCast_nonneg _
  | f + 1, a, n, h => by
    by_cases h0 : n ≤ 0
    · rw [covL_zero h0]; exact Int.natCast_nonneg _
    · have hb := covO_bd a n
      have hs := (sz_bd hb.1 hb.2).1
      rw [covL_step (by omega)]
      have := covL_length f (a + sz (covO a n)) (n - sz (covO a n)) (by omega)
      simp only [List.length_cons]
      omega
/-- what a chain of blocks is: they follow each other, right ones all, up to an end -/
def Chain (e : Int) : Int → List (Int × Int) → Prop
  | a, [] => a = e
  | a, b :: r => b.1 = a ∧ 0 ≤ b.2 ∧ b.2 ≤ 6 ∧ a % sz b.2 = 0 ∧ a + sz b.2 ≤ e ∧ Chain e (a + sz b.2) r
theorem covL_chain : ∀ (f : Nat) (a n : Int), n.toNat ≤ f → 0 ≤ n → Chain (a + n) a (covL a n)
  | 0, a, n, h, hn => by
    have : n = 0 := by omega
    subst this
    rw [covL_zero (by omega)]
    simp [Chain]
  | f + 1, a, n, h, hn => by
    by_cases h0 : n = 0
    · subst h0
      rw [covL_zero (by omega)]
      simp [Chain]
    · have hb := covO_bd a n
      have hs := (sz_bd hb.1 hb.2).1
      obtain ⟨f1, f2⟩ := covO_fits (a := a) (n := n) (by omega)
      rw [covL_step (by omega)]
      have := covL_chain f (a + sz (covO a n)) (n - sz (covO a n)) (by omega) (by omega)
      refine ⟨rfl, hb.1, hb.2, f1, (show a + sz (covO a n) ≤ a + n by omega), ?_⟩
      rwa [show a + sz (covO a n) + (n - sz (covO a n)) = a + n from by omega] at this
end Go.Proofs.YtcokmiidgdmdlaaGreatDoor

namespace Go.Proofs.YtcokmiidgdmdlaaGreatDoor

/-- sorted by where they begin, each once -/
def Asc (l : List (Int × Int)) : Prop := l.Pairwise fun p q => p.1 < q.1
def getL (l : List (Int × Int)) (a : Int) : Option Int := (l.find? fun p => p.1 == a).map (·.2)
def delL (a : Int) (l : List (Int × Int)) : List (Int × Int) := l.filter fun p => p.1 != a
def putL (a k : Int) : List (Int × Int) → List (Int × Int)
  | [] => [(a, k)]
  | p :: r => if a < p.1 then (a, k) :: p :: r else if a = p.1 then (a, k) :: r else p :: putL a k r

theorem Asc.del {l : List (Int × Int)} (h : Asc l) (a : Int) : Asc (delL a l) := List.Pairwise.filter _ h
theorem mem_delL {l : List (Int × Int)} {a : Int} {p : Int × Int} : p ∈ delL a l ↔ p ∈ l ∧ p.1 ≠ a := by simp [delL]
theorem putL_mem : ∀ {l : List (Int × Int)} {a k : Int} {p : Int × Int}, p ∈ putL a k l → p = (a, k) ∨ p ∈ l
  | [], a, k, p, h => by simpa [putL] using h
  | q :: r, a, k, p, h => by
    unfold putL at h
    split at h
    · simpa using h
    · split at h
      · rcases List.mem_cons.1 h with h | h
        · exact .inl h
        · exact .inr (List.mem_cons_of_mem _ h)
      · rcases List.mem_cons.1 h with h | h
        · exact .inr (by simp [h])
        · rcases putL_mem h with h | h
          · exact .inl h
          · exact .inr (List.mem_cons_of_mem _ h)
theorem Asc.put : ∀ {l : List (Int × Int)}, Asc l → ∀ a k, Asc (putL a k l)
  | [], _, a, k => by simp [putL, Asc]
  | q :: r, h, a, k => by
    obtain ⟨h1, h2⟩ := List.pairwise_cons.1 h
    unfold putL
    split
    · refine List.pairwise_cons.2 ⟨fun p hp => ?_, h⟩
      rcases List.mem_cons.1 hp with rfl | hp
      · assumption
      · have := h1 p hp; show a < p.1; omega
    · split
      · rename_i e
        exact List.pairwise_cons.2 ⟨fun p hp => by have := h1 p hp; show a < p.1; omega, h2⟩
      · refine List.pairwise_cons.2 ⟨fun p hp => ?_, Asc.put h2 a k⟩
        rcases putL_mem hp with rfl | hp
        · show q.1 < a; omega
        · exact h1 p hp
theorem getL_cons (p : Int × Int) (l : List (Int × Int)) (a : Int) : getL (p :: l) a = if p.1 = a then some p.2 else getL l a := by
  unfold getL
  by_cases h : p.1 = a <;> simp [h]
theorem getL_mem : ∀ {l : List (Int × Int)} {a k : Int}, getL l a = some k → (a, k) ∈ l
  | [], a, k, h => by simp [getL] at h
  | p :: r, a, k, h => by
    rw [getL_cons] at h
    split at h
    · rename_i e
      have : p.2 = k := Option.some.inj h
      have : p = (a, k) := by rw [← e, ← this]
      simp [this]
    · exact List.mem_cons_of_mem _ (getL_mem h)
theorem mem_getL : ∀ {l : List (Int × Int)} {a k : Int}, Asc l → (a, k) ∈ l → getL l a = some k
  | [], a, k, _, h => by simp at h
  | p :: r, a, k, hA, h => by
    obtain ⟨h1, h2⟩ := List.pairwise_cons.1 hA
    rw [getL_cons]
    rcases List.mem_cons.1 h with rfl | h
    · simp
    · rw [if_neg, mem_getL h2 h]
      have := h1 _ h
      simp at this
      omega
theorem getL_put : ∀ {l : List (Int × Int)} (a k b : Int), Asc l → getL (putL a k l) b = if a = b then some k else getL l b
  | [], a, k, b, _ => by rw [putL, getL_cons]
  | p :: r, a, k, b, h => by
    obtain ⟨h1, h2⟩ := List.pairwise_cons.1 h
    unfold putL
    split
    · rw [getL_cons]
    · split
      · rename_i e
        rw [getL_cons, getL_cons]
        by_cases hb : a = b
        · simp [hb]
        · rw [if_neg (by simpa using hb), if_neg (by simpa using hb), if_neg (by omega)]
      · rw [getL_cons, getL_cons, getL_put a k b h2]
        by_cases hb : p.1 = b
        · rw [if_pos hb, if_pos hb, if_neg (by omega)]
        · rw [if_neg hb, if_neg hb]
end Go.Proofs.YtcokmiidgdmdlaaGreatDoor

namespace Go.Proofs.YtcokmiidgdmdlaaGreatDoor

/-- a block that lies right: an order, its begin a multiple of its size -/
def Blk (x : Nat × Nat) : Prop := x.2 ≤ 6 ∧ x.1 % 2 ^ x.2 = 0
/-- page p lies in x -/
def Inn (p : Nat) (x : Nat × Nat) : Prop := x.1 ≤ p ∧ p < x.1 + 2 ^ x.2
instance (p : Nat) (x : Nat × Nat) : Decidable (Inn p x) := inferInstanceAs (Decidable (_ ∧ _))
/-- where x's buddy begins -/
def budN (x : Nat × Nat) : Nat := if x.1 / 2 ^ x.2 % 2 = 0 then x.1 + 2 ^ x.2 else x.1 - 2 ^ x.2

theorem pow_cases {k : Nat} (h : k ≤ 6) : (k = 0 ∧ 2 ^ k = 1) ∨ (k = 1 ∧ 2 ^ k = 2) ∨ (k = 2 ∧ 2 ^ k = 4) ∨ (k = 3 ∧ 2 ^ k = 8) ∨ (k = 4 ∧ 2 ^ k = 16) ∨ (k = 5 ∧ 2 ^ k = 32) ∨ (k = 6 ∧ 2 ^ k = 64) := by
  rcases k with _ | _ | _ | _ | _ | _ | _ | k
  all_goals first | omega | simp

/-- the blocks tile the pages below n: each page in one, and none beyond -/
structure Tiles (n : Nat) (L : List (Nat × Nat)) : Prop where
  blk : ∀ x ∈ L, Blk x
  cov : ∀ p, p < n → ∃ x ∈ L, Inn p x
  one : ∀ x ∈ L, ∀ y ∈ L, ∀ p, Inn p x → Inn p y → x = y
  bound : ∀ x ∈ L, x.1 + 2 ^ x.2 ≤ n
/-- no two of them are buddies -/
def Apart (L : List (Nat × Nat)) : Prop := ∀ x ∈ L, x.2 < 6 → (budN x, x.2) ∉ L

end Go.Proofs.YtcokmiidgdmdlaaGreatDoor

namespace Go.Proofs.YtcokmiidgdmdlaaGreatDoor

theorem half_blk {a k : Nat} (h : Blk (a, k + 1)) : Blk (a, k) ∧ Blk (a + 2 ^ k, k) ∧ ∀ p, Inn p (a, k + 1) ↔ (Inn p (a, k) ∨ Inn p (a + 2 ^ k, k)) := by
  obtain ⟨hk, ha⟩ := h
  unfold Blk Inn
  simp only at *
  rcases pow_cases (show k ≤ 6 by omega) with ⟨rfl, e⟩ | ⟨rfl, e⟩ | ⟨rfl, e⟩ | ⟨rfl, e⟩ | ⟨rfl, e⟩ | ⟨rfl, e⟩ | ⟨rfl, e⟩
  all_goals first
    | omega
    | (simp only [Nat.reduceAdd, Nat.reducePow] at *
       refine ⟨⟨by omega, by omega⟩, ⟨by omega, by omega⟩, fun p => by omega⟩)
theorem half_apart {a k : Nat} (p : Nat) : Inn p (a, k) → ¬ Inn p (a + 2 ^ k, k) := by
  unfold Inn
  simp only
  omega

theorem Tiles.split {n : Nat} {L M : List (Nat × Nat)} (h : Tiles n L) {a k : Nat} (hx : (a, k + 1) ∈ L)
    (hM : ∀ z, z ∈ M ↔ (z ∈ L ∧ z ≠ (a, k + 1)) ∨ z = (a, k) ∨ z = (a + 2 ^ k, k)) : Tiles n M := by
  obtain ⟨b1, b2, hp⟩ := half_blk (h.blk _ hx)
  have hb := h.bound _ hx
  have e2 : 2 ^ (k + 1) = 2 ^ k + 2 ^ k := by rw [Nat.pow_succ]; omega
  simp only [e2] at hb
  have hpos : 0 < 2 ^ k := Nat.pos_of_ne_zero (by simp)
  refine ⟨fun z hz => ?_, fun p hpn => ?_, fun x hx' y hy' p px py => ?_, fun z hz => ?_⟩
  · rcases (hM z).1 hz with ⟨h1, _⟩ | rfl | rfl
    · exact h.blk z h1
    · exact b1
    · exact b2
  · obtain ⟨z, hz, pz⟩ := h.cov p hpn
    by_cases e : z = (a, k + 1)
    · subst e
      rcases (hp p).1 pz with q | q
      · exact ⟨_, (hM _).2 (.inr (.inl rfl)), q⟩
      · exact ⟨_, (hM _).2 (.inr (.inr rfl)), q⟩
    · exact ⟨z, (hM z).2 (.inl ⟨hz, e⟩), pz⟩
  · rcases (hM x).1 hx' with ⟨h1, n1⟩ | rfl | rfl <;> rcases (hM y).1 hy' with ⟨h2, n2⟩ | rfl | rfl
    · exact h.one x h1 y h2 p px py
    · exact absurd (h.one x h1 _ hx p px ((hp p).2 (.inl py))) n1
    · exact absurd (h.one x h1 _ hx p px ((hp p).2 (.inr py))) n1
    · exact absurd (h.one y h2 _ hx p py ((hp p).2 (.inl px))) n2
    · rfl
    · exact absurd py (half_apart p px)
    · exact absurd (h.one y h2 _ hx p py ((hp p).2 (.inr px))) n2
    · exact absurd px (half_apart p py)
    · rfl
  · rcases (hM z).1 hz with ⟨h1, _⟩ | rfl | rfl
    · exact h.bound z h1
    · show a + 2 ^ k ≤ n; omega
    · show a + 2 ^ k + 2 ^ k ≤ n; omega

end Go.Proofs.YtcokmiidgdmdlaaGreatDoor

namespace Go.Proofs.YtcokmiidgdmdlaaGreatDoor

def nt (p : Int × Int) : Nat × Nat := (p.1.toNat, p.2.toNat)
theorem nt_inj {p q : Int × Int} (hp : 0 ≤ p.1 ∧ 0 ≤ p.2) (hq : 0 ≤ q.1 ∧ 0 ≤ q.2) (h : nt p = nt q) : p = q := by
  obtain ⟨a, k⟩ := p
  obtain ⟨b, m⟩ := q
  simp only [nt, Prod.mk.injEq] at *
  exact ⟨by omega, by omega⟩
theorem sz_nat {k : Int} (_ : 0 ≤ k) : sz k = ((2 ^ k.toNat : Nat) : Int) := by simp [sz]
theorem sz_pos (k : Int) : 1 ≤ sz k := by
  have : 0 < 2 ^ k.toNat := Nat.pos_of_ne_zero (by simp)
  have e : sz k = ((2 ^ k.toNat : Nat) : Int) := by simp [sz]
  omega

/-- a block that lies right -/
def BlkI (x : Int × Int) : Prop := 0 ≤ x.1 ∧ 0 ≤ x.2 ∧ x.2 ≤ 6 ∧ x.1 % sz x.2 = 0
def InnI (p : Int) (x : Int × Int) : Prop := x.1 ≤ p ∧ p < x.1 + sz x.2
structure TI (n : Int) (L : List (Int × Int)) : Prop where
  nn : ∀ x ∈ L, 0 ≤ x.1 ∧ 0 ≤ x.2
  t : Tiles n.toNat (L.map nt)
def ApI (L : List (Int × Int)) : Prop := ∀ x ∈ L, x.2 < 6 → (budA x.1 x.2, x.2) ∉ L

theorem TI.mem {n : Int} {L : List (Int × Int)} (_ : TI n L) {x : Int × Int} (hx : x ∈ L) : nt x ∈ L.map nt := List.mem_map.2 ⟨x, hx, rfl⟩
theorem blkI_of {x : Int × Int} (h0 : 0 ≤ x.1 ∧ 0 ≤ x.2) (h : Blk (nt x)) : BlkI x := by
  obtain ⟨a, k⟩ := x
  obtain ⟨h1, h2⟩ := h
  simp only [nt] at *
  refine ⟨h0.1, h0.2, (by show k ≤ 6; omega), ?_⟩
  show a % sz k = 0
  rw [sz_nat h0.2, show a = ((a.toNat : Nat) : Int) by omega, ← Int.natCast_emod, h2]; rfl
theorem blk_nt {x : Int × Int} (h : BlkI x) : Blk (nt x) := by
  obtain ⟨a, k⟩ := x
  obtain ⟨h0, h1, h2, h3⟩ := h
  simp only [nt] at *
  refine ⟨(by show k.toNat ≤ 6; omega), ?_⟩
  show a.toNat % 2 ^ k.toNat = 0
  rw [sz_nat h1, show a = ((a.toNat : Nat) : Int) by omega, ← Int.natCast_emod] at h3
  exact Int.ofNat.inj h3
theorem inn_nt {p : Int} {x : Int × Int} (h0 : 0 ≤ x.1 ∧ 0 ≤ x.2) (hp : 0 ≤ p) : Inn p.toNat (nt x) ↔ InnI p x := by
  unfold Inn InnI nt
  rw [sz_nat h0.2]
  simp only
  omega
theorem TI.blk {n : Int} {L : List (Int × Int)} (h : TI n L) {x : Int × Int} (hx : x ∈ L) : BlkI x := blkI_of (h.nn x hx) (h.t.blk _ (h.mem hx))
theorem TI.bound {n : Int} {L : List (Int × Int)} (h : TI n L) {x : Int × Int} (hx : x ∈ L) : x.1 + sz x.2 ≤ n := by
  have := h.t.bound _ (h.mem hx)
  have h0 := h.nn x hx
  simp only [nt] at this
  have hpos : 0 < 2 ^ x.2.toNat := Nat.pos_of_ne_zero (by simp)
  rw [sz_nat h0.2]; omega
theorem TI.cov {n : Int} {L : List (Int × Int)} (h : TI n L) {p : Int} (p0 : 0 ≤ p) (pn : p < n) : ∃ x ∈ L, InnI p x := by
  obtain ⟨y, hy, py⟩ := h.t.cov p.toNat (by omega)
  obtain ⟨x, hx, rfl⟩ := List.mem_map.1 hy
  exact ⟨x, hx, (inn_nt (h.nn x hx) p0).1 py⟩
theorem TI.one {n : Int} {L : List (Int × Int)} (h : TI n L) {x y : Int × Int} (hx : x ∈ L) (hy : y ∈ L) {p : Int} (px : InnI p x) (py : InnI p y) : x = y := by
  have p0 : 0 ≤ p := by have := (h.nn x hx).1; have := px.1; omega
  exact nt_inj (h.nn x hx) (h.nn y hy) (h.t.one _ (h.mem hx) _ (h.mem hy) p.toNat ((inn_nt (h.nn x hx) p0).2 px) ((inn_nt (h.nn y hy) p0).2 py))
theorem TI.same {n : Int} {L : List (Int × Int)} (h : TI n L) {x y : Int × Int} (hx : x ∈ L) (hy : y ∈ L) (e : x.1 = y.1) : x = y :=
  h.one hx hy (p := x.1) ⟨Int.le_refl _, by have := sz_pos x.2; omega⟩ ⟨by omega, by have := sz_pos y.2; omega⟩

theorem nt_iff {M : List (Int × Int)} {P : Int × Int → Prop} {Q : Nat × Nat → Prop} (hM : ∀ z, z ∈ M ↔ P z) (hPQ : ∀ z, P z → Q (nt z)) (hQP : ∀ y, Q y → ∃ z, nt z = y ∧ P z) :
    ∀ y, y ∈ M.map nt ↔ Q y := by
  intro y
  constructor
  · intro h
    obtain ⟨z, hz, rfl⟩ := List.mem_map.1 h
    exact hPQ z ((hM z).1 hz)
  · intro h
    obtain ⟨z, rfl, hz⟩ := hQP y h
    exact List.mem_map.2 ⟨z, (hM z).2 hz, rfl⟩

theorem TI.split {n : Int} {L M : List (Int × Int)} (h : TI n L) {a k : Int} (k0 : 0 ≤ k) (hx : (a, k + 1) ∈ L)
    (hM : ∀ z, z ∈ M ↔ (z ∈ L ∧ z ≠ (a, k + 1)) ∨ z = (a, k) ∨ z = (a + sz k, k)) : TI n M := by
  have a0 := (h.nn _ hx).1
  simp only at a0
  have sk := sz_pos k
  have nnM : ∀ z ∈ M, 0 ≤ z.1 ∧ 0 ≤ z.2 := fun z hz => by
    rcases (hM z).1 hz with ⟨h1, _⟩ | rfl | rfl
    · exact h.nn z h1
    · exact ⟨a0, k0⟩
    · exact ⟨(show (0 : Int) ≤ a + sz k by omega), k0⟩
  have e1 : nt (a, k + 1) = (a.toNat, k.toNat + 1) := by simp only [nt, Prod.mk.injEq]; exact ⟨trivial, by omega⟩
  have hsn := sz_nat k0
  have e2 : nt (a + sz k, k) = (a.toNat + 2 ^ k.toNat, k.toNat) := by
    simp only [nt, Prod.mk.injEq]
    exact ⟨by omega, trivial⟩
  refine ⟨nnM, h.t.split (a := a.toNat) (k := k.toNat) (e1 ▸ h.mem hx) ?_⟩
  refine nt_iff (P := fun z => (z ∈ L ∧ z ≠ (a, k + 1)) ∨ z = (a, k) ∨ z = (a + sz k, k)) hM ?_ ?_
  · rintro z (⟨h1, h2⟩ | rfl | rfl)
    · exact .inl ⟨h.mem h1, fun e => h2 (nt_inj (h.nn z h1) (h.nn _ hx) (e.trans e1.symm))⟩
    · exact .inr (.inl rfl)
    · exact .inr (.inr e2)
  · rintro y (⟨h1, h2⟩ | rfl | rfl)
    · obtain ⟨z, hz, rfl⟩ := List.mem_map.1 h1
      exact ⟨z, rfl, .inl ⟨hz, fun e => h2 (by rw [e, e1])⟩⟩
    · exact ⟨(a, k), rfl, .inr (.inl rfl)⟩
    · exact ⟨(a + sz k, k), e2, .inr (.inr rfl)⟩

end Go.Proofs.YtcokmiidgdmdlaaGreatDoor

namespace Go.Proofs.YtcokmiidgdmdlaaGreatDoor

/-- the first of the least order -/
def minL (x : Int × Int) : List (Int × Int) → Int × Int
  | [] => x
  | y :: r => minL (if y.2 < x.2 then y else x) r
def fitL (k : Int) (F : List (Int × Int)) : List (Int × Int) := F.filter fun p => !decide (p.2 < k)
def bestL (k : Int) (F : List (Int × Int)) : Option (Int × Int) := match fitL k F with | [] => none | x :: r => some (minL x r)
/-- a block d orders above k is cut down to k: the upper halves are free -/
def downF : Nat → Int → Int → List (Int × Int) → List (Int × Int)
  | 0, _, _, F => F
  | d + 1, a, k, F => downF d a k (putL (a + sz (k + d)) (k + d) F)
/-- a block is joined with its buddy while that is free -/
def upF : Nat → Int → Int → List (Int × Int) → (Int × Int) × List (Int × Int)
  | 0, a, k, F => ((a, k), F)
  | f + 1, a, k, F => if getL F (budA a k) = some k then upF f (parA a k) (k + 1) (delL (budA a k) F) else ((a, k), F)
def takeF (k : Int) (x : Int × Int) (F : List (Int × Int)) : List (Int × Int) := downF (x.2 - k).toNat x.1 k (delL x.1 F)
def giveF (a k : Int) (F : List (Int × Int)) : List (Int × Int) := putL (upF (6 - k).toNat a k F).1.1 (upF (6 - k).toNat a k F).1.2 (upF (6 - k).toNat a k F).2
/-- pages of blocks -/
def sumL : List (Int × Int) → Int
  | [] => 0
  | x :: r => sz x.2 + sumL r

theorem minL_mem : ∀ (x : Int × Int) (r : List (Int × Int)), minL x r ∈ x :: r
  | x, [] => by simp [minL]
  | x, y :: r => by
    unfold minL
    rcases List.mem_cons.1 (minL_mem (if y.2 < x.2 then y else x) r) with h | h
    · rw [h]
      split <;> simp
    · exact List.mem_cons_of_mem _ (List.mem_cons_of_mem _ h)
theorem mem_fitL {k : Int} {F : List (Int × Int)} {p : Int × Int} : p ∈ fitL k F ↔ p ∈ F ∧ k ≤ p.2 := by simp [fitL]
theorem bestL_some {k : Int} {F : List (Int × Int)} {x : Int × Int} (h : bestL k F = some x) : x ∈ F ∧ k ≤ x.2 := by
  unfold bestL at h
  split at h
  · cases h
  · rename_i y r e
    obtain rfl := Option.some.inj h
    exact mem_fitL.1 (e ▸ minL_mem y r)
theorem bestL_none {k : Int} {F : List (Int × Int)} (h : bestL k F = none) : ∀ p ∈ F, p.2 < k := by
  intro p hp
  unfold bestL at h
  split at h
  · rename_i e
    rcases Int.lt_or_le p.2 k with h' | h'
    · exact h'
    · have := mem_fitL.2 ⟨hp, h'⟩
      rw [e] at this
      cases this
  · cases h

theorem mem_asc {l : List (Int × Int)} (h : Asc l) (z : Int × Int) : z ∈ l ↔ getL l z.1 = some z.2 := ⟨fun hz => mem_getL h hz, fun hz => getL_mem hz⟩
theorem mem_putL {l : List (Int × Int)} (h : Asc l) {a k : Int} {z : Int × Int} : z ∈ putL a k l ↔ z = (a, k) ∨ (z ∈ l ∧ z.1 ≠ a) := by
  obtain ⟨b, m⟩ := z
  rw [mem_asc (h.put a k), getL_put a k _ h, mem_asc h]
  simp only [Prod.mk.injEq]
  by_cases e : a = b
  · subst e
    rw [if_pos rfl]
    constructor
    · intro q; exact .inl ⟨rfl, (Option.some.inj q).symm⟩
    · rintro (⟨_, q⟩ | ⟨_, q⟩)
      · rw [q]
      · exact absurd rfl q
  · rw [if_neg e]
    constructor
    · intro q; exact .inr ⟨q, fun x => e x.symm⟩
    · rintro (⟨q, _⟩ | ⟨q, _⟩)
      · exact absurd q.symm e
      · exact q

/-- what holds of buddies between any two acts -/
structure Inv (n : Int) (F T : List (Int × Int)) : Prop where
  n1 : 1 ≤ n
  n2 : n ≤ 256
  fa : Asc F
  ta : Asc T
  t : TI n (F ++ T)
  dis : ∀ p ∈ F, p ∉ T
  ap : ApI F
/-- .. and while a block is in hand -/
structure InvH (n : Int) (F T : List (Int × Int)) (x : Int × Int) : Prop where
  n1 : 1 ≤ n
  n2 : n ≤ 256
  fa : Asc F
  ta : Asc T
  t : TI n (x :: (F ++ T))
  dis : ∀ p ∈ F, p ∉ T
  nf : x ∉ F
  ntk : x ∉ T
  ap : ApI F

theorem inn_at (x : Int × Int) : InnI x.1 x := ⟨Int.le_refl _, by have := sz_pos x.2; omega⟩
theorem Inv.memF {n : Int} {F T : List (Int × Int)} (_ : Inv n F T) {x : Int × Int} (hx : x ∈ F) : x ∈ F ++ T := List.mem_append_left _ hx
theorem Inv.memT {n : Int} {F T : List (Int × Int)} (_ : Inv n F T) {x : Int × Int} (hx : x ∈ T) : x ∈ F ++ T := List.mem_append_right _ hx
theorem Inv.hand {n : Int} {F T : List (Int × Int)} (h : Inv n F T) {x : Int × Int} (hx : x ∈ F) : InvH n (delL x.1 F) T x := by
  have hd : ∀ z, z ∈ delL x.1 F ↔ z ∈ F ∧ z ≠ x := fun z => by
    rw [mem_delL]
    exact ⟨fun ⟨q, r⟩ => ⟨q, fun e => r (by rw [e])⟩, fun ⟨q, r⟩ => ⟨q, fun e => r (h.t.same (h.memF q) (h.memF hx) e)⟩⟩
  refine ⟨h.n1, h.n2, h.fa.del _, h.ta, ?_, fun p hp => h.dis p ((hd p).1 hp).1, fun q => ((hd x).1 q).2 rfl, h.dis x hx, fun y hy h6 hb => h.ap y ((hd y).1 hy).1 h6 ((hd _).1 hb).1⟩
  have hm : ∀ z, z ∈ x :: (delL x.1 F ++ T) ↔ z ∈ F ++ T := fun z => by
    simp only [List.mem_cons, List.mem_append, hd]
    constructor
    · rintro (rfl | ⟨q, _⟩ | q)
      · exact .inl hx
      · exact .inl q
      · exact .inr q
    · rintro (q | q)
      · by_cases e : z = x
        · exact .inl e
        · exact .inr (.inl ⟨q, e⟩)
      · exact .inr (.inr q)
  have t := h.t
  have hm2 : ∀ y, y ∈ (x :: (delL x.1 F ++ T)).map nt ↔ y ∈ (F ++ T).map nt := fun y => by
    simp only [List.mem_map, hm]
  exact ⟨fun z hz => t.nn z ((hm z).1 hz), ⟨fun y hy => t.t.blk y ((hm2 y).1 hy), fun p hp => by obtain ⟨y, hy, q⟩ := t.t.cov p hp; exact ⟨y, (hm2 y).2 hy, q⟩,
    fun y hy z hz p => t.t.one y ((hm2 y).1 hy) z ((hm2 z).1 hz) p, fun y hy => t.t.bound y ((hm2 y).1 hy)⟩⟩
theorem TI.congr {n : Int} {L M : List (Int × Int)} (t : TI n L) (hm : ∀ z, z ∈ M ↔ z ∈ L) : TI n M := by
  have hm2 : ∀ y, y ∈ M.map nt ↔ y ∈ L.map nt := fun y => by simp only [List.mem_map, hm]
  exact ⟨fun z hz => t.nn z ((hm z).1 hz), ⟨fun y hy => t.t.blk y ((hm2 y).1 hy), fun p hp => by obtain ⟨y, hy, q⟩ := t.t.cov p hp; exact ⟨y, (hm2 y).2 hy, q⟩,
    fun y hy z hz p => t.t.one y ((hm2 y).1 hy) z ((hm2 z).1 hz) p, fun y hy => t.t.bound y ((hm2 y).1 hy)⟩⟩
theorem InvH.other {n : Int} {F T : List (Int × Int)} {x : Int × Int} (h : InvH n F T x) {z : Int × Int} (hz : z ∈ F ++ T) : z.1 ≠ x.1 := fun e => by
  have := h.t.same (List.mem_cons_of_mem _ hz) (List.mem_cons_self ..) e
  subst this
  rcases List.mem_append.1 hz with q | q
  · exact h.nf q
  · exact h.ntk q
theorem InvH.blk {n : Int} {F T : List (Int × Int)} {x : Int × Int} (h : InvH n F T x) : BlkI x := h.t.blk (List.mem_cons_self ..)
theorem InvH.putT {n : Int} {F T : List (Int × Int)} {a k : Int} (h : InvH n F T (a, k)) : Inv n F (putL a k T) := by
  have hd : ∀ z, z ∈ putL a k T ↔ z = (a, k) ∨ z ∈ T := fun z => by
    rw [mem_putL h.ta]
    exact ⟨fun q => q.imp id And.left, fun q => q.imp id fun r => ⟨r, h.other (List.mem_append_right _ r)⟩⟩
  refine ⟨h.n1, h.n2, h.fa, h.ta.put _ _, h.t.congr fun z => ?_, fun p hp q => ?_, h.ap⟩
  · simp only [List.mem_cons, List.mem_append, hd]
    constructor
    · rintro (q | q | q)
      · exact .inr (.inl q)
      · exact .inl q
      · exact .inr (.inr q)
    · rintro (q | q | q)
      · exact .inr (.inl q)
      · exact .inl q
      · exact .inr (.inr q)
  · rcases (hd p).1 q with rfl | q
    · exact h.nf hp
    · exact h.dis p hp q
theorem half_bud {a k : Int} (k0 : 0 ≤ k) (k5 : k ≤ 5) (h : a % sz (k + 1) = 0) : a % sz k = 0 ∧ budA a k = a + sz k ∧ parA a k = a ∧ budA (a + sz k) k = a ∧ (a + sz k) % sz k = 0 := by
  have e : k = 0 ∨ k = 1 ∨ k = 2 ∨ k = 3 ∨ k = 4 ∨ k = 5 := by omega
  unfold budA parA
  rcases e with rfl | rfl | rfl | rfl | rfl | rfl <;> simp only [sz0, sz1, sz2, sz3, sz4, sz5, sz6, show (0 : Int) + 1 = 1 from rfl, show (1 : Int) + 1 = 2 from rfl, show (2 : Int) + 1 = 3 from rfl, show (3 : Int) + 1 = 4 from rfl, show (4 : Int) + 1 = 5 from rfl, show (5 : Int) + 1 = 6 from rfl] at * <;> (refine ⟨?_, ?_, ?_, ?_, ?_⟩ <;> omega)

theorem InvH.cut {n : Int} {F T : List (Int × Int)} {a k : Int} (k0 : 0 ≤ k) (h : InvH n F T (a, k + 1)) : InvH n (putL (a + sz k) k F) T (a, k) := by
  obtain ⟨b0, b1, b2, b3⟩ := h.blk
  have bn := h.t.bound (List.mem_cons_self ..)
  have sk := sz_pos k
  have n2 := h.n2
  simp only at b0 b1 b2 b3 bn
  have e2 := sz_succ k0 (by omega)
  obtain ⟨m1, m2, m3, m4, m5⟩ := half_bud k0 (by omega) b3
  -- what lies in the block in hand is not elsewhere
  have hno : ∀ z : Int × Int, z ∈ F ++ T → ∀ p, InnI p z → ¬ (a ≤ p ∧ p < a + sz (k + 1)) := fun z hz p hp hq => by
    have := h.t.one (List.mem_cons_of_mem _ hz) (List.mem_cons_self ..) hp hq
    exact h.other hz (by rw [this])
  have hd : ∀ z, z ∈ putL (a + sz k) k F ↔ z = (a + sz k, k) ∨ z ∈ F := fun z => by
    rw [mem_putL h.fa]
    refine ⟨fun q => q.imp id And.left, fun q => q.imp id fun r => ⟨r, fun e => ?_⟩⟩
    exact hno z (List.mem_append_left _ r) z.1 (inn_at z) ⟨by omega, by omega⟩
  have hlow : (a, k) ∉ F ++ T := fun q => hno _ q a (inn_at (a, k)) ⟨by omega, by omega⟩
  have hhigh : (a + sz k, k) ∉ F ++ T := fun q => hno _ q (a + sz k) (inn_at (a + sz k, k)) ⟨by omega, by omega⟩
  refine ⟨h.n1, h.n2, h.fa.put _ _, h.ta, h.t.split (a := a) (k := k) k0 (List.mem_cons_self ..) fun z => ?_, fun p hp q => ?_, fun q => ?_, fun q => hlow (List.mem_append_right _ q), fun y hy h6 hbad => ?_⟩
  · simp only [List.mem_cons, List.mem_append, hd]
    constructor
    · rintro (q | (q | q) | q)
      · exact .inr (.inl q)
      · exact .inr (.inr q)
      · exact .inl ⟨.inr (.inl q), fun e => h.nf (e ▸ q)⟩
      · exact .inl ⟨.inr (.inr q), fun e => h.ntk (e ▸ q)⟩
    · rintro (⟨q | q | q, r⟩ | q | q)
      · exact absurd q r
      · exact .inr (.inl (.inr q))
      · exact .inr (.inr q)
      · exact .inl q
      · exact .inr (.inl (.inl q))
  · rcases (hd p).1 hp with rfl | hp
    · exact hhigh (List.mem_append_right _ q)
    · exact h.dis p hp q
  · rcases (hd _).1 q with e | q
    · have : a = a + sz k := congrArg Prod.fst e
      omega
    · exact hlow (List.mem_append_left _ q)
  · rcases (hd y).1 hy with rfl | hy
    · simp only [m4] at hbad
      rcases (hd _).1 hbad with e | q
      · have : a = a + sz k := congrArg Prod.fst e
        omega
      · exact hlow (List.mem_append_left _ q)
    · rcases (hd _).1 hbad with e | hbad
      · have e1 : budA y.1 y.2 = a + sz k := congrArg Prod.fst e
        have e2' : y.2 = k := congrArg Prod.snd e
        have by' := h.t.blk (List.mem_cons_of_mem _ (List.mem_append_left _ hy))
        have bny := h.t.bound (List.mem_cons_of_mem _ (List.mem_append_left T hy))
        have := sz_pos y.2
        obtain ⟨_, hinv, _⟩ := kin by'.1 (by omega) by'.2.1 (by omega) by'.2.2.2
        rw [e1, e2', m4] at hinv
        refine hlow (List.mem_append_left _ ?_)
        have : y = (a, k) := Prod.ext hinv.symm e2'
        exact this ▸ hy
      · exact h.ap y hy h6 hbad

theorem InvH.down {n : Int} {T : List (Int × Int)} {a k : Int} (k0 : 0 ≤ k) : ∀ (d : Nat) {F : List (Int × Int)}, InvH n F T (a, k + d) → InvH n (downF d a k F) T (a, k)
  | 0, F, h => by simpa [downF] using h
  | d + 1, F, h => by
    unfold downF
    refine InvH.down k0 d (InvH.cut (by omega) ?_)
    have e : k + ((d + 1 : Nat) : Int) = k + d + 1 := by omega
    rw [e] at h
    exact h
theorem Inv.take {n : Int} {F T : List (Int × Int)} (h : Inv n F T) {k : Int} (k0 : 0 ≤ k) {x : Int × Int} (hx : bestL k F = some x) : Inv n (takeF k x F) (putL x.1 k T) := by
  obtain ⟨h1, h2⟩ := bestL_some hx
  have hh := h.hand h1
  obtain ⟨a, m⟩ := x
  simp only at h2
  refine InvH.putT (InvH.down k0 _ ?_)
  rwa [show k + (((m - k).toNat : Nat) : Int) = m by omega]
end Go.Proofs.YtcokmiidgdmdlaaGreatDoor

namespace Go.Proofs.YtcokmiidgdmdlaaGreatDoor

theorem Asc.len : ∀ {l : List (Int × Int)} {a e : Int}, Asc l → (∀ p ∈ l, a ≤ p.1 ∧ p.1 < e) → a ≤ e → (l.length : Int) ≤ e - a
  | [], a, e, _, _, h => by simp; omega
  | p :: r, a, e, hA, hr, h => by
    obtain ⟨h1, h2⟩ := List.pairwise_cons.1 hA
    have hp := hr p (by simp)
    have := Asc.len (a := p.1 + 1) (e := e) h2 (fun q hq => ⟨by have := h1 q hq; omega, (hr q (by simp [hq])).2⟩) (by omega)
    simp only [List.length_cons]
    omega
theorem Inv.rngF {n : Int} {F T : List (Int × Int)} (h : Inv n F T) {p : Int × Int} (hp : p ∈ F) : 0 ≤ p.1 ∧ p.1 < 256 ∧ 0 ≤ p.2 ∧ p.2 ≤ 6 := by
  obtain ⟨b0, b1, b2, _⟩ := h.t.blk (h.memF hp)
  have := h.t.bound (h.memF hp)
  have := sz_pos p.2
  have := h.n2
  exact ⟨b0, by omega, b1, b2⟩
theorem Inv.rngT {n : Int} {F T : List (Int × Int)} (h : Inv n F T) {p : Int × Int} (hp : p ∈ T) : 0 ≤ p.1 ∧ p.1 < 256 ∧ 0 ≤ p.2 ∧ p.2 ≤ 6 := by
  obtain ⟨b0, b1, b2, _⟩ := h.t.blk (h.memT hp)
  have := h.t.bound (h.memT hp)
  have := sz_pos p.2
  have := h.n2
  exact ⟨b0, by omega, b1, b2⟩
theorem InvH.rng {n : Int} {F T : List (Int × Int)} {x : Int × Int} (h : InvH n F T x) {p : Int × Int} (hp : p ∈ x :: (F ++ T)) : 0 ≤ p.1 ∧ p.1 < 256 ∧ 0 ≤ p.2 ∧ p.2 ≤ 6 := by
  obtain ⟨b0, b1, b2, _⟩ := h.t.blk hp
  have := h.t.bound hp
  have := sz_pos p.2
  have := h.n2
  exact ⟨b0, by omega, b1, b2⟩
theorem asc_len256 {l : List (Int × Int)} (hA : Asc l) (hr : ∀ p ∈ l, 0 ≤ p.1 ∧ p.1 < 256 ∧ 0 ≤ p.2 ∧ p.2 ≤ 6) : l.length ≤ 256 := by
  have := hA.len (a := 0) (e := 256) (fun p hp => ⟨(hr p hp).1, (hr p hp).2.1⟩) (by omega)
  omega
theorem Inv.lenF {n : Int} {F T : List (Int × Int)} (h : Inv n F T) : F.length ≤ 256 := asc_len256 h.fa fun _ => h.rngF
theorem Chain.low {e : Int} : ∀ {a : Int} {l : List (Int × Int)}, Chain e a l → 0 ≤ a → ∀ x ∈ l, a ≤ x.1 ∧ x.1 + sz x.2 ≤ e ∧ BlkI x
  | _, [], _, _, x, hx => by cases hx
  | a, b :: r, ⟨h1, h2, h3, h4, h5, h6⟩, h0, x, hx => by
    have := sz_pos b.2
    rcases List.mem_cons.1 hx with rfl | hx
    · exact ⟨by omega, by omega, ⟨by omega, h2, h3, by rw [h1]; exact h4⟩⟩
    · obtain ⟨c1, c2, c3⟩ := Chain.low h6 (by omega) x hx
      exact ⟨by omega, c2, c3⟩
theorem Chain.cov {e : Int} : ∀ {a : Int} {l : List (Int × Int)}, Chain e a l → ∀ p, a ≤ p → p < e → ∃ x ∈ l, InnI p x
  | _, [], h, p, h1, h2 => by simp only [Chain] at h; omega
  | a, b :: r, ⟨h1, _, _, _, _, h6⟩, p, p1, p2 => by
    by_cases h : p < a + sz b.2
    · exact ⟨b, by simp, ⟨by omega, by omega⟩⟩
    · obtain ⟨x, hx, q⟩ := Chain.cov h6 p (by omega) p2
      exact ⟨x, by simp [hx], q⟩
theorem Chain.asc {e : Int} : ∀ {a : Int} {l : List (Int × Int)}, Chain e a l → 0 ≤ a → l.Pairwise fun x y => x.1 + sz x.2 ≤ y.1
  | _, [], _, _ => List.Pairwise.nil
  | a, b :: r, ⟨h1, _, _, _, _, h6⟩, h0 => by
    have := sz_pos b.2
    exact List.pairwise_cons.2 ⟨fun y hy => by have := (Chain.low h6 (by omega) y hy).1; omega, Chain.asc h6 (by omega)⟩
theorem TI.mk' {n : Int} {L : List (Int × Int)} (hb : ∀ x ∈ L, BlkI x) (hc : ∀ p, 0 ≤ p → p < n → ∃ x ∈ L, InnI p x) (h1 : ∀ x ∈ L, ∀ y ∈ L, ∀ p, InnI p x → InnI p y → x = y) (hn : ∀ x ∈ L, x.1 + sz x.2 ≤ n) : TI n L := by
  have nn : ∀ x ∈ L, 0 ≤ x.1 ∧ 0 ≤ x.2 := fun x hx => ⟨(hb x hx).1, (hb x hx).2.1⟩
  have back : ∀ y ∈ L.map nt, ∃ x ∈ L, nt x = y := fun y hy => by simpa using hy
  refine ⟨nn, ⟨fun y hy => ?_, fun p hp => ?_, fun y hy z hz p py pz => ?_, fun y hy => ?_⟩⟩
  · obtain ⟨x, hx, rfl⟩ := back y hy
    exact blk_nt (hb x hx)
  · obtain ⟨x, hx, q⟩ := hc p (by omega) (by omega)
    refine ⟨nt x, List.mem_map.2 ⟨x, hx, rfl⟩, ?_⟩
    have := (inn_nt (p := p) (nn x hx) (by omega)).2 q
    simpa using this
  · obtain ⟨x, hx, rfl⟩ := back y hy
    obtain ⟨x', hx', rfl⟩ := back z hz
    have q1 := (inn_nt (p := (p : Int)) (nn x hx) (by omega)).1 (by simpa using py)
    have q2 := (inn_nt (p := (p : Int)) (nn x' hx') (by omega)).1 (by simpa using pz)
    rw [h1 x hx x' hx' _ q1 q2]
  · obtain ⟨x, hx, rfl⟩ := back y hy
    have := hn x hx
    have h0 := nn x hx
    rw [sz_nat h0.2] at this
    show x.1.toNat + 2 ^ x.2.toNat ≤ n.toNat
    omega
theorem pairwise_one {L : List (Int × Int)} (h : L.Pairwise fun x y => x.1 + sz x.2 ≤ y.1) : ∀ x ∈ L, ∀ y ∈ L, ∀ p, InnI p x → InnI p y → x = y := by
  induction h with
  | nil => intro x hx; cases hx
  | @cons b r hb _ ih =>
    intro x hx y hy p px py
    unfold InnI at px py
    rcases List.mem_cons.1 hx with rfl | hx <;> rcases List.mem_cons.1 hy with rfl | hy
    · rfl
    · have := hb _ hy; omega
    · have := hb _ ‹_ ∈ r›; omega
    · exact ih x ‹_› y ‹_› p px py
theorem Chain.tiles {n : Int} {l : List (Int × Int)} (h : Chain n 0 l) : TI n l :=
  TI.mk' (fun x hx => (h.low (Int.le_refl _) x hx).2.2) (fun p p0 pn => h.cov p p0 pn) (pairwise_one (h.asc (Int.le_refl _))) (fun x hx => (h.low (Int.le_refl _) x hx).2.1)
theorem covL_ord : ∀ (f : Nat) (a n : Int), n.toNat ≤ f → ∀ x ∈ covL a n, x.2 = covO x.1 (a + n - x.1) ∧ x.1 < a + n
  | 0, a, n, h, x, hx => by rw [covL_zero (by omega)] at hx; cases hx
  | f + 1, a, n, h, x, hx => by
    by_cases h0 : n ≤ 0
    · rw [covL_zero h0] at hx; cases hx
    · rw [covL_step (by omega)] at hx
      have := sz_pos (covO a n)
      rcases List.mem_cons.1 hx with rfl | hx
      · refine ⟨?_, (show a < a + n by omega)⟩
        show covO a n = covO a (a + n - a)
        rw [show a + n - a = n by omega]
      · obtain ⟨c1, c2⟩ := covL_ord f _ _ (by omega) x hx
        rw [show a + sz (covO a n) + (n - sz (covO a n)) = a + n by omega] at c1 c2
        exact ⟨c1, c2⟩
theorem cov_ap {n : Int} (n0 : 0 ≤ n) (n2 : n ≤ 256) : ApI (covL 0 n) := by
  have hch := covL_chain n.toNat 0 n (Nat.le_refl _) n0
  rw [show (0 : Int) + n = n by omega] at hch
  -- the lower one of two buddies would have been taken as one with the upper one
  have key : ∀ a k : Int, (a, k) ∈ covL 0 n → k < 6 → a % sz (k + 1) = 0 → (a + sz k, k) ∉ covL 0 n := by
    intro a k h1 h6 hm h2
    obtain ⟨_, k0, _, _⟩ := (hch.low (Int.le_refl _) _ h1).2.2
    have e := (covL_ord n.toNat 0 n (Nat.le_refl _) _ h1).1
    have hb := (hch.low (Int.le_refl _) _ h2).2.1
    simp only at e hb k0
    have e2 := sz_succ k0 (by omega)
    exact covO_max (a := a) (n := 0 + n - a) (k := k + 1) (by omega) (by omega) ⟨hm, by omega⟩
  intro x hx h6 hb
  obtain ⟨a, k⟩ := x
  obtain ⟨b1, b2, b0, k0, k6, hm⟩ := hch.low (Int.le_refl _) _ hx
  have sk := sz_pos k
  simp only at b1 b2 b0 k0 k6 hm h6 hb
  obtain ⟨_, hinv, hpar, ⟨_, _, p2⟩, hcase, _⟩ := kin b0 (by omega) k0 (by omega) hm
  rcases hcase with ⟨c1, c2⟩ | ⟨c1, c2⟩
  · rw [c1] at c2 p2
    exact key a k hx h6 p2 (c2 ▸ hb)
  · rw [c1] at c2 p2
    exact key _ k hb h6 p2 (by rw [← c2]; exact hx)
theorem pairwise_asc {L : List (Int × Int)} (h : L.Pairwise fun x y => x.1 + sz x.2 ≤ y.1) : Asc L := h.imp fun {x y} q => by have := sz_pos x.2; omega
theorem cov_asc {n : Int} (n0 : 0 ≤ n) : Asc (covL 0 n) := pairwise_asc ((covL_chain n.toNat 0 n (Nat.le_refl _) n0).asc (Int.le_refl _))
theorem Inv.start {n : Int} (n1 : 1 ≤ n) (n2 : n ≤ 256) : Inv n (covL 0 n) [] := by
  have hch := covL_chain n.toNat 0 n (Nat.le_refl _) (by omega)
  rw [show (0 : Int) + n = n by omega] at hch
  exact ⟨n1, n2, cov_asc (by omega), List.Pairwise.nil, by rw [List.append_nil]; exact hch.tiles, (fun _ _ h => by cases h), cov_ap (by omega) n2⟩
theorem putL_last : ∀ {l : List (Int × Int)} {a : Int} (k : Int), (∀ p ∈ l, p.1 < a) → putL a k l = l ++ [(a, k)]
  | [], _, _, _ => rfl
  | p :: r, a, k, h => by
    have := h p (by simp)
    unfold putL
    rw [if_neg (by omega), if_neg (by omega), putL_last k fun q hq => h q (by simp [hq])]
    rfl
theorem sumL_nonneg : ∀ l : List (Int × Int), 0 ≤ sumL l
  | [] => Int.le_refl _
  | x :: r => by have := sumL_nonneg r; have := sz_pos x.2; simp only [sumL]; omega
theorem sumL_put : ∀ {l : List (Int × Int)} {a : Int} (k : Int), (∀ p ∈ l, p.1 ≠ a) → sumL (putL a k l) = sz k + sumL l
  | [], a, k, _ => by simp [putL, sumL]
  | p :: r, a, k, h => by
    have h1 := h p (by simp)
    unfold putL
    by_cases c : a < p.1
    · rw [if_pos c]; simp only [sumL]
    · rw [if_neg c, if_neg (fun e => h1 e.symm)]
      have := sumL_put (l := r) k fun q hq => h q (List.mem_cons_of_mem _ hq)
      simp only [sumL]; omega
theorem sumL_del : ∀ {l : List (Int × Int)} {x : Int × Int}, Asc l → x ∈ l → sumL (delL x.1 l) = sumL l - sz x.2
  | [], x, _, h => by cases h
  | p :: r, x, hA, h => by
    obtain ⟨h1, h2⟩ := List.pairwise_cons.1 hA
    rcases List.mem_cons.1 h with rfl | h
    · have e : delL x.1 (x :: r) = r := by
        have : delL x.1 (x :: r) = delL x.1 r := by simp [delL]
        rw [this, delL, List.filter_eq_self.2 fun q hq => by have := h1 q hq; simp; omega]
      rw [e]; simp only [sumL]; omega
    · have := h1 x h
      have e : delL x.1 (p :: r) = p :: delL x.1 r := by
        have : ¬ p.1 = x.1 := by omega
        simp [delL, this]
      rw [e]; simp only [sumL, sumL_del h2 h]; omega
theorem chain_sum {e : Int} : ∀ {a : Int} {l : List (Int × Int)}, Chain e a l → sumL l = e - a
  | _, [], h => by simp only [Chain] at h; simp [sumL]; omega
  | a, b :: r, ⟨_, _, _, _, _, h6⟩ => by simp only [sumL, chain_sum h6]; omega
theorem sum_le {e : Int} : ∀ {a : Int} {l : List (Int × Int)}, a ≤ e → (l.Pairwise fun x y => x.1 + sz x.2 ≤ y.1) → (∀ x ∈ l, a ≤ x.1 ∧ x.1 + sz x.2 ≤ e) → sumL l ≤ e - a
  | a, [], h, _, _ => by simp [sumL]; omega
  | a, b :: r, h, hP, hr => by
    obtain ⟨h1, h2⟩ := List.pairwise_cons.1 hP
    have hb := hr b (by simp)
    have := sum_le (a := b.1 + sz b.2) (e := e) (by omega) h2 fun x hx => ⟨h1 x hx, (hr x (by simp [hx])).2⟩
    simp only [sumL]; omega
theorem asc_apart {n : Int} {L l : List (Int × Int)} (t : TI n L) (hs : ∀ x ∈ l, x ∈ L) (hA : Asc l) : l.Pairwise fun x y => x.1 + sz x.2 ≤ y.1 := by
  refine hA.imp_of_mem fun {x y} hx hy q => ?_
  rcases Int.lt_or_le y.1 (x.1 + sz x.2) with h | h
  · have := t.one (hs x hx) (hs y hy) (p := y.1) ⟨by omega, h⟩ (inn_at y)
    rw [this] at q; omega
  · exact h
theorem Inv.sumF {n : Int} {F T : List (Int × Int)} (h : Inv n F T) : 0 ≤ sumL F ∧ sumL F ≤ n := by
  refine ⟨sumL_nonneg F, ?_⟩
  have := sum_le (a := 0) (e := n) (by have := h.n1; omega) (asc_apart h.t (fun x hx => h.memF hx) h.fa) fun x hx => ⟨(h.rngF hx).1, h.t.bound (h.memF hx)⟩
  omega
theorem InvH.sum_down {n : Int} {T : List (Int × Int)} {a k : Int} (k0 : 0 ≤ k) : ∀ (d : Nat) {F : List (Int × Int)}, InvH n F T (a, k + d) → sumL (downF d a k F) = sumL F + sz (k + d) - sz k
  | 0, F, _ => by simp [downF]
  | d + 1, F, h => by
    have e : k + ((d + 1 : Nat) : Int) = k + d + 1 := by omega
    rw [e] at h
    have hc := InvH.cut (by omega) h
    have b2 := h.blk.2.2.1
    simp only at b2
    unfold downF
    rw [InvH.sum_down k0 d hc, e, sz_succ (by omega) (by omega), sumL_put _ fun p hp q => ?_]
    · omega
    · have := h.t.one (List.mem_cons_of_mem _ (List.mem_append_left _ hp)) (List.mem_cons_self ..) (p := p.1) (inn_at p)
        ⟨by have := sz_pos (k + d); omega, by show p.1 < a + sz (k + d + 1); have := sz_pos (k + d); have := sz_succ (k := k + d) (by omega) (by omega); omega⟩
      exact h.nf (this ▸ hp)
theorem Inv.sum_take {n : Int} {F T : List (Int × Int)} (h : Inv n F T) {k : Int} (k0 : 0 ≤ k) {x : Int × Int} (hx : bestL k F = some x) : sumL (takeF k x F) = sumL F - sz k := by
  obtain ⟨h1, h2⟩ := bestL_some hx
  have hh := h.hand h1
  have hd := sumL_del h.fa h1
  obtain ⟨a, m⟩ := x
  simp only at h2 hd
  have e : k + (((m - k).toNat : Nat) : Int) = m := by omega
  have := InvH.sum_down (a := a) k0 (m - k).toNat (F := delL a F) (T := T) (n := n) (by rw [e]; exact hh)
  rw [e] at this
  show sumL (downF (m - k).toNat a k (delL a F)) = _
  omega
end Go.Proofs.YtcokmiidgdmdlaaGreatDoor

namespace Go.Proofs.YtcokmiidgdmdlaaGreatDoor

/-- the document's search for the best: the state behind j rounds -/
def bestTo (k : Int) (l : List (Int × Int)) : Option (Nat × (Int × Int)) → Prop := fun
  | none => ∀ x ∈ l, x.2 < k
  | some (i, x) => l[i]? = some x ∧ bestL k l = some x
end Go.Proofs.YtcokmiidgdmdlaaGreatDoor

namespace Go.Proofs.YtcokmiidgdmdlaaGreatDoor

structure TS (n : Int) (F T : List (Int × Int)) (i k : Nat) (at' : Int) : Prop where
  i1 : i ≤ F.length
  k1 : k ≤ T.length
  a0 : 0 ≤ at'
  a1 : at' ≤ n
  fb : ∀ x ∈ F.take i, x.1 + sz x.2 ≤ at'
  fa : ∀ x ∈ F.drop i, at' ≤ x.1
  tb : ∀ x ∈ T.take k, x.1 + sz x.2 ≤ at'
  ta : ∀ x ∈ T.drop k, at' ≤ x.1

end Go.Proofs.YtcokmiidgdmdlaaGreatDoor
