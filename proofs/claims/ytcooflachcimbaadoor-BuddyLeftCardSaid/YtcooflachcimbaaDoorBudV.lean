/- Plain: tilings over whole numbers: a block's begin and its order; cut in halves, joined again; only one without buddies. -/
import Derived.Test.YtcooflachcimbaaDoorBudU
import Derived.Test.YtcooflachcimbaaDoorPure
namespace Go.Proofs.YtcooflachcimbaaDoor

def nt (p : Int × Int) : Nat × Nat := (p.1.toNat, p.2.toNat)
theorem nt_inj {p q : Int × Int} (hp : 0 ≤ p.1 ∧ 0 ≤ p.2) (hq : 0 ≤ q.1 ∧ 0 ≤ q.2) (h : nt p = nt q) : p = q := by
  obtain ⟨a, k⟩ := p
  obtain ⟨b, m⟩ := q
  simp only [nt, Prod.mk.injEq] at *
  exact ⟨by omega, by omega⟩
theorem sz_nat {k : Int} (_ : 0 ≤ k) : sz k = ((2 ^ k.toNat : Nat) : Int) := by simp [sz]
theorem sz_pos (k : Int) : 1 ≤ sz k := by
  have : 0 < 2 ^ k.toNat := Nat.pos_of_ne_zero (by simp)
  have e : sz k = ((2 ^ k.toNat : Nat) : Int) := by simp [sz]
  omega

/-- a block that lies right -/
def BlkI (x : Int × Int) : Prop := 0 ≤ x.1 ∧ 0 ≤ x.2 ∧ x.2 ≤ 6 ∧ x.1 % sz x.2 = 0
def InnI (p : Int) (x : Int × Int) : Prop := x.1 ≤ p ∧ p < x.1 + sz x.2
structure TI (n : Int) (L : List (Int × Int)) : Prop where
  nn : ∀ x ∈ L, 0 ≤ x.1 ∧ 0 ≤ x.2
  t : Tiles n.toNat (L.map nt)
def ApI (L : List (Int × Int)) : Prop := ∀ x ∈ L, x.2 < 6 → (budA x.1 x.2, x.2) ∉ L

theorem TI.mem {n : Int} {L : List (Int × Int)} (_ : TI n L) {x : Int × Int} (hx : x ∈ L) : nt x ∈ L.map nt := List.mem_map.2 ⟨x, hx, rfl⟩
theorem blkI_of {x : Int × Int} (h0 : 0 ≤ x.1 ∧ 0 ≤ x.2) (h : Blk (nt x)) : BlkI x := by
  obtain ⟨a, k⟩ := x
  obtain ⟨h1, h2⟩ := h
  simp only [nt] at *
  refine ⟨h0.1, h0.2, (by show k ≤ 6; omega), ?_⟩
  show a % sz k = 0
  rw [sz_nat h0.2, show a = ((a.toNat : Nat) : Int) by omega, ← Int.natCast_emod, h2]; rfl
theorem blk_nt {x : Int × Int} (h : BlkI x) : Blk (nt x) := by
  obtain ⟨a, k⟩ := x
  obtain ⟨h0, h1, h2, h3⟩ := h
  simp only [nt] at *
  refine ⟨(by show k.toNat ≤ 6; omega), ?_⟩
  show a.toNat % 2 ^ k.toNat = 0
  rw [sz_nat h1, show a = ((a.toNat : Nat) : Int) by omega, ← Int.natCast_emod] at h3
  exact Int.ofNat.inj h3
theorem inn_nt {p : Int} {x : Int × Int} (h0 : 0 ≤ x.1 ∧ 0 ≤ x.2) (hp : 0 ≤ p) : Inn p.toNat (nt x) ↔ InnI p x := by
  unfold Inn InnI nt
  rw [sz_nat h0.2]
  simp only
  omega
theorem TI.blk {n : Int} {L : List (Int × Int)} (h : TI n L) {x : Int × Int} (hx : x ∈ L) : BlkI x := blkI_of (h.nn x hx) (h.t.blk _ (h.mem hx))
theorem TI.bound {n : Int} {L : List (Int × Int)} (h : TI n L) {x : Int × Int} (hx : x ∈ L) : x.1 + sz x.2 ≤ n := by
  have := h.t.bound _ (h.mem hx)
  have h0 := h.nn x hx
  simp only [nt] at this
  have hpos : 0 < 2 ^ x.2.toNat := Nat.pos_of_ne_zero (by simp)
  rw [sz_nat h0.2]; omega
theorem TI.cov {n : Int} {L : List (Int × Int)} (h : TI n L) {p : Int} (p0 : 0 ≤ p) (pn : p < n) : ∃ x ∈ L, InnI p x := by
  obtain ⟨y, hy, py⟩ := h.t.cov p.toNat (by omega)
  obtain ⟨x, hx, rfl⟩ := List.mem_map.1 hy
  exact ⟨x, hx, (inn_nt (h.nn x hx) p0).1 py⟩
theorem TI.one {n : Int} {L : List (Int × Int)} (h : TI n L) {x y : Int × Int} (hx : x ∈ L) (hy : y ∈ L) {p : Int} (px : InnI p x) (py : InnI p y) : x = y := by
  have p0 : 0 ≤ p := by have := (h.nn x hx).1; have := px.1; omega
  exact nt_inj (h.nn x hx) (h.nn y hy) (h.t.one _ (h.mem hx) _ (h.mem hy) p.toNat ((inn_nt (h.nn x hx) p0).2 px) ((inn_nt (h.nn y hy) p0).2 py))
/-- two blocks that begin alike are one -/
theorem TI.same {n : Int} {L : List (Int × Int)} (h : TI n L) {x y : Int × Int} (hx : x ∈ L) (hy : y ∈ L) (e : x.1 = y.1) : x = y :=
  h.one hx hy (p := x.1) ⟨Int.le_refl _, by have := sz_pos x.2; omega⟩ ⟨by omega, by have := sz_pos y.2; omega⟩

theorem nt_iff {M : List (Int × Int)} {P : Int × Int → Prop} {Q : Nat × Nat → Prop} (hM : ∀ z, z ∈ M ↔ P z) (hPQ : ∀ z, P z → Q (nt z)) (hQP : ∀ y, Q y → ∃ z, nt z = y ∧ P z) :
    ∀ y, y ∈ M.map nt ↔ Q y := by
  intro y
  constructor
  · intro h
    obtain ⟨z, hz, rfl⟩ := List.mem_map.1 h
    exact hPQ z ((hM z).1 hz)
  · intro h
    obtain ⟨z, rfl, hz⟩ := hQP y h
    exact List.mem_map.2 ⟨z, (hM z).2 hz, rfl⟩

/-- cut in halves -/
theorem TI.split {n : Int} {L M : List (Int × Int)} (h : TI n L) {a k : Int} (k0 : 0 ≤ k) (hx : (a, k + 1) ∈ L)
    (hM : ∀ z, z ∈ M ↔ (z ∈ L ∧ z ≠ (a, k + 1)) ∨ z = (a, k) ∨ z = (a + sz k, k)) : TI n M := by
  have a0 := (h.nn _ hx).1
  simp only at a0
  have sk := sz_pos k
  have nnM : ∀ z ∈ M, 0 ≤ z.1 ∧ 0 ≤ z.2 := fun z hz => by
    rcases (hM z).1 hz with ⟨h1, _⟩ | rfl | rfl
    · exact h.nn z h1
    · exact ⟨a0, k0⟩
    · exact ⟨(show (0 : Int) ≤ a + sz k by omega), k0⟩
  have e1 : nt (a, k + 1) = (a.toNat, k.toNat + 1) := by simp only [nt, Prod.mk.injEq]; exact ⟨trivial, by omega⟩
  have hsn := sz_nat k0
  have e2 : nt (a + sz k, k) = (a.toNat + 2 ^ k.toNat, k.toNat) := by
    simp only [nt, Prod.mk.injEq]
    exact ⟨by omega, trivial⟩
  refine ⟨nnM, h.t.split (a := a.toNat) (k := k.toNat) (e1 ▸ h.mem hx) ?_⟩
  refine nt_iff (P := fun z => (z ∈ L ∧ z ≠ (a, k + 1)) ∨ z = (a, k) ∨ z = (a + sz k, k)) hM ?_ ?_
  · rintro z (⟨h1, h2⟩ | rfl | rfl)
    · exact .inl ⟨h.mem h1, fun e => h2 (nt_inj (h.nn z h1) (h.nn _ hx) (e.trans e1.symm))⟩
    · exact .inr (.inl rfl)
    · exact .inr (.inr e2)
  · rintro y (⟨h1, h2⟩ | rfl | rfl)
    · obtain ⟨z, hz, rfl⟩ := List.mem_map.1 h1
      exact ⟨z, rfl, .inl ⟨hz, fun e => h2 (by rw [e, e1])⟩⟩
    · exact ⟨(a, k), rfl, .inr (.inl rfl)⟩
    · exact ⟨(a + sz k, k), e2, .inr (.inr rfl)⟩

/-- joined again -/
theorem TI.join {n : Int} {L M : List (Int × Int)} (h : TI n L) {a k : Int} (k0 : 0 ≤ k) (hb : BlkI (a, k + 1)) (h1 : (a, k) ∈ L) (h2 : (a + sz k, k) ∈ L)
    (hM : ∀ z, z ∈ M ↔ (z ∈ L ∧ z ≠ (a, k) ∧ z ≠ (a + sz k, k)) ∨ z = (a, k + 1)) : TI n M := by
  have a0 := (h.nn _ h1).1
  simp only at a0
  have sk := sz_pos k
  have e1 : nt (a, k + 1) = (a.toNat, k.toNat + 1) := by simp only [nt, Prod.mk.injEq]; exact ⟨trivial, by omega⟩
  have hsn := sz_nat k0
  have e2 : nt (a + sz k, k) = (a.toNat + 2 ^ k.toNat, k.toNat) := by
    simp only [nt, Prod.mk.injEq]
    exact ⟨by omega, trivial⟩
  refine ⟨fun z hz => ?_, h.t.join (a := a.toNat) (k := k.toNat) (e1 ▸ blk_nt hb) (h.mem h1) (e2 ▸ h.mem h2) ?_⟩
  · rcases (hM z).1 hz with ⟨q, _⟩ | rfl
    · exact h.nn z q
    · exact ⟨a0, (show (0 : Int) ≤ k + 1 by omega)⟩
  refine nt_iff (P := fun z => (z ∈ L ∧ z ≠ (a, k) ∧ z ≠ (a + sz k, k)) ∨ z = (a, k + 1)) hM ?_ ?_
  · rintro z (⟨q1, q2, q3⟩ | rfl)
    · exact .inl ⟨h.mem q1, fun e => q2 (nt_inj (h.nn z q1) (h.nn _ h1) e), fun e => q3 (nt_inj (h.nn z q1) (h.nn _ h2) (e.trans e2.symm))⟩
    · exact .inr e1
  · rintro y (⟨q1, q2, q3⟩ | rfl)
    · obtain ⟨z, hz, rfl⟩ := List.mem_map.1 q1
      exact ⟨z, rfl, .inl ⟨hz, fun e => q2 (by rw [e]; rfl), fun e => q3 (by rw [e, e2])⟩⟩
    · exact ⟨(a, k + 1), e1, .inr rfl⟩

theorem bud_nt {a k : Int} (h : BlkI (a, k)) (h5 : k < 6) : nt (budA a k, k) = (budN (nt (a, k)), k.toNat) := by
  obtain ⟨a0, k0, _, hm⟩ := h
  simp only at a0 k0 hm h5
  simp only [nt, Prod.mk.injEq, and_true]
  have e : k = 0 ∨ k = 1 ∨ k = 2 ∨ k = 3 ∨ k = 4 ∨ k = 5 := by omega
  unfold budA budN
  simp only
  by_cases hc : a.toNat / 2 ^ k.toNat % 2 = 0
  · rw [if_pos hc]
    rcases e with rfl | rfl | rfl | rfl | rfl | rfl <;> simp only [sz0, sz1, sz2, sz3, sz4, sz5, show Int.toNat 0 = 0 from rfl, show Int.toNat 1 = 1 from rfl, show Int.toNat 2 = 2 from rfl, show Int.toNat 3 = 3 from rfl, show Int.toNat 4 = 4 from rfl, show Int.toNat 5 = 5 from rfl, Nat.reducePow] at * <;> omega
  · rw [if_neg hc]
    rcases e with rfl | rfl | rfl | rfl | rfl | rfl <;> simp only [sz0, sz1, sz2, sz3, sz4, sz5, show Int.toNat 0 = 0 from rfl, show Int.toNat 1 = 1 from rfl, show Int.toNat 2 = 2 from rfl, show Int.toNat 3 = 3 from rfl, show Int.toNat 4 = 4 from rfl, show Int.toNat 5 = 5 from rfl, Nat.reducePow] at * <;> omega
theorem ApI.nt {n : Int} {L : List (Int × Int)} (h : ApI L) (hL : TI n L) : Apart (L.map nt) := by
  intro y hy h6 hb
  obtain ⟨x, hx, rfl⟩ := List.mem_map.1 hy
  obtain ⟨a, k⟩ := x
  have bx := hL.blk hx
  have k6 : k < 6 := by have : k.toNat < 6 := h6; omega
  have e := bud_nt bx k6
  have hb' : Go.Proofs.YtcooflachcimbaaDoor.nt (budA a k, k) ∈ L.map Go.Proofs.YtcooflachcimbaaDoor.nt := by rw [e]; exact hb
  obtain ⟨z, hz, ez⟩ := List.mem_map.1 hb'
  have b0 : 0 ≤ budA a k := by
    obtain ⟨a0, k0, _, hm⟩ := bx
    simp only at a0 k0 hm
    have ek : k = 0 ∨ k = 1 ∨ k = 2 ∨ k = 3 ∨ k = 4 ∨ k = 5 := by omega
    unfold budA
    rcases ek with rfl | rfl | rfl | rfl | rfl | rfl <;> simp only [sz0, sz1, sz2, sz3, sz4, sz5] at * <;> omega
  have := nt_inj (hL.nn z hz) (q := (budA a k, k)) ⟨b0, bx.2.1⟩ ez
  exact h _ hx k6 (this ▸ hz)
/-- a tiling without buddies is the only one -/
theorem TI.only {n : Int} {L M : List (Int × Int)} (hL : TI n L) (hA : ApI L) (hM : TI n M) (hB : ApI M) {x : Int × Int} (hx : x ∈ L) : x ∈ M := by
  have := only_one hL.t (hA.nt hL) hM.t (hB.nt hM) _ (hL.mem hx)
  obtain ⟨z, hz, ez⟩ := List.mem_map.1 this
  exact nt_inj (hM.nn z hz) (hL.nn x hx) ez ▸ hz
end Go.Proofs.YtcooflachcimbaaDoor
