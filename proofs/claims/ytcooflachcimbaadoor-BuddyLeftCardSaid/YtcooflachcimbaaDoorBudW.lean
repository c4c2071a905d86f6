/- Plain: what taking, giving back and splitting make of the free and of the taken blocks; what stays true: each page in one block, no two free buddies. -/
import Derived.Test.YtcooflachcimbaaDoorBudL
import Derived.Test.YtcooflachcimbaaDoorBudV
import Derived.Test.YtcooflachcimbaaDoorCover
namespace Go.Proofs.YtcooflachcimbaaDoor

/-- the first of the least order -/
def minL (x : Int × Int) : List (Int × Int) → Int × Int
  | [] => x
  | y :: r => minL (if y.2 < x.2 then y else x) r
def fitL (k : Int) (F : List (Int × Int)) : List (Int × Int) := F.filter fun p => !decide (p.2 < k)
def bestL (k : Int) (F : List (Int × Int)) : Option (Int × Int) := match fitL k F with | [] => none | x :: r => some (minL x r)
/-- a block d orders above k is cut down to k: the upper halves are free -/
def downF : Nat → Int → Int → List (Int × Int) → List (Int × Int)
  | 0, _, _, F => F
  | d + 1, a, k, F => downF d a k (putL (a + sz (k + d)) (k + d) F)
/-- a block is joined with its buddy while that is free -/
def upF : Nat → Int → Int → List (Int × Int) → (Int × Int) × List (Int × Int)
  | 0, a, k, F => ((a, k), F)
  | f + 1, a, k, F => if getL F (budA a k) = some k then upF f (parA a k) (k + 1) (delL (budA a k) F) else ((a, k), F)
def takeF (k : Int) (x : Int × Int) (F : List (Int × Int)) : List (Int × Int) := downF (x.2 - k).toNat x.1 k (delL x.1 F)
def giveF (a k : Int) (F : List (Int × Int)) : List (Int × Int) := putL (upF (6 - k).toNat a k F).1.1 (upF (6 - k).toNat a k F).1.2 (upF (6 - k).toNat a k F).2
/-- pages of blocks -/
def sumL : List (Int × Int) → Int
  | [] => 0
  | x :: r => sz x.2 + sumL r

theorem minL_mem : ∀ (x : Int × Int) (r : List (Int × Int)), minL x r ∈ x :: r
  | x, [] => by simp [minL]
  | x, y :: r => by
    unfold minL
    rcases List.mem_cons.1 (minL_mem (if y.2 < x.2 then y else x) r) with h | h
    · rw [h]
      split <;> simp
    · exact List.mem_cons_of_mem _ (List.mem_cons_of_mem _ h)
theorem minL_le : ∀ (x : Int × Int) (r : List (Int × Int)), ∀ z ∈ x :: r, (minL x r).2 ≤ z.2
  | x, [], z, hz => by simp at hz; subst hz; exact Int.le_refl _
  | x, y :: r, z, hz => by
    unfold minL
    have h0 := minL_le (if y.2 < x.2 then y else x) r _ (List.mem_cons_self ..)
    have h1 : (if y.2 < x.2 then y else x).2 ≤ x.2 ∧ (if y.2 < x.2 then y else x).2 ≤ y.2 := by split <;> omega
    rcases List.mem_cons.1 hz with rfl | hz
    · omega
    · rcases List.mem_cons.1 hz with rfl | hz
      · omega
      · exact minL_le _ r z (List.mem_cons_of_mem _ hz)
theorem mem_fitL {k : Int} {F : List (Int × Int)} {p : Int × Int} : p ∈ fitL k F ↔ p ∈ F ∧ k ≤ p.2 := by simp [fitL]
theorem bestL_some {k : Int} {F : List (Int × Int)} {x : Int × Int} (h : bestL k F = some x) : x ∈ F ∧ k ≤ x.2 := by
  unfold bestL at h
  split at h
  · cases h
  · rename_i y r e
    obtain rfl := Option.some.inj h
    exact mem_fitL.1 (e ▸ minL_mem y r)
theorem bestL_least {k : Int} {F : List (Int × Int)} {x : Int × Int} (h : bestL k F = some x) : ∀ p ∈ F, k ≤ p.2 → x.2 ≤ p.2 := by
  intro p hp hk
  unfold bestL at h
  split at h
  · cases h
  · rename_i y r e
    obtain rfl := Option.some.inj h
    exact minL_le y r p (e ▸ mem_fitL.2 ⟨hp, hk⟩)
theorem bestL_none {k : Int} {F : List (Int × Int)} (h : bestL k F = none) : ∀ p ∈ F, p.2 < k := by
  intro p hp
  unfold bestL at h
  split at h
  · rename_i e
    rcases Int.lt_or_le p.2 k with h' | h'
    · exact h'
    · have := mem_fitL.2 ⟨hp, h'⟩
      rw [e] at this
      cases this
  · cases h

theorem mem_asc {l : List (Int × Int)} (h : Asc l) (z : Int × Int) : z ∈ l ↔ getL l z.1 = some z.2 := ⟨fun hz => mem_getL h hz, fun hz => getL_mem hz⟩
theorem mem_putL {l : List (Int × Int)} (h : Asc l) {a k : Int} {z : Int × Int} : z ∈ putL a k l ↔ z = (a, k) ∨ (z ∈ l ∧ z.1 ≠ a) := by
  obtain ⟨b, m⟩ := z
  rw [mem_asc (h.put a k), getL_put a k _ h, mem_asc h]
  simp only [Prod.mk.injEq]
  by_cases e : a = b
  · subst e
    rw [if_pos rfl]
    constructor
    · intro q; exact .inl ⟨rfl, (Option.some.inj q).symm⟩
    · rintro (⟨_, q⟩ | ⟨_, q⟩)
      · rw [q]
      · exact absurd rfl q
  · rw [if_neg e]
    constructor
    · intro q; exact .inr ⟨q, fun x => e x.symm⟩
    · rintro (⟨q, _⟩ | ⟨q, _⟩)
      · exact absurd q.symm e
      · exact q

/-- what holds of buddies between any two acts -/
structure Inv (n : Int) (F T : List (Int × Int)) : Prop where
  n1 : 1 ≤ n
  n2 : n ≤ 256
  fa : Asc F
  ta : Asc T
  t : TI n (F ++ T)
  dis : ∀ p ∈ F, p ∉ T
  ap : ApI F
/-- .. and while a block is in hand -/
structure InvH (n : Int) (F T : List (Int × Int)) (x : Int × Int) : Prop where
  n1 : 1 ≤ n
  n2 : n ≤ 256
  fa : Asc F
  ta : Asc T
  t : TI n (x :: (F ++ T))
  dis : ∀ p ∈ F, p ∉ T
  nf : x ∉ F
  ntk : x ∉ T
  ap : ApI F

theorem inn_at (x : Int × Int) : InnI x.1 x := ⟨Int.le_refl _, by have := sz_pos x.2; omega⟩
theorem Inv.memF {n : Int} {F T : List (Int × Int)} (_ : Inv n F T) {x : Int × Int} (hx : x ∈ F) : x ∈ F ++ T := List.mem_append_left _ hx
theorem Inv.memT {n : Int} {F T : List (Int × Int)} (_ : Inv n F T) {x : Int × Int} (hx : x ∈ T) : x ∈ F ++ T := List.mem_append_right _ hx
theorem Inv.hand {n : Int} {F T : List (Int × Int)} (h : Inv n F T) {x : Int × Int} (hx : x ∈ F) : InvH n (delL x.1 F) T x := by
  have hd : ∀ z, z ∈ delL x.1 F ↔ z ∈ F ∧ z ≠ x := fun z => by
    rw [mem_delL]
    exact ⟨fun ⟨q, r⟩ => ⟨q, fun e => r (by rw [e])⟩, fun ⟨q, r⟩ => ⟨q, fun e => r (h.t.same (h.memF q) (h.memF hx) e)⟩⟩
  refine ⟨h.n1, h.n2, h.fa.del _, h.ta, ?_, fun p hp => h.dis p ((hd p).1 hp).1, fun q => ((hd x).1 q).2 rfl, h.dis x hx, fun y hy h6 hb => h.ap y ((hd y).1 hy).1 h6 ((hd _).1 hb).1⟩
  have hm : ∀ z, z ∈ x :: (delL x.1 F ++ T) ↔ z ∈ F ++ T := fun z => by
    simp only [List.mem_cons, List.mem_append, hd]
    constructor
    · rintro (rfl | ⟨q, _⟩ | q)
      · exact .inl hx
      · exact .inl q
      · exact .inr q
    · rintro (q | q)
      · by_cases e : z = x
        · exact .inl e
        · exact .inr (.inl ⟨q, e⟩)
      · exact .inr (.inr q)
  have t := h.t
  have hm2 : ∀ y, y ∈ (x :: (delL x.1 F ++ T)).map nt ↔ y ∈ (F ++ T).map nt := fun y => by
    simp only [List.mem_map, hm]
  exact ⟨fun z hz => t.nn z ((hm z).1 hz), ⟨fun y hy => t.t.blk y ((hm2 y).1 hy), fun p hp => by obtain ⟨y, hy, q⟩ := t.t.cov p hp; exact ⟨y, (hm2 y).2 hy, q⟩,
    fun y hy z hz p => t.t.one y ((hm2 y).1 hy) z ((hm2 z).1 hz) p, fun y hy => t.t.bound y ((hm2 y).1 hy)⟩⟩
/-- the same blocks tile the same -/
theorem TI.congr {n : Int} {L M : List (Int × Int)} (t : TI n L) (hm : ∀ z, z ∈ M ↔ z ∈ L) : TI n M := by
  have hm2 : ∀ y, y ∈ M.map nt ↔ y ∈ L.map nt := fun y => by simp only [List.mem_map, hm]
  exact ⟨fun z hz => t.nn z ((hm z).1 hz), ⟨fun y hy => t.t.blk y ((hm2 y).1 hy), fun p hp => by obtain ⟨y, hy, q⟩ := t.t.cov p hp; exact ⟨y, (hm2 y).2 hy, q⟩,
    fun y hy z hz p => t.t.one y ((hm2 y).1 hy) z ((hm2 z).1 hz) p, fun y hy => t.t.bound y ((hm2 y).1 hy)⟩⟩
theorem Inv.handT {n : Int} {F T : List (Int × Int)} (h : Inv n F T) {x : Int × Int} (hx : x ∈ T) : InvH n F (delL x.1 T) x := by
  have hd : ∀ z, z ∈ delL x.1 T ↔ z ∈ T ∧ z ≠ x := fun z => by
    rw [mem_delL]
    exact ⟨fun ⟨q, r⟩ => ⟨q, fun e => r (by rw [e])⟩, fun ⟨q, r⟩ => ⟨q, fun e => r (h.t.same (h.memT q) (h.memT hx) e)⟩⟩
  refine ⟨h.n1, h.n2, h.fa, h.ta.del _, h.t.congr fun z => ?_, fun p hp q => h.dis p hp ((hd p).1 q).1, fun q => h.dis x q hx, fun q => ((hd x).1 q).2 rfl, h.ap⟩
  simp only [List.mem_cons, List.mem_append, hd]
  constructor
  · rintro (rfl | q | ⟨q, _⟩)
    · exact .inr hx
    · exact .inl q
    · exact .inr q
  · rintro (q | q)
    · exact .inr (.inl q)
    · by_cases e : z = x
      · exact .inl e
      · exact .inr (.inr ⟨q, e⟩)
/-- nothing else begins where the block in hand does -/
theorem InvH.other {n : Int} {F T : List (Int × Int)} {x : Int × Int} (h : InvH n F T x) {z : Int × Int} (hz : z ∈ F ++ T) : z.1 ≠ x.1 := fun e => by
  have := h.t.same (List.mem_cons_of_mem _ hz) (List.mem_cons_self ..) e
  subst this
  rcases List.mem_append.1 hz with q | q
  · exact h.nf q
  · exact h.ntk q
theorem InvH.blk {n : Int} {F T : List (Int × Int)} {x : Int × Int} (h : InvH n F T x) : BlkI x := h.t.blk (List.mem_cons_self ..)
theorem InvH.putT {n : Int} {F T : List (Int × Int)} {a k : Int} (h : InvH n F T (a, k)) : Inv n F (putL a k T) := by
  have hd : ∀ z, z ∈ putL a k T ↔ z = (a, k) ∨ z ∈ T := fun z => by
    rw [mem_putL h.ta]
    exact ⟨fun q => q.imp id And.left, fun q => q.imp id fun r => ⟨r, h.other (List.mem_append_right _ r)⟩⟩
  refine ⟨h.n1, h.n2, h.fa, h.ta.put _ _, h.t.congr fun z => ?_, fun p hp q => ?_, h.ap⟩
  · simp only [List.mem_cons, List.mem_append, hd]
    constructor
    · rintro (q | q | q)
      · exact .inr (.inl q)
      · exact .inl q
      · exact .inr (.inr q)
    · rintro (q | q | q)
      · exact .inr (.inl q)
      · exact .inl q
      · exact .inr (.inr q)
  · rcases (hd p).1 q with rfl | q
    · exact h.nf hp
    · exact h.dis p hp q
theorem InvH.putF {n : Int} {F T : List (Int × Int)} {a k : Int} (h : InvH n F T (a, k)) (hb : k < 6 → getL F (budA a k) ≠ some k) : Inv n (putL a k F) T := by
  have hd : ∀ z, z ∈ putL a k F ↔ z = (a, k) ∨ z ∈ F := fun z => by
    rw [mem_putL h.fa]
    exact ⟨fun q => q.imp id And.left, fun q => q.imp id fun r => ⟨r, h.other (List.mem_append_left _ r)⟩⟩
  obtain ⟨b0, b1, b2, b3⟩ := h.blk
  have bn := h.t.bound (List.mem_cons_self ..)
  have := sz_pos k
  have n2 := h.n2
  simp only at b0 b1 b2 b3 bn
  refine ⟨h.n1, h.n2, h.fa.put _ _, h.ta, h.t.congr fun z => ?_, fun p hp q => ?_, fun y hy h6 hbad => ?_⟩
  · simp only [List.mem_cons, List.mem_append, hd]
    constructor
    · rintro ((q | q) | q)
      · exact .inl q
      · exact .inr (.inl q)
      · exact .inr (.inr q)
    · rintro (q | q | q)
      · exact .inl (.inl q)
      · exact .inl (.inr q)
      · exact .inr q
  · rcases (hd p).1 hp with rfl | hp
    · exact h.ntk q
    · exact h.dis p hp q
  · rcases (hd y).1 hy with rfl | hy
    · obtain ⟨_, hinv, _⟩ := kin b0 (by omega) b1 (by simp only at h6; omega) b3
      rcases (hd _).1 hbad with e | hbad
      · have e1 : budA a k = a := congrArg Prod.fst e
        unfold budA at e1
        split at e1 <;> omega
      · exact hb h6 ((mem_asc h.fa _).1 hbad)
    · rcases (hd _).1 hbad with e | hbad
      · have e1 : budA y.1 y.2 = a := congrArg Prod.fst e
        have e2 : y.2 = k := congrArg Prod.snd e
        have by' := h.t.blk (List.mem_cons_of_mem _ (List.mem_append_left _ hy))
        have bny := h.t.bound (List.mem_cons_of_mem _ (List.mem_append_left T hy))
        have := sz_pos y.2
        obtain ⟨_, hinv, _⟩ := kin by'.1 (by omega) by'.2.1 (by omega) by'.2.2.2
        rw [e1, e2] at hinv
        refine hb (by omega) ?_
        rw [hinv, ← e2]
        exact (mem_asc h.fa _).1 hy
      · exact h.ap y hy h6 hbad

theorem half_bud {a k : Int} (k0 : 0 ≤ k) (k5 : k ≤ 5) (h : a % sz (k + 1) = 0) : a % sz k = 0 ∧ budA a k = a + sz k ∧ parA a k = a ∧ budA (a + sz k) k = a ∧ (a + sz k) % sz k = 0 := by
  have e : k = 0 ∨ k = 1 ∨ k = 2 ∨ k = 3 ∨ k = 4 ∨ k = 5 := by omega
  unfold budA parA
  rcases e with rfl | rfl | rfl | rfl | rfl | rfl <;> simp only [sz0, sz1, sz2, sz3, sz4, sz5, sz6, show (0 : Int) + 1 = 1 from rfl, show (1 : Int) + 1 = 2 from rfl, show (2 : Int) + 1 = 3 from rfl, show (3 : Int) + 1 = 4 from rfl, show (4 : Int) + 1 = 5 from rfl, show (5 : Int) + 1 = 6 from rfl] at * <;> (refine ⟨?_, ?_, ?_, ?_, ?_⟩ <;> omega)

/-- the block in hand is cut: the lower half stays in hand, the upper one is free -/
theorem InvH.cut {n : Int} {F T : List (Int × Int)} {a k : Int} (k0 : 0 ≤ k) (h : InvH n F T (a, k + 1)) : InvH n (putL (a + sz k) k F) T (a, k) := by
  obtain ⟨b0, b1, b2, b3⟩ := h.blk
  have bn := h.t.bound (List.mem_cons_self ..)
  have sk := sz_pos k
  have n2 := h.n2
  simp only at b0 b1 b2 b3 bn
  have e2 := sz_succ k0 (by omega)
  obtain ⟨m1, m2, m3, m4, m5⟩ := half_bud k0 (by omega) b3
  -- what lies in the block in hand is not elsewhere
  have hno : ∀ z : Int × Int, z ∈ F ++ T → ∀ p, InnI p z → ¬ (a ≤ p ∧ p < a + sz (k + 1)) := fun z hz p hp hq => by
    have := h.t.one (List.mem_cons_of_mem _ hz) (List.mem_cons_self ..) hp hq
    exact h.other hz (by rw [this])
  have hd : ∀ z, z ∈ putL (a + sz k) k F ↔ z = (a + sz k, k) ∨ z ∈ F := fun z => by
    rw [mem_putL h.fa]
    refine ⟨fun q => q.imp id And.left, fun q => q.imp id fun r => ⟨r, fun e => ?_⟩⟩
    exact hno z (List.mem_append_left _ r) z.1 (inn_at z) ⟨by omega, by omega⟩
  have hlow : (a, k) ∉ F ++ T := fun q => hno _ q a (inn_at (a, k)) ⟨by omega, by omega⟩
  have hhigh : (a + sz k, k) ∉ F ++ T := fun q => hno _ q (a + sz k) (inn_at (a + sz k, k)) ⟨by omega, by omega⟩
  refine ⟨h.n1, h.n2, h.fa.put _ _, h.ta, h.t.split (a := a) (k := k) k0 (List.mem_cons_self ..) fun z => ?_, fun p hp q => ?_, fun q => ?_, fun q => hlow (List.mem_append_right _ q), fun y hy h6 hbad => ?_⟩
  · simp only [List.mem_cons, List.mem_append, hd]
    constructor
    · rintro (q | (q | q) | q)
      · exact .inr (.inl q)
      · exact .inr (.inr q)
      · exact .inl ⟨.inr (.inl q), fun e => h.nf (e ▸ q)⟩
      · exact .inl ⟨.inr (.inr q), fun e => h.ntk (e ▸ q)⟩
    · rintro (⟨q | q | q, r⟩ | q | q)
      · exact absurd q r
      · exact .inr (.inl (.inr q))
      · exact .inr (.inr q)
      · exact .inl q
      · exact .inr (.inl (.inl q))
  · rcases (hd p).1 hp with rfl | hp
    · exact hhigh (List.mem_append_right _ q)
    · exact h.dis p hp q
  · rcases (hd _).1 q with e | q
    · have : a = a + sz k := congrArg Prod.fst e
      omega
    · exact hlow (List.mem_append_left _ q)
  · rcases (hd y).1 hy with rfl | hy
    · simp only [m4] at hbad
      rcases (hd _).1 hbad with e | q
      · have : a = a + sz k := congrArg Prod.fst e
        omega
      · exact hlow (List.mem_append_left _ q)
    · rcases (hd _).1 hbad with e | hbad
      · have e1 : budA y.1 y.2 = a + sz k := congrArg Prod.fst e
        have e2' : y.2 = k := congrArg Prod.snd e
        have by' := h.t.blk (List.mem_cons_of_mem _ (List.mem_append_left _ hy))
        have bny := h.t.bound (List.mem_cons_of_mem _ (List.mem_append_left T hy))
        have := sz_pos y.2
        obtain ⟨_, hinv, _⟩ := kin by'.1 (by omega) by'.2.1 (by omega) by'.2.2.2
        rw [e1, e2', m4] at hinv
        refine hlow (List.mem_append_left _ ?_)
        have : y = (a, k) := Prod.ext hinv.symm e2'
        exact this ▸ hy
      · exact h.ap y hy h6 hbad

/-- the block in hand is joined with its buddy, which is free -/
theorem InvH.up {n : Int} {F T : List (Int × Int)} {a k : Int} (h : InvH n F T (a, k)) (k5 : k < 6) (hb : getL F (budA a k) = some k) : InvH n (delL (budA a k) F) T (parA a k, k + 1) := by
  obtain ⟨b0, b1, b2, b3⟩ := h.blk
  have bn := h.t.bound (List.mem_cons_self ..)
  have sk := sz_pos k
  have n2 := h.n2
  simp only at b0 b1 b2 b3 bn
  have hbm : (budA a k, k) ∈ F := getL_mem hb
  obtain ⟨⟨q0, q1, q2⟩, hinv, hpar, ⟨p0, p1, p2⟩, hcase, _⟩ := kin b0 (by omega) b1 (by omega) b3
  have hd : ∀ z, z ∈ delL (budA a k) F ↔ z ∈ F ∧ z ≠ (budA a k, k) := fun z => by
    rw [mem_delL]
    refine ⟨fun ⟨q, r⟩ => ⟨q, fun e => r (by rw [e])⟩, fun ⟨q, r⟩ => ⟨q, fun e => r ?_⟩⟩
    exact h.t.same (List.mem_cons_of_mem _ (List.mem_append_left _ q)) (List.mem_cons_of_mem _ (List.mem_append_left _ hbm)) e
  have hbT : (budA a k, k) ∉ T := h.dis _ hbm
  have hne : (budA a k, k) ≠ (a, k) := fun e => h.nf (e ▸ hbm)
  have hbig : BlkI (parA a k, k + 1) := ⟨p0, (show (0 : Int) ≤ k + 1 by omega), (show k + 1 ≤ 6 by omega), p2⟩
  -- nothing that is left overlaps the joined block
  have e2 := sz_succ b1 b2
  have hno : ∀ z : Int × Int, z ∈ delL (budA a k) F ++ T → z ≠ (parA a k, k + 1) := fun z hz e => by
    subst e
    have hz' : (parA a k, k + 1) ∈ F ++ T := by
      rcases List.mem_append.1 hz with q | q
      · exact List.mem_append_left _ ((hd _).1 q).1
      · exact List.mem_append_right _ q
    have := h.t.one (List.mem_cons_of_mem _ hz') (List.mem_cons_self ..) (p := a) ⟨by rcases hcase with ⟨c1, c2⟩ | ⟨c1, c2⟩ <;> simp only <;> omega, by simp only; rcases hcase with ⟨c1, c2⟩ | ⟨c1, c2⟩ <;> omega⟩ (inn_at (a, k))
    have := congrArg Prod.snd this
    simp only at this
    omega
  refine ⟨h.n1, h.n2, h.fa.del _, h.ta, ?_, fun p hp => h.dis p ((hd p).1 hp).1, fun q => hno _ (List.mem_append_left _ q) rfl, fun q => hno _ (List.mem_append_right _ q) rfl, fun y hy h6 hbad => h.ap y ((hd y).1 hy).1 h6 ((hd _).1 hbad).1⟩
  rcases hcase with ⟨c1, c2⟩ | ⟨c1, c2⟩
  · rw [c1] at c2 hbig ⊢
    refine h.t.join (a := a) (k := k) b1 hbig (List.mem_cons_self ..) (List.mem_cons_of_mem _ (List.mem_append_left _ (c2 ▸ hbm))) fun z => ?_
    rw [← c2]
    simp only [List.mem_cons, List.mem_append, hd]
    constructor
    · rintro (q | ⟨q, r⟩ | q)
      · exact .inr q
      · exact .inl ⟨.inr (.inl q), fun e => h.nf (e ▸ q), r⟩
      · exact .inl ⟨.inr (.inr q), fun e => h.ntk (e ▸ q), fun e => hbT (e ▸ q)⟩
    · rintro (⟨q | q | q, r, s⟩ | q)
      · exact absurd q r
      · exact .inr (.inl ⟨q, s⟩)
      · exact .inr (.inr q)
      · exact .inl q
  · rw [c1] at c2 hbig ⊢
    refine h.t.join (a := budA a k) (k := k) b1 hbig (List.mem_cons_of_mem _ (List.mem_append_left _ hbm)) (by rw [← c2]; exact List.mem_cons_self ..) fun z => ?_
    rw [← c2]
    simp only [List.mem_cons, List.mem_append, hd]
    constructor
    · rintro (q | ⟨q, r⟩ | q)
      · exact .inr q
      · exact .inl ⟨.inr (.inl q), r, fun e => h.nf (e ▸ q)⟩
      · exact .inl ⟨.inr (.inr q), fun e => hbT (e ▸ q), fun e => h.ntk (e ▸ q)⟩
    · rintro (⟨q | q | q, r, s⟩ | q)
      · exact absurd q s
      · exact .inr (.inl ⟨q, r⟩)
      · exact .inr (.inr q)
      · exact .inl q

/-- taking keeps it -/
theorem InvH.down {n : Int} {T : List (Int × Int)} {a k : Int} (k0 : 0 ≤ k) : ∀ (d : Nat) {F : List (Int × Int)}, InvH n F T (a, k + d) → InvH n (downF d a k F) T (a, k)
  | 0, F, h => by simpa [downF] using h
  | d + 1, F, h => by
    unfold downF
    refine InvH.down k0 d (InvH.cut (by omega) ?_)
    have e : k + ((d + 1 : Nat) : Int) = k + d + 1 := by omega
    rw [e] at h
    exact h
theorem Inv.take {n : Int} {F T : List (Int × Int)} (h : Inv n F T) {k : Int} (k0 : 0 ≤ k) {x : Int × Int} (hx : bestL k F = some x) : Inv n (takeF k x F) (putL x.1 k T) := by
  obtain ⟨h1, h2⟩ := bestL_some hx
  have hh := h.hand h1
  obtain ⟨a, m⟩ := x
  simp only at h2
  refine InvH.putT (InvH.down k0 _ ?_)
  rwa [show k + (((m - k).toNat : Nat) : Int) = m by omega]
/-- giving back keeps it -/
theorem InvH.give {n : Int} {T : List (Int × Int)} : ∀ (f : Nat) {a k : Int} {F : List (Int × Int)}, InvH n F T (a, k) → f = (6 - k).toNat → Inv n (putL (upF f a k F).1.1 (upF f a k F).1.2 (upF f a k F).2) T
  | 0, a, k, F, h, hf => by
    unfold upF
    exact h.putF fun q => by omega
  | f + 1, a, k, F, h, hf => by
    unfold upF
    by_cases hb : getL F (budA a k) = some k
    · rw [if_pos hb]
      exact InvH.give f (h.up (by omega) hb) (by omega)
    · rw [if_neg hb]
      exact h.putF fun _ => hb
theorem Inv.give {n : Int} {F T : List (Int × Int)} (h : Inv n F T) {a k : Int} (hx : (a, k) ∈ T) : Inv n (giveF a k F) (delL a T) := InvH.give _ (h.handT hx) rfl
/-- splitting keeps it -/
theorem Inv.split {n : Int} {F T : List (Int × Int)} (h : Inv n F T) {a k : Int} (k1 : 1 ≤ k) (hx : (a, k) ∈ T) : Inv n F (putL (a + sz (k - 1)) (k - 1) (putL a (k - 1) T)) := by
  obtain ⟨j, rfl⟩ : ∃ j, k = j + 1 := ⟨k - 1, by omega⟩
  rw [show j + 1 - 1 = j by omega]
  have hx' := h.memT hx
  obtain ⟨b0, b1, b2, b3⟩ := h.t.blk hx'
  have bn := h.t.bound hx'
  have sk := sz_pos j
  simp only at b0 b1 b2 b3 bn
  have e2 := sz_succ (k := j) (by omega) (by omega)
  have hno : ∀ z : Int × Int, z ∈ F ++ T → z ≠ (a, j + 1) → ∀ p, InnI p z → ¬ (a ≤ p ∧ p < a + sz (j + 1)) := fun z hz hne p hp hq => hne (h.t.one hz hx' hp hq)
  have hd : ∀ z, z ∈ putL (a + sz j) j (putL a j T) ↔ z = (a + sz j, j) ∨ z = (a, j) ∨ (z ∈ T ∧ z ≠ (a, j + 1)) := fun z => by
    rw [mem_putL (h.ta.put _ _), mem_putL h.ta]
    constructor
    · rintro (q | ⟨q | ⟨q, r⟩, s⟩)
      · exact .inl q
      · exact .inr (.inl q)
      · exact .inr (.inr ⟨q, fun e => r (by rw [e])⟩)
    · rintro (q | q | ⟨q, r⟩)
      · exact .inl q
      · refine .inr ⟨.inl q, ?_⟩
        subst q
        show a ≠ a + sz j
        omega
      · refine .inr ⟨.inr ⟨q, fun e => ?_⟩, fun e => ?_⟩
        · exact hno z (h.memT q) r z.1 (inn_at z) ⟨by omega, by omega⟩
        · exact hno z (h.memT q) r z.1 (inn_at z) ⟨by omega, by omega⟩
  refine ⟨h.n1, h.n2, h.fa, (h.ta.put _ _).put _ _, h.t.split (a := a) (k := j) (by omega) hx' fun z => ?_, fun p hp q => ?_, h.ap⟩
  · simp only [List.mem_append, hd]
    constructor
    · rintro (q | q | q | ⟨q, r⟩)
      · exact .inl ⟨.inl q, fun e => h.dis z q (e ▸ hx)⟩
      · exact .inr (.inr q)
      · exact .inr (.inl q)
      · exact .inl ⟨.inr q, r⟩
    · rintro (⟨q | q, r⟩ | q | q)
      · exact .inl q
      · exact .inr (.inr (.inr ⟨q, r⟩))
      · exact .inr (.inr (.inl q))
      · exact .inr (.inl q)
  · have hpn : p ≠ (a, j + 1) := fun e => h.dis p hp (e ▸ hx)
    rcases (hd p).1 q with rfl | rfl | ⟨q, _⟩
    · exact hno _ (h.memF hp) hpn _ (inn_at _) ⟨by simp only; omega, by simp only; omega⟩
    · exact hno _ (h.memF hp) hpn _ (inn_at _) ⟨by simp only; omega, by simp only; omega⟩
    · exact h.dis p hp q
end Go.Proofs.YtcooflachcimbaaDoor
