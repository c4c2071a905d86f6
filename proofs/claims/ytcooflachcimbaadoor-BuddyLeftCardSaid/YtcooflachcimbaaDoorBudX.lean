/- Plain: the cover that a new buddy begins with tiles, and has no two buddies; how many blocks and pages there are; given back, all is as at the beginning. -/
import Derived.Test.YtcooflachcimbaaDoorBudW
namespace Go.Proofs.YtcooflachcimbaaDoor

theorem Asc.len : ∀ {l : List (Int × Int)} {a e : Int}, Asc l → (∀ p ∈ l, a ≤ p.1 ∧ p.1 < e) → a ≤ e → (l.length : Int) ≤ e - a
  | [], a, e, _, _, h => by simp; omega
  | p :: r, a, e, hA, hr, h => by
    obtain ⟨h1, h2⟩ := List.pairwise_cons.1 hA
    have hp := hr p (by simp)
    have := Asc.len (a := p.1 + 1) (e := e) h2 (fun q hq => ⟨by have := h1 q hq; omega, (hr q (by simp [hq])).2⟩) (by omega)
    simp only [List.length_cons]
    omega
theorem Inv.rngF {n : Int} {F T : List (Int × Int)} (h : Inv n F T) {p : Int × Int} (hp : p ∈ F) : 0 ≤ p.1 ∧ p.1 < 256 ∧ 0 ≤ p.2 ∧ p.2 ≤ 6 := by
  obtain ⟨b0, b1, b2, _⟩ := h.t.blk (h.memF hp)
  have := h.t.bound (h.memF hp)
  have := sz_pos p.2
  have := h.n2
  exact ⟨b0, by omega, b1, b2⟩
theorem Inv.rngT {n : Int} {F T : List (Int × Int)} (h : Inv n F T) {p : Int × Int} (hp : p ∈ T) : 0 ≤ p.1 ∧ p.1 < 256 ∧ 0 ≤ p.2 ∧ p.2 ≤ 6 := by
  obtain ⟨b0, b1, b2, _⟩ := h.t.blk (h.memT hp)
  have := h.t.bound (h.memT hp)
  have := sz_pos p.2
  have := h.n2
  exact ⟨b0, by omega, b1, b2⟩
theorem InvH.rng {n : Int} {F T : List (Int × Int)} {x : Int × Int} (h : InvH n F T x) {p : Int × Int} (hp : p ∈ x :: (F ++ T)) : 0 ≤ p.1 ∧ p.1 < 256 ∧ 0 ≤ p.2 ∧ p.2 ≤ 6 := by
  obtain ⟨b0, b1, b2, _⟩ := h.t.blk hp
  have := h.t.bound hp
  have := sz_pos p.2
  have := h.n2
  exact ⟨b0, by omega, b1, b2⟩
theorem asc_len256 {l : List (Int × Int)} (hA : Asc l) (hr : ∀ p ∈ l, 0 ≤ p.1 ∧ p.1 < 256 ∧ 0 ≤ p.2 ∧ p.2 ≤ 6) : l.length ≤ 256 := by
  have := hA.len (a := 0) (e := 256) (fun p hp => ⟨(hr p hp).1, (hr p hp).2.1⟩) (by omega)
  omega
theorem Inv.lenF {n : Int} {F T : List (Int × Int)} (h : Inv n F T) : F.length ≤ 256 := asc_len256 h.fa fun _ => h.rngF
theorem Inv.lenT {n : Int} {F T : List (Int × Int)} (h : Inv n F T) : T.length ≤ 256 := asc_len256 h.ta fun _ => h.rngT

/-- a chain of right blocks -/
theorem Chain.low {e : Int} : ∀ {a : Int} {l : List (Int × Int)}, Chain e a l → 0 ≤ a → ∀ x ∈ l, a ≤ x.1 ∧ x.1 + sz x.2 ≤ e ∧ BlkI x
  | _, [], _, _, x, hx => by cases hx
  | a, b :: r, ⟨h1, h2, h3, h4, h5, h6⟩, h0, x, hx => by
    have := sz_pos b.2
    rcases List.mem_cons.1 hx with rfl | hx
    · exact ⟨by omega, by omega, ⟨by omega, h2, h3, by rw [h1]; exact h4⟩⟩
    · obtain ⟨c1, c2, c3⟩ := Chain.low h6 (by omega) x hx
      exact ⟨by omega, c2, c3⟩
theorem Chain.end {e : Int} : ∀ {a : Int} {l : List (Int × Int)}, Chain e a l → a ≤ e
  | _, [], h => by simp only [Chain] at h; omega
  | a, b :: r, ⟨_, _, _, _, h5, _⟩ => by have := sz_pos b.2; omega
theorem Chain.cov {e : Int} : ∀ {a : Int} {l : List (Int × Int)}, Chain e a l → ∀ p, a ≤ p → p < e → ∃ x ∈ l, InnI p x
  | _, [], h, p, h1, h2 => by simp only [Chain] at h; omega
  | a, b :: r, ⟨h1, _, _, _, _, h6⟩, p, p1, p2 => by
    by_cases h : p < a + sz b.2
    · exact ⟨b, by simp, ⟨by omega, by omega⟩⟩
    · obtain ⟨x, hx, q⟩ := Chain.cov h6 p (by omega) p2
      exact ⟨x, by simp [hx], q⟩
theorem Chain.asc {e : Int} : ∀ {a : Int} {l : List (Int × Int)}, Chain e a l → 0 ≤ a → l.Pairwise fun x y => x.1 + sz x.2 ≤ y.1
  | _, [], _, _ => List.Pairwise.nil
  | a, b :: r, ⟨h1, _, _, _, _, h6⟩, h0 => by
    have := sz_pos b.2
    exact List.pairwise_cons.2 ⟨fun y hy => by have := (Chain.low h6 (by omega) y hy).1; omega, Chain.asc h6 (by omega)⟩
theorem TI.mk' {n : Int} {L : List (Int × Int)} (hb : ∀ x ∈ L, BlkI x) (hc : ∀ p, 0 ≤ p → p < n → ∃ x ∈ L, InnI p x) (h1 : ∀ x ∈ L, ∀ y ∈ L, ∀ p, InnI p x → InnI p y → x = y) (hn : ∀ x ∈ L, x.1 + sz x.2 ≤ n) : TI n L := by
  have nn : ∀ x ∈ L, 0 ≤ x.1 ∧ 0 ≤ x.2 := fun x hx => ⟨(hb x hx).1, (hb x hx).2.1⟩
  have back : ∀ y ∈ L.map nt, ∃ x ∈ L, nt x = y := fun y hy => by simpa using hy
  refine ⟨nn, ⟨fun y hy => ?_, fun p hp => ?_, fun y hy z hz p py pz => ?_, fun y hy => ?_⟩⟩
  · obtain ⟨x, hx, rfl⟩ := back y hy
    exact blk_nt (hb x hx)
  · obtain ⟨x, hx, q⟩ := hc p (by omega) (by omega)
    refine ⟨nt x, List.mem_map.2 ⟨x, hx, rfl⟩, ?_⟩
    have := (inn_nt (p := p) (nn x hx) (by omega)).2 q
    simpa using this
  · obtain ⟨x, hx, rfl⟩ := back y hy
    obtain ⟨x', hx', rfl⟩ := back z hz
    have q1 := (inn_nt (p := (p : Int)) (nn x hx) (by omega)).1 (by simpa using py)
    have q2 := (inn_nt (p := (p : Int)) (nn x' hx') (by omega)).1 (by simpa using pz)
    rw [h1 x hx x' hx' _ q1 q2]
  · obtain ⟨x, hx, rfl⟩ := back y hy
    have := hn x hx
    have h0 := nn x hx
    rw [sz_nat h0.2] at this
    show x.1.toNat + 2 ^ x.2.toNat ≤ n.toNat
    omega
theorem pairwise_one {L : List (Int × Int)} (h : L.Pairwise fun x y => x.1 + sz x.2 ≤ y.1) : ∀ x ∈ L, ∀ y ∈ L, ∀ p, InnI p x → InnI p y → x = y := by
  induction h with
  | nil => intro x hx; cases hx
  | @cons b r hb _ ih =>
    intro x hx y hy p px py
    unfold InnI at px py
    rcases List.mem_cons.1 hx with rfl | hx <;> rcases List.mem_cons.1 hy with rfl | hy
    · rfl
    · have := hb _ hy; omega
    · have := hb _ ‹_ ∈ r›; omega
    · exact ih x ‹_› y ‹_› p px py
theorem Chain.tiles {n : Int} {l : List (Int × Int)} (h : Chain n 0 l) : TI n l :=
  TI.mk' (fun x hx => (h.low (Int.le_refl _) x hx).2.2) (fun p p0 pn => h.cov p p0 pn) (pairwise_one (h.asc (Int.le_refl _))) (fun x hx => (h.low (Int.le_refl _) x hx).2.1)
/-- each block of a cover is the greatest that fits there -/
theorem covL_ord : ∀ (f : Nat) (a n : Int), n.toNat ≤ f → ∀ x ∈ covL a n, x.2 = covO x.1 (a + n - x.1) ∧ x.1 < a + n
  | 0, a, n, h, x, hx => by rw [covL_zero (by omega)] at hx; cases hx
  | f + 1, a, n, h, x, hx => by
    by_cases h0 : n ≤ 0
    · rw [covL_zero h0] at hx; cases hx
    · rw [covL_step (by omega)] at hx
      have := sz_pos (covO a n)
      rcases List.mem_cons.1 hx with rfl | hx
      · refine ⟨?_, (show a < a + n by omega)⟩
        show covO a n = covO a (a + n - a)
        rw [show a + n - a = n by omega]
      · obtain ⟨c1, c2⟩ := covL_ord f _ _ (by omega) x hx
        rw [show a + sz (covO a n) + (n - sz (covO a n)) = a + n by omega] at c1 c2
        exact ⟨c1, c2⟩
theorem cov_ap {n : Int} (n0 : 0 ≤ n) (n2 : n ≤ 256) : ApI (covL 0 n) := by
  have hch := covL_chain n.toNat 0 n (Nat.le_refl _) n0
  rw [show (0 : Int) + n = n by omega] at hch
  -- the lower one of two buddies would have been taken as one with the upper one
  have key : ∀ a k : Int, (a, k) ∈ covL 0 n → k < 6 → a % sz (k + 1) = 0 → (a + sz k, k) ∉ covL 0 n := by
    intro a k h1 h6 hm h2
    obtain ⟨_, k0, _, _⟩ := (hch.low (Int.le_refl _) _ h1).2.2
    have e := (covL_ord n.toNat 0 n (Nat.le_refl _) _ h1).1
    have hb := (hch.low (Int.le_refl _) _ h2).2.1
    simp only at e hb k0
    have e2 := sz_succ k0 (by omega)
    exact covO_max (a := a) (n := 0 + n - a) (k := k + 1) (by omega) (by omega) ⟨hm, by omega⟩
  intro x hx h6 hb
  obtain ⟨a, k⟩ := x
  obtain ⟨b1, b2, b0, k0, k6, hm⟩ := hch.low (Int.le_refl _) _ hx
  have sk := sz_pos k
  simp only at b1 b2 b0 k0 k6 hm h6 hb
  obtain ⟨_, hinv, hpar, ⟨_, _, p2⟩, hcase, _⟩ := kin b0 (by omega) k0 (by omega) hm
  rcases hcase with ⟨c1, c2⟩ | ⟨c1, c2⟩
  · rw [c1] at c2 p2
    exact key a k hx h6 p2 (c2 ▸ hb)
  · rw [c1] at c2 p2
    exact key _ k hb h6 p2 (by rw [← c2]; exact hx)
theorem pairwise_asc {L : List (Int × Int)} (h : L.Pairwise fun x y => x.1 + sz x.2 ≤ y.1) : Asc L := h.imp fun {x y} q => by have := sz_pos x.2; omega
theorem cov_asc {n : Int} (n0 : 0 ≤ n) : Asc (covL 0 n) := pairwise_asc ((covL_chain n.toNat 0 n (Nat.le_refl _) n0).asc (Int.le_refl _))
/-- a new buddy -/
theorem Inv.start {n : Int} (n1 : 1 ≤ n) (n2 : n ≤ 256) : Inv n (covL 0 n) [] := by
  have hch := covL_chain n.toNat 0 n (Nat.le_refl _) (by omega)
  rw [show (0 : Int) + n = n by omega] at hch
  exact ⟨n1, n2, cov_asc (by omega), List.Pairwise.nil, by rw [List.append_nil]; exact hch.tiles, (fun _ _ h => by cases h), cov_ap (by omega) n2⟩
theorem putL_last : ∀ {l : List (Int × Int)} {a : Int} (k : Int), (∀ p ∈ l, p.1 < a) → putL a k l = l ++ [(a, k)]
  | [], _, _, _ => rfl
  | p :: r, a, k, h => by
    have := h p (by simp)
    unfold putL
    rw [if_neg (by omega), if_neg (by omega), putL_last k fun q hq => h q (by simp [hq])]
    rfl
/-- with all given back it is as at the beginning -/
theorem Inv.whole {n : Int} {F : List (Int × Int)} (h : Inv n F []) : F = covL 0 n := by
  have h0 := Inv.start h.n1 h.n2
  have t1 := h.t
  have t2 := h0.t
  rw [List.append_nil] at t1 t2
  refine asc_ext h.fa h0.fa fun a => ?_
  have e : ∀ z, z ∈ F ↔ z ∈ covL 0 n := fun z => ⟨fun q => t1.only h.ap t2 h0.ap q, fun q => t2.only h0.ap t1 h.ap q⟩
  cases hg : getL F a with
  | none =>
    cases hg' : getL (covL 0 n) a with
    | none => rfl
    | some k => rw [mem_getL h.fa ((e _).2 (getL_mem hg'))] at hg; cases hg
  | some k => exact (mem_getL h0.fa ((e _).1 (getL_mem hg))).symm

theorem sumL_append : ∀ l m : List (Int × Int), sumL (l ++ m) = sumL l + sumL m
  | [], m => by simp [sumL]
  | x :: r, m => by simp only [List.cons_append, sumL, sumL_append r m]; omega
theorem sumL_nonneg : ∀ l : List (Int × Int), 0 ≤ sumL l
  | [] => Int.le_refl _
  | x :: r => by have := sumL_nonneg r; have := sz_pos x.2; simp only [sumL]; omega
theorem sumL_put : ∀ {l : List (Int × Int)} {a : Int} (k : Int), (∀ p ∈ l, p.1 ≠ a) → sumL (putL a k l) = sz k + sumL l
  | [], a, k, _ => by simp [putL, sumL]
  | p :: r, a, k, h => by
    have h1 := h p (by simp)
    unfold putL
    by_cases c : a < p.1
    · rw [if_pos c]; simp only [sumL]
    · rw [if_neg c, if_neg (fun e => h1 e.symm)]
      have := sumL_put (l := r) k fun q hq => h q (List.mem_cons_of_mem _ hq)
      simp only [sumL]; omega
theorem sumL_del : ∀ {l : List (Int × Int)} {x : Int × Int}, Asc l → x ∈ l → sumL (delL x.1 l) = sumL l - sz x.2
  | [], x, _, h => by cases h
  | p :: r, x, hA, h => by
    obtain ⟨h1, h2⟩ := List.pairwise_cons.1 hA
    rcases List.mem_cons.1 h with rfl | h
    · have e : delL x.1 (x :: r) = r := by
        have : delL x.1 (x :: r) = delL x.1 r := by simp [delL]
        rw [this, delL, List.filter_eq_self.2 fun q hq => by have := h1 q hq; simp; omega]
      rw [e]; simp only [sumL]; omega
    · have := h1 x h
      have e : delL x.1 (p :: r) = p :: delL x.1 r := by
        have : ¬ p.1 = x.1 := by omega
        simp [delL, this]
      rw [e]; simp only [sumL, sumL_del h2 h]; omega
theorem chain_sum {e : Int} : ∀ {a : Int} {l : List (Int × Int)}, Chain e a l → sumL l = e - a
  | _, [], h => by simp only [Chain] at h; simp [sumL]; omega
  | a, b :: r, ⟨_, _, _, _, _, h6⟩ => by simp only [sumL, chain_sum h6]; omega
/-- sorted blocks that do not overlap are no more pages than there are -/
theorem sum_le {e : Int} : ∀ {a : Int} {l : List (Int × Int)}, a ≤ e → (l.Pairwise fun x y => x.1 + sz x.2 ≤ y.1) → (∀ x ∈ l, a ≤ x.1 ∧ x.1 + sz x.2 ≤ e) → sumL l ≤ e - a
  | a, [], h, _, _ => by simp [sumL]; omega
  | a, b :: r, h, hP, hr => by
    obtain ⟨h1, h2⟩ := List.pairwise_cons.1 hP
    have hb := hr b (by simp)
    have := sum_le (a := b.1 + sz b.2) (e := e) (by omega) h2 fun x hx => ⟨h1 x hx, (hr x (by simp [hx])).2⟩
    simp only [sumL]; omega
theorem asc_apart {n : Int} {L l : List (Int × Int)} (t : TI n L) (hs : ∀ x ∈ l, x ∈ L) (hA : Asc l) : l.Pairwise fun x y => x.1 + sz x.2 ≤ y.1 := by
  refine hA.imp_of_mem fun {x y} hx hy q => ?_
  rcases Int.lt_or_le y.1 (x.1 + sz x.2) with h | h
  · have := t.one (hs x hx) (hs y hy) (p := y.1) ⟨by omega, h⟩ (inn_at y)
    rw [this] at q; omega
  · exact h
theorem Inv.sumF {n : Int} {F T : List (Int × Int)} (h : Inv n F T) : 0 ≤ sumL F ∧ sumL F ≤ n := by
  refine ⟨sumL_nonneg F, ?_⟩
  have := sum_le (a := 0) (e := n) (by have := h.n1; omega) (asc_apart h.t (fun x hx => h.memF hx) h.fa) fun x hx => ⟨(h.rngF hx).1, h.t.bound (h.memF hx)⟩
  omega
theorem InvH.sum_down {n : Int} {T : List (Int × Int)} {a k : Int} (k0 : 0 ≤ k) : ∀ (d : Nat) {F : List (Int × Int)}, InvH n F T (a, k + d) → sumL (downF d a k F) = sumL F + sz (k + d) - sz k
  | 0, F, _ => by simp [downF]
  | d + 1, F, h => by
    have e : k + ((d + 1 : Nat) : Int) = k + d + 1 := by omega
    rw [e] at h
    have hc := InvH.cut (by omega) h
    have b2 := h.blk.2.2.1
    simp only at b2
    unfold downF
    rw [InvH.sum_down k0 d hc, e, sz_succ (by omega) (by omega), sumL_put _ fun p hp q => ?_]
    · omega
    · have := h.t.one (List.mem_cons_of_mem _ (List.mem_append_left _ hp)) (List.mem_cons_self ..) (p := p.1) (inn_at p)
        ⟨by have := sz_pos (k + d); omega, by show p.1 < a + sz (k + d + 1); have := sz_pos (k + d); have := sz_succ (k := k + d) (by omega) (by omega); omega⟩
      exact h.nf (this ▸ hp)
/-- taking takes so many pages -/
theorem Inv.sum_take {n : Int} {F T : List (Int × Int)} (h : Inv n F T) {k : Int} (k0 : 0 ≤ k) {x : Int × Int} (hx : bestL k F = some x) : sumL (takeF k x F) = sumL F - sz k := by
  obtain ⟨h1, h2⟩ := bestL_some hx
  have hh := h.hand h1
  have hd := sumL_del h.fa h1
  obtain ⟨a, m⟩ := x
  simp only at h2 hd
  have e : k + (((m - k).toNat : Nat) : Int) = m := by omega
  have := InvH.sum_down (a := a) k0 (m - k).toNat (F := delL a F) (T := T) (n := n) (by rw [e]; exact hh)
  rw [e] at this
  show sumL (downF (m - k).toNat a k (delL a F)) = _
  omega
end Go.Proofs.YtcooflachcimbaaDoor
