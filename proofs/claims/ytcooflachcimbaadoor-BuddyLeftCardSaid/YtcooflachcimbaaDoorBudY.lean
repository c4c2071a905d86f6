/- Plain: going through the free and the taken blocks side by side, each page is met once. -/
import Derived.Test.YtcooflachcimbaaDoorBudX
namespace Go.Proofs.YtcooflachcimbaaDoor

structure TS (n : Int) (F T : List (Int × Int)) (i k : Nat) (at' : Int) : Prop where
  i1 : i ≤ F.length
  k1 : k ≤ T.length
  a0 : 0 ≤ at'
  a1 : at' ≤ n
  fb : ∀ x ∈ F.take i, x.1 + sz x.2 ≤ at'
  fa : ∀ x ∈ F.drop i, at' ≤ x.1
  tb : ∀ x ∈ T.take k, x.1 + sz x.2 ≤ at'
  ta : ∀ x ∈ T.drop k, at' ≤ x.1

theorem TS.start {n : Int} {F T : List (Int × Int)} (h : Inv n F T) : TS n F T 0 0 0 :=
  ⟨Nat.zero_le _, Nat.zero_le _, Int.le_refl _, by have := h.n1; omega, (fun x hx => by simp at hx), (fun x hx => (h.rngF (by simpa using hx)).1), (fun x hx => by simp at hx), fun x hx => (h.rngT (by simpa using hx)).1⟩

theorem mem_take_drop {l : List (Int × Int)} {x : Int × Int} (i : Nat) (h : x ∈ l) : x ∈ l.take i ∨ x ∈ l.drop i := by
  rw [← List.take_append_drop i l] at h
  exact List.mem_append.1 h
/-- the block at a place, if it is one of those still to come, is the next one -/
theorem next_one {l : List (Int × Int)} {i : Nat} {z : Int × Int} (hA : Asc l) (hz : z ∈ l.drop i) (hlo : ∀ x ∈ l.drop i, z.1 ≤ x.1) : l[i]? = some z := by
  have hA' : Asc (l.drop i) := List.Pairwise.sublist (List.drop_sublist i l) hA
  cases e : l.drop i with
  | nil => rw [e] at hz; cases hz
  | cons y r =>
    have h0 : l[i]? = some y := by
      have : (l.drop i)[0]? = some y := by rw [e]; rfl
      rwa [List.getElem?_drop, Nat.add_zero] at this
    rw [e] at hz hlo hA'
    rcases List.mem_cons.1 hz with rfl | hz
    · exact h0
    · have h1 := (List.pairwise_cons.1 hA').1 z hz
      have := hlo y (by simp)
      omega
theorem take_succ_mem {l : List (Int × Int)} {i : Nat} {z : Int × Int} (h : l[i]? = some z) {x : Int × Int} (hx : x ∈ l.take (i + 1)) : x ∈ l.take i ∨ x = z := by
  rw [List.take_add_one, h] at hx
  simpa using hx
theorem drop_succ_sub {l : List (Int × Int)} {i : Nat} {x : Int × Int} (hx : x ∈ l.drop (i + 1)) : x ∈ l.drop i := by
  rw [← List.drop_drop] at hx
  exact List.mem_of_mem_drop hx
theorem drop_succ_gt {l : List (Int × Int)} {i : Nat} {z : Int × Int} (hA : Asc l) (h : l[i]? = some z) {x : Int × Int} (hx : x ∈ l.drop (i + 1)) : z.1 < x.1 := by
  have hA' : Asc (l.drop i) := List.Pairwise.sublist (List.drop_sublist i l) hA
  rw [List.drop_eq_getElem_cons (List.getElem?_eq_some_iff.1 h).1, (List.getElem?_eq_some_iff.1 h).2] at hA'
  exact (List.pairwise_cons.1 hA').1 x hx
theorem mem_of_drop {l : List (Int × Int)} {i : Nat} {x : Int × Int} (hx : x ∈ l.drop i) : x ∈ l := List.mem_of_mem_drop hx

theorem checkE_of {n a k : Int} {L : List (Int × Int)} (t : TI n L) (n1 : 1 ≤ n) (n2 : n ≤ 256) (h : (a, k) ∈ L) : checkE a k n = 0 := by
  obtain ⟨b0, b1, b2, b3⟩ := t.blk h
  have := t.bound h
  simp only at b0 b1 b2 b3 this
  unfold checkE
  rw [if_neg (by omega), if_pos b3]

theorem TS.step {n : Int} {F T : List (Int × Int)} (h : Inv n F T) {i k : Nat} {at' : Int} (s : TS n F T i k at') (hlt : i < F.length ∨ k < T.length) :
    ∃ b, checkE at' b n = 0 ∧ 0 ≤ b ∧ b ≤ 6 ∧ ((F[i]? = some (at', b) ∧ TS n F T (i + 1) k (at' + sz b)) ∨ ((∀ x, F[i]? = some x → x.1 ≠ at') ∧ T[k]? = some (at', b) ∧ TS n F T i (k + 1) (at' + sz b))) := by
  have hn : at' < n := by
    rcases hlt with q | q
    · have hm : F[i]'q ∈ F.drop i := by rw [List.drop_eq_getElem_cons q]; exact List.mem_cons_self ..
      have h1 := s.fa _ hm
      have h2 := h.t.bound (h.memF (mem_of_drop hm))
      have := sz_pos (F[i]'q).2
      omega
    · have hm : T[k]'q ∈ T.drop k := by rw [List.drop_eq_getElem_cons q]; exact List.mem_cons_self ..
      have h1 := s.ta _ hm
      have h2 := h.t.bound (h.memT (mem_of_drop hm))
      have := sz_pos (T[k]'q).2
      omega
  obtain ⟨z, hz, pz⟩ := h.t.cov s.a0 hn
  have bz := h.t.blk hz
  have bnd := h.t.bound hz
  have sp := sz_pos z.2
  obtain ⟨p1, p2⟩ := pz
  have apart : ∀ y ∈ F ++ T, y ≠ z → z.1 ≤ y.1 → z.1 + sz z.2 ≤ y.1 := fun y hy hne hle => by
    rcases Int.lt_or_le y.1 (z.1 + sz z.2) with q | q
    · exact absurd (h.t.one hy hz (inn_at y) ⟨hle, q⟩) hne
    · exact q
  rcases List.mem_append.1 hz with hF | hT
  · rcases mem_take_drop i hF with q | q
    · have := s.fb z q; omega
    · have e : z.1 = at' := by have := s.fa z q; omega
      have hi := next_one h.fa q (fun x hx => by rw [e]; exact s.fa x hx)
      obtain ⟨a, b⟩ := z
      simp only at e p1 p2 sp bnd
      subst e
      have hck := checkE_of h.t h.n1 h.n2 hz
      refine ⟨b, hck, bz.2.1, bz.2.2.1, .inl ⟨hi, ?_⟩⟩
      refine ⟨(List.getElem?_eq_some_iff.1 hi).1, s.k1, by have := s.a0; omega, by omega, fun x hx => ?_, fun x hx => ?_, fun x hx => by have := s.tb x hx; omega, fun x hx => ?_⟩
      · rcases take_succ_mem hi hx with q | rfl
        · have := s.fb x q; omega
        · exact Int.le_refl _
      · have hgt := drop_succ_gt h.fa hi hx
        simp only at hgt
        exact apart x (h.memF (mem_of_drop hx)) (fun e => by rw [e] at hgt; simp only at hgt; omega) (by simp only; omega)
      · have hle := s.ta x hx
        exact apart x (h.memT (mem_of_drop hx)) (fun e => h.dis _ hF (e ▸ mem_of_drop hx)) hle
  · rcases mem_take_drop k hT with q | q
    · have := s.tb z q; omega
    · have e : z.1 = at' := by have := s.ta z q; omega
      have hi := next_one h.ta q (fun x hx => by rw [e]; exact s.ta x hx)
      obtain ⟨a, b⟩ := z
      simp only at e p1 p2 sp bnd
      subst e
      have hck := checkE_of h.t h.n1 h.n2 hz
      refine ⟨b, hck, bz.2.1, bz.2.2.1, .inr ⟨fun x hx hxe => ?_, hi, ?_⟩⟩
      · have hxm : x ∈ F := List.mem_of_getElem? hx
        have := h.t.same (h.memF hxm) hz hxe
        exact h.dis x hxm (this ▸ hT)
      refine ⟨s.i1, (List.getElem?_eq_some_iff.1 hi).1, by have := s.a0; omega, by omega, fun x hx => by have := s.fb x hx; omega, fun x hx => ?_, fun x hx => ?_, fun x hx => ?_⟩
      · have hle := s.fa x hx
        exact apart x (h.memF (mem_of_drop hx)) (fun e => h.dis x (mem_of_drop hx) (e ▸ hT)) hle
      · rcases take_succ_mem hi hx with q | rfl
        · have := s.tb x q; omega
        · exact Int.le_refl _
      · have hgt := drop_succ_gt h.ta hi hx
        simp only at hgt
        exact apart x (h.memT (mem_of_drop hx)) (fun e => by rw [e] at hgt; simp only at hgt; omega) (by simp only; omega)
theorem TS.fin {n : Int} {F T : List (Int × Int)} (h : Inv n F T) {at' : Int} (s : TS n F T F.length T.length at') : at' = n := by
  rcases Int.lt_or_le at' n with q | q
  · obtain ⟨z, hz, p1, p2⟩ := h.t.cov s.a0 q
    rcases List.mem_append.1 hz with q | q
    · have := s.fb z (by rwa [List.take_length]); omega
    · have := s.tb z (by rwa [List.take_length]); omega
  · have := s.a1; omega
end Go.Proofs.YtcooflachcimbaaDoor
