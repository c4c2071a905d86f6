/- Plain: of what a worker gave back, up to two magazines, it gets the last one first. -/
import Derived.Test.YtcokmiidgdmdlaaGreatDoorDPl
import Derived.Test.YtcokmiidgdmdlaaGreatDoorSFull
namespace Go.Proofs.YtcokmiidgdmdlaaGreatDoor
set_option linter.unusedSimpArgs false
set_option linter.unusedVariables false

/-- a hand behind so many gives from an empty one -/
def h0 (l : List Ob) (i : Nat) : Hd := if i ≤ 4 then (l.take i, []) else ((l.take i).drop 4, l.take 4)
def stH (l : List Ob) (i : Nat) (h : Hd) : Prop := h = h0 l i ∨ (i = 4 ∧ h = ([], l.take 4))
theorem take_snocO {l : List Ob} {i : Nat} {o : Ob} (h : l[i]? = some o) : l.take (i + 1) = l.take i ++ [o] := by rw [List.take_add_one, h]; rfl
theorem give_step {l : List Ob} {i : Nat} {o : Ob} (hl : l.length ≤ 8) (ho : l[i]? = some o) :
    ((fillD (h0 l i) []).1.1 ++ [o], (fillD (h0 l i) []).1.2) = h0 l (i + 1) ∧ (fillD (h0 l i) []).2 = [] := by
  have hi := (List.getElem?_eq_some_iff.1 ho).1
  rcases Nat.lt_trichotomy i 4 with q | q | q
  · have e : h0 l i = (l.take i, []) := by unfold h0; rw [if_pos (by omega)]
    have f : fillD (h0 l i) [] = ((l.take i, []), []) := by
      rw [e]; unfold fillD
      rw [if_neg (by simp only [List.length_take]; omega)]
    rw [f]
    refine ⟨?_, rfl⟩
    unfold h0
    rw [if_pos (by omega), take_snocO ho]
  · subst q
    have e : h0 l 4 = (l.take 4, []) := by unfold h0; rw [if_pos (by omega)]
    have f : fillD (h0 l 4) [] = (([], l.take 4), []) := by
      rw [e]; unfold fillD
      rw [if_pos (by simp only [List.length_take]; omega), if_pos rfl]
    rw [f]
    refine ⟨?_, rfl⟩
    unfold h0
    rw [if_neg (by omega), take_snocO ho, List.drop_append_of_le_length (by rw [List.length_take]; omega), List.drop_eq_nil_of_le (by rw [List.length_take]; omega)]
  · have e : h0 l i = ((l.take i).drop 4, l.take 4) := by unfold h0; rw [if_neg (by omega)]
    have f : fillD (h0 l i) [] = (((l.take i).drop 4, l.take 4), []) := by
      rw [e]; unfold fillD
      rw [if_neg (by simp only [List.length_take, List.length_drop]; omega)]
    rw [f]
    refine ⟨?_, rfl⟩
    unfold h0
    rw [if_neg (by omega), take_snocO ho, List.drop_append_of_le_length (by rw [List.length_take]; omega)]
theorem pop_step {l : List Ob} {i : Nat} {o : Ob} {h : Hd} (hl : l.length ≤ 8) (ho : l[i]? = some o) (hs : stH l (i + 1) h) :
    (loadD h []).1.1.getLast? = some o ∧ stH l i ((loadD h []).1.1.dropLast, (loadD h []).1.2) ∧ (loadD h []).2 = [] := by
  have hi := (List.getElem?_eq_some_iff.1 ho).1
  rcases hs with rfl | ⟨q, rfl⟩
  · by_cases q : i + 1 ≤ 4
    · have e : h0 l (i + 1) = (l.take i ++ [o], []) := by unfold h0; rw [if_pos q, take_snocO ho]
      have f : loadD (h0 l (i + 1)) [] = ((l.take i ++ [o], []), []) := by rw [e]; unfold loadD; rw [if_neg (by simp)]
      rw [f]
      refine ⟨by simp, .inl ?_, rfl⟩
      unfold h0
      rw [if_pos (by omega)]
      simp
    · have e : h0 l (i + 1) = ((l.take i).drop 4 ++ [o], l.take 4) := by
        unfold h0
        rw [if_neg q, take_snocO ho, List.drop_append_of_le_length (by rw [List.length_take]; omega)]
      have f : loadD (h0 l (i + 1)) [] = (((l.take i).drop 4 ++ [o], l.take 4), []) := by rw [e]; unfold loadD; rw [if_neg (by simp)]
      rw [f]
      refine ⟨by simp, ?_, rfl⟩
      simp only [List.dropLast_concat]
      by_cases q4 : i = 4
      · subst q4
        exact .inr ⟨rfl, by rw [List.drop_eq_nil_of_le (by rw [List.length_take]; omega)]⟩
      · left
        unfold h0
        rw [if_neg (by omega)]
  · obtain rfl : i = 3 := by omega
    have e : l.take 4 = l.take 3 ++ [o] := take_snocO ho
    have f : loadD (([], l.take 4) : Hd) [] = ((l.take 3 ++ [o], []), []) := by
      rw [e]; unfold loadD
      rw [if_pos rfl, if_neg (by simp)]
    rw [f]
    refine ⟨by simp, .inl ?_, rfl⟩
    unfold h0
    rw [if_pos (by omega)]
    simp
section
variable {e n p : Nat} {d : De} {k : Int}
theorem FullI.ord {c : Ca} (h : FullI p e n c) (hO : OrdZ [[0]] 1) : OrdZ [[0]] c.L.length := by
  obtain ⟨x, hx, _⟩ := h.one
  rw [hx]; exact hO
/-- a take from the cache, behind an empty hand and an empty pile -/
theorem ls_take (hO : OrdZ [[0]] 1) (hI : InvD e d) (hF : FullI p e n d.c) (hn : n < p * roomE e) (hk : handD d k = some ([], [])) (hP : d.P = []) :
    (takeD 0 [[0]] e d k 0 true).2.1 = 0 ∧ (takeD 0 [[0]] e d k 0 true).2.2 ∉ obsC e d.c.C ∧ (∀ x, x ∈ obsC e (takeD 0 [[0]] e d k 0 true).1.c.C ↔ x = (takeD 0 [[0]] e d k 0 true).2.2 ∨ x ∈ obsC e d.c.C) ∧
    (takeD 0 [[0]] e d k 0 true).1.H = d.H ∧ (takeD 0 [[0]] e d k 0 true).1.P = [] ∧ FullI p e (n + 1) (takeD 0 [[0]] e d k 0 true).1.c ∧ InvD e (takeD 0 [[0]] e d k 0 true).1 := by
  have ld : (loadD ([], []) d.P).1.1.getLast? = none := by rw [hP]; rfl
  have hi := takeD_inv (mn := 0) (O := [[0]]) (k := k) (v := 0) (u := true) (hF.ord hO) hI
  rw [takeD_cache hk ld] at hi ⊢
  obtain ⟨t1, t2, t3⟩ := hF.take (mn := 0) (O := [[0]]) hO hn
  rcases take_obs (mn := 0) (O := [[0]]) (hF.ord hO) hI.c 0 true with ⟨_, q1, q2⟩ | ⟨q, _⟩
  · exact ⟨t1, q1, q2, rfl, hP, t3, hi⟩
  · exact absurd t1 q
/-- a pop of the first hand -/
theorem ls_pop {l : List Ob} {i : Nat} {o : Ob} {h : Hd} {R : List Hd} (hl : l.length ≤ 8) (ho : l[i]? = some o) (hs : stH l (i + 1) h) (hH : d.H = h :: R) (hP : d.P = []) :
    (takeD 0 [[0]] e d 0 0 true).2 = (0, o) ∧ (∃ h', (takeD 0 [[0]] e d 0 0 true).1.H = h' :: R ∧ stH l i h') ∧ (takeD 0 [[0]] e d 0 0 true).1.P = [] ∧ (takeD 0 [[0]] e d 0 0 true).1.c = d.c := by
  have hk : handD d 0 = some h := by unfold handD; rw [if_neg (by omega), hH]; rfl
  obtain ⟨p1, p2, p3⟩ := pop_step hl ho hs
  rw [takeD_pop hk (o := o) (by rw [hP]; exact p1), hP, hH]
  exact ⟨rfl, ⟨_, rfl, p2⟩, p3, rfl⟩
/-- a give onto the first hand -/
theorem ls_give {l : List Ob} {i : Nat} {o : Ob} {R : List Hd} (hl : l.length ≤ 8) (ho : l[i]? = some o) (hH : d.H = h0 l i :: R) (hP : d.P = []) (hout : outD e d o = true) :
    (giveD e d 0 o).2 = 0 ∧ (giveD e d 0 o).1.H = h0 l (i + 1) :: R ∧ (giveD e d 0 o).1.P = [] ∧ (giveD e d 0 o).1.c = d.c := by
  have hk : handD d 0 = some (h0 l i) := by unfold handD; rw [if_neg (by omega), hH]; rfl
  obtain ⟨p1, p2⟩ := give_step hl ho
  have : giveD e d 0 o = (⟨d.c, d.H.set (0 : Int).toNat ((fillD (h0 l i) d.P).1.1 ++ [o], (fillD (h0 l i) d.P).1.2), (fillD (h0 l i) d.P).2⟩, 0) := by unfold giveD; rw [hk]; simp only [hout, if_true]
  rw [this, hP, hH, p1, p2]
  exact ⟨rfl, rfl, rfl, rfl⟩
theorem h0_mem {l : List Ob} {i : Nat} {x : Ob} : x ∈ (h0 l i).1 ++ (h0 l i).2 → x ∈ l.take i := by
  unfold h0
  split
  · simp
  · intro h
    rcases List.mem_append.1 h with q | q
    · exact List.mem_of_mem_drop q
    · have : l.take 4 = (l.take i).take 4 := by rw [List.take_take]; congr 1; omega
      simp only at q
      rw [this] at q
      exact List.mem_of_mem_take q
/-- what is given next is with somebody -/
theorem ls_out {l : List Ob} {i : Nat} {o : Ob} {R : List Hd} (hR : heldH R = []) (hnd : l.Nodup) (ho : l[i]? = some o) (hH : d.H = h0 l i :: R) (hP : d.P = []) (hs : ∀ x ∈ l, x ∈ obsC e d.c.C) : outD e d o = true := by
  refine outD_iff.2 ⟨hs o (List.mem_of_getElem? ho), fun q => ?_⟩
  unfold held at q
  rw [hH, hP] at q
  have e1 : heldH (h0 l i :: R) = (h0 l i).1 ++ (h0 l i).2 ++ heldH R := by unfold heldH; rw [List.flatMap_cons]
  rw [e1, hR] at q
  simp only [List.append_nil, List.flatten_nil] at q
  have hm := h0_mem q
  obtain ⟨j, hj, hg⟩ := List.mem_iff_getElem.1 hm
  have hj' : j < i := by rw [List.length_take] at hj; omega
  rw [List.getElem_take] at hg
  have hi := (List.getElem?_eq_some_iff.1 ho)
  obtain ⟨hil, hie⟩ := hi
  have := List.pairwise_iff_getElem.1 hnd j i (by omega) hil hj'
  rw [hg, hie] at this
  exact this rfl
end
end Go.Proofs.YtcokmiidgdmdlaaGreatDoor
