/- A drawn region is cut in two: its head goes in any order under a condition on the world; its tail goes in the text's order. -/
import Derived.StillTail
import Derived.Deep.RegionHeld3
namespace Go.Proofs.YtcokmiidgdmdlaaGreatDoor
open Go
set_option linter.unusedSimpArgs false
set_option linter.unusedVariables false
section
variable {P : Program} {md : Region.Mode} {l : List Oper} {n : Nat}

/-- where a head of n operations ends, and the rest waits for each of them, and goes in order -/
def cutB (md : Region.Mode) (l : List Oper) (n : Nat) : Bool :=
  decide (n < l.length) && Region.sinkB md l.toArray n && Region.chainB md l.toArray n &&
  ((List.range n).all fun j => match l[j]? with
    | some o => (o.after.all fun e => decide (e.on < j)) && (match o.guard with | some (g, _) => decide (g < n) | none => true)
    | none => false) &&
  Region.seqB md l.toArray (l.length - n) n (List.replicate n true ++ List.replicate (l.length - n) false).toArray
/-- the post of the head: the tail -/
def headQ (P : Program) (l : List Oper) (n : Nat) (Q : Exit → Act → World → Prop) : Exit → Act → World → Prop
  | .normal, a, w => wpList P l.toArray Q (l.drop n) a w
  | e, a, w => Q e a w

structure CutRel (l : List Oper) (n : Nat) (listed L : Array Bool) : Prop where
  s1 : listed.size = n
  s2 : L.size = l.length
  eq : ∀ i, i < n → L[i]? = listed[i]?
  tl : ∀ t, n ≤ t → t < l.length → L.getD t true = false

theorem wpAny_more {ops : Array Oper} {Q : Exit → Act → World → Prop} : ∀ (f : Nat) (listed : Array Bool) (a : Act) (w : World), wpAny P md ops Q f listed a w → wpAny P md ops Q (f + 1) listed a w
  | 0, _, _, _, h => ⟨fun _ => h.2, fun i hi => by rw [h.1] at hi; cases hi⟩
  | f + 1, _, _, _, h => ⟨h.1, fun i hi => wpOp_mono (fun a' w' h' => wpAny_more f _ a' w' h') (h.2 i hi)⟩
theorem wpAny_more_add {ops : Array Oper} {Q : Exit → Act → World → Prop} (f k : Nat) (listed : Array Bool) (a : Act) (w : World) (h : wpAny P md ops Q f listed a w) : wpAny P md ops Q (f + k) listed a w := by
  induction k with
  | zero => exact h
  | succ k ih => exact wpAny_more _ _ _ _ ih

theorem letsOut_head {Q : Exit → Act → World → Prop} (h : LetsOut (headQ P l n Q)) : LetsOut Q := h
theorem wp_head {o : Oper} {a : Act} {w : World} {K : Act → World → Prop} {Q : Exit → Act → World → Prop} (h : o.wp P a w K (headQ P l n Q)) : o.wp P a w K Q := by
  unfold Oper.wp at *
  generalize (execOp a.eval o).run P w = r at *
  cases r with
  | ok m w' =>
    cases m <;> simp only [Oper.upon] at h ⊢ <;> first | exact h | exact Calls.mono h (fun e w'' he => by cases e <;> exact he)
  | halt x w' => cases x <;> simp only [Oper.upon] at h ⊢ <;> exact h

theorem CutRel.set {listed L : Array Bool} {i : Nat} (h : CutRel l n listed L) (hi : i < n) : CutRel l n (listed.setIfInBounds i true) (L.setIfInBounds i true) :=
  ⟨by simp [h.s1], by simp [h.s2], fun j hj => by
    by_cases hij : i = j
    · subst hij
      have h1 := h.s1
      have h2 := h.s2
      have h3 := h.eq i hi
      by_cases hl : i < l.length
      · simp [h1, h2, hi, hl]
      · rw [Array.getElem?_eq_none (by omega)] at h3
        rw [Array.getElem?_eq_getElem (by omega)] at h3
        cases h3
    · simp [Array.getElem?_setIfInBounds_ne hij, h.eq j hj], fun t ht ht' => by
    rw [getD_set_ne true (by omega)]; exact h.tl t ht ht'⟩
theorem CutRel.getD {listed L : Array Bool} {i : Nat} (h : CutRel l n listed L) (hi : i < n) (d : Bool) : L.getD i d = listed.getD i d := by
  have := h.eq i hi
  simp [this]

theorem cut_ready {listed L : Array Bool} (hB : cutB md l n = true) (h : CutRel l n listed L) {i : Nat} (hi : i < n) :
    i ∈ Region.ready md l.toArray L ↔ i ∈ Region.ready md (l.take n).toArray listed := by
  simp only [cutB, Bool.and_eq_true, decide_eq_true_eq] at hB
  obtain ⟨⟨⟨⟨hn, _⟩, _⟩, hA⟩, _⟩ := hB
  have hAi := List.all_eq_true.1 hA i (List.mem_range.2 hi)
  rw [mem_ready, mem_ready, h.getD hi true]
  have e1 : (l.take n).toArray[i]? = l.toArray[i]? := by simp [hi]
  rw [e1]
  refine and_congr_right fun _ => exists_congr fun o => and_congr_right fun ho => ?_
  have ho' : l[i]? = some o := by simpa using ho
  rw [ho'] at hAi
  simp only [Bool.and_eq_true] at hAi
  have hE := Array.all_eq_true_iff_forall_mem.1 hAi.1
  exact forall_congr' fun e => forall_congr' fun he => forall_congr' fun _ => by
    rw [h.getD (by have := of_decide_eq_true (hE e he); omega)]

theorem cut_wanted {o : Oper} {tmps : Array Value} (hB : cutB md l n = true) {i : Nat} (hi : i < n) (ho : l[i]? = some o) :
    Region.wanted o (yielded (l.take n).toArray tmps) = Region.wanted o (yielded l.toArray tmps) := by
  simp only [cutB, Bool.and_eq_true, decide_eq_true_eq] at hB
  obtain ⟨⟨⟨⟨hn, _⟩, _⟩, hA⟩, _⟩ := hB
  have hAi := List.all_eq_true.1 hA i (List.mem_range.2 hi)
  rw [ho] at hAi
  simp only [Bool.and_eq_true] at hAi
  unfold Region.wanted
  cases hg : o.guard with
  | none => rfl
  | some p =>
    obtain ⟨g, b⟩ := p
    have hgn : g < n := by
      have := hAi.2
      rw [hg] at this
      simpa using this
    have e1 : yielded (l.take n).toArray tmps g = yielded l.toArray tmps g := by unfold yielded; simp [hgn]
    simp only [e1]

theorem cut_full {listed L : Array Bool} (h : CutRel l n listed L) (hn : n < l.length) (ha : ∀ i, i < n → listed.getD i false = true) : L = (List.replicate n true ++ List.replicate (l.length - n) false).toArray := by
  apply Array.ext
  · simp [h.s2]; omega
  · intro i h1 h2
    have hl : i < l.length := by have := h.s2; omega
    by_cases hi : i < n
    · have e1 := h.eq i hi
      have e2 := ha i hi
      have hs : i < listed.size := by rw [h.s1]; exact hi
      rw [Array.getElem?_eq_getElem h1, Array.getElem?_eq_getElem hs] at e1
      have e3 : listed[i] = true := by simpa [hs] using e2
      have e4 := Option.some.inj e1
      rw [e4, e3]
      simp [List.getElem_append, hi]
    · have e1 := h.tl i (by omega) hl
      have e3 : L[i] = false := by simpa [h1] using e1
      rw [e3]
      simp [List.getElem_append, hi]
theorem cut_all {listed L : Array Bool} (hB : cutB md l n = true) (h : CutRel l n listed L) (he : Region.ready md (l.take n).toArray listed = []) : ∀ i, i < n → listed.getD i false = true := by
  simp only [cutB, Bool.and_eq_true, decide_eq_true_eq] at hB
  obtain ⟨⟨⟨⟨hn, _⟩, _⟩, hA⟩, _⟩ := hB
  intro i
  induction i using Nat.strongRecOn with
  | _ i ih =>
    intro hi
    cases hl : listed.getD i false with
    | true => rfl
    | false =>
      have hAi := List.all_eq_true.1 hA i (List.mem_range.2 hi)
      have hil : i < l.length := by omega
      rw [List.getElem?_eq_getElem hil] at hAi
      simp only [Bool.and_eq_true] at hAi
      have hE := Array.all_eq_true_iff_forall_mem.1 hAi.1
      have : i ∈ Region.ready md (l.take n).toArray listed := mem_ready.2 ⟨getD_in (by rw [h.s1]; exact hi) hl, l[i], by simp [hi, hil], fun e he _ => by
        have := of_decide_eq_true (hE e he)
        exact ih e.on this (by omega)⟩
      rw [he] at this
      cases this
theorem cut_go {Q : Exit → Act → World → Prop} {listed L : Array Bool} {a : Act} {w : World} (hB : cutB md l n = true) (h : CutRel l n listed L) (he : Region.ready md (l.take n).toArray listed = [])
    (hQ : wpList P l.toArray Q (l.drop n) a w) : wpAny P md l.toArray Q (l.drop n).length L a w := by
  have ha := cut_all hB h he
  simp only [cutB, Bool.and_eq_true, decide_eq_true_eq] at hB
  obtain ⟨⟨⟨⟨hn, _⟩, _⟩, _⟩, hseq⟩ := hB
  have e := cut_full h hn ha
  subst e
  exact wpAny_of_seq (l.drop n) n _ a w (fun j => by simp [List.getElem?_drop]) (by simpa using hseq) hQ

theorem cut_any {Q : Exit → Act → World → Prop} (hB : cutB md l n = true) :
    ∀ (f : Nat) (listed L : Array Bool) (a : Act) (w : World), CutRel l n listed L → HeadInv md l.toArray n L →
      wpAny P md (l.take n).toArray (headQ P l n Q) f listed a w → wpAny P md l.toArray Q ((l.drop n).length + f) L a w := by
  have hB' := hB
  simp only [cutB, Bool.and_eq_true, decide_eq_true_eq] at hB'
  obtain ⟨⟨⟨⟨hn, hs⟩, hc⟩, hA⟩, _⟩ := hB'
  intro f
  induction f with
  | zero =>
    intro listed L a w hr inv h
    exact cut_go hB hr h.1 h.2
  | succ f ih =>
    intro listed L a w hr inv h
    by_cases he : Region.ready md (l.take n).toArray listed = []
    · exact wpAny_more_add _ (f + 1) _ _ _ (cut_go hB hr he (h.1 he))
    · obtain ⟨i0, hi0⟩ := List.exists_mem_of_ne_nil _ he
      have hi0n : i0 < n := by
        obtain ⟨_, o, ho, _⟩ := mem_ready.1 hi0
        have := (Array.getElem?_eq_some_iff.1 ho).1
        simp at this; omega
      have hun : L.getD i0 true = false := by rw [hr.getD hi0n]; exact (mem_ready.1 hi0).1
      have hin : ∀ i ∈ Region.ready md l.toArray L, i < n := fun i hi => by
        rcases Nat.lt_or_ge i n with q | q
        · exact q
        · exact absurd hi (tail_waits hs hc (by simpa using hn) inv _ i0 rfl hi0n hun i q)
      refine ⟨fun h0 => ?_, fun i hi => ?_⟩
      · have := (cut_ready hB hr hi0n).2 hi0
        rw [h0] at this; cases this
      · have hin' := hin i hi
        have h1 := h.2 i ((cut_ready hB hr hin').1 hi)
        have hil : i < l.length := by omega
        have e1 : (l.take n).toArray[i]? = some l[i] := by simp [hin', hil]
        have e2 : l.toArray[i]? = some l[i] := by simp [hil]
        have hst : ∀ a' w', wpAny P md (l.take n).toArray (headQ P l n Q) f (listed.setIfInBounds i true) a' w' → wpAny P md l.toArray Q ((l.drop n).length + f) (L.setIfInBounds i true) a' w' :=
          fun a' w' h' => ih _ _ a' w' (hr.set hin') (inv.set hi hin') h'
        unfold wpOp at h1 ⊢
        simp only [e1] at h1
        simp only [e2]
        rw [cut_wanted hB hin' (List.getElem?_eq_getElem hil)] at h1
        split
        · rename_i hw
          simp only [hw, if_true] at h1
          rcases h1 with h1 | h1
          · exact .inl (Oper.wp_mono hst (wp_head h1))
          · exact .inr ⟨h1.1, letsOut_head h1.2⟩
        · rename_i hw
          simp only [hw] at h1
          exact hst _ _ h1

/-- the region, its head under a condition on the world -/
theorem wp_region_cut {S : World → Prop} {id : Nat} {Q : Exit → Act → World → Prop} {a : Act} {w : World} (n : Nat) (L : Array Bool) (hL : L = (List.replicate n false).toArray) (hm : P.follows .mixedOrders = true) (hB : cutB .any l n = true) (hS : S w.drew)
    (h : S w.drew → wpAnyH P .any (l.take n).toArray (headQ P l n Q) S n L a w.drew) : (Code.region id l.toArray true).wp P Q a w := by
  have hB' := hB
  simp only [cutB, Bool.and_eq_true, decide_eq_true_eq] at hB'
  obtain ⟨⟨⟨⟨hn, hs⟩, hc⟩, hA⟩, _⟩ := hB'
  refine wp_region_any hm ?_
  have hsz : (l.take n).toArray.size = n := by simp; omega
  have h0 := h hS
  rw [hL] at h0
  have h1 := wpAny_of_held _ _ _ _ h0
  have inv0 : HeadInv .any l.toArray n (Array.replicate l.toArray.size false) :=
    ⟨by simp, fun j oj _ hl => (by rw [getD_replicate_false] at hl; cases hl), fun t _ ht => getD_in (by simpa using ht) (getD_replicate_false _ _)⟩
  have rel0 : CutRel l n (List.replicate n false).toArray (Array.replicate l.toArray.size false) :=
    ⟨by simp, by simp, fun i hi => by
      have h1 : i < l.length := by omega
      simp [h1, hi, Array.getElem?_replicate], fun t _ ht => getD_in (by simpa using ht) (getD_replicate_false _ _)⟩
  have h2 := cut_any (Q := Q) hB _ _ _ a w.drew rel0 inv0 h1
  have e : (l.drop n).length + n = l.toArray.size := by simp; omega
  rw [e] at h2
  exact h2
/-- an operation of a written-out list is taken first -/
theorem cut_take {S : World → Prop} {Q : Exit → Act → World → Prop} {i : Nat} {oi : Oper} {v : Value} {fuel : Nat} {listed : Array Bool} {a : Act} {w : World} (hi : l[i]? = some oi)
    (hs : Region.noSelect l.toArray = true) (hf : Region.free md l.toArray listed i = true) (hr : (Region.ready md l.toArray listed).contains i = true)
    (hQ : ∀ c a w, Q (.panic c) (a.put oi.dst v) w → Q (.panic c) a w) (hy : YieldsIf P l.toArray S oi v a) (hS : S w)
    (h : wpAnyH P md l.toArray Q S fuel (listed.setIfInBounds i true) (a.put oi.dst v) w) : wpAnyH P md l.toArray Q S (fuel + 1) listed a w :=
  wpAnyH_take (by simpa using hi) hs hf hr hQ hy hS h
/-- an operation of a written-out list comes up alone -/
theorem cut_one {S : World → Prop} {Q : Exit → Act → World → Prop} {i : Nat} {o : Oper} {fuel : Nat} {listed : Array Bool} {a : Act} {w : World} (hr : Region.ready md l.toArray listed = [i]) (ho : l[i]? = some o)
    (h : AllReadyH P md l.toArray Q S fuel listed a w [i]) : wpAnyH P md l.toArray Q S (fuel + 1) listed a w := wpAnyH_ready hr (by simp) h
theorem cut_cons {l : List Oper} {i : Nat} {o : Oper} (ho : l[i]? = some o) : l.toArray[i]? = some o := by simpa using ho
end
end Go.Proofs.YtcokmiidgdmdlaaGreatDoor
