/- Lemmas and contracts for the claim's last text: DMo, DCutO, RowAD, MagOut. -/
import Derived.Test.YtcokmiidgdmdlaaGreatDoorMo02
import Derived.Test.YtcokmiidgdmdlaaGreatDoorMo12
import Derived.Test.YtcokmiidgdmdlaaGreatDoorMo17
namespace Go.Proofs.YtcokmiidgdmdlaaGreatDoor
set_option linter.unusedSimpArgs false
set_option linter.unusedVariables false

/-- what the cache has is out (l), or lies in magazines -/
structure MoI (e : Nat) (l : List Ob) (d : De) : Prop where
  nd : l.Nodup
  out : ∀ x ∈ l, x ∉ held d
  iff : ∀ x, x ∈ obsC e d.c.C ↔ x ∈ l ∨ x ∈ held d
section
variable {mn : Int} {O : List (List Int)} {e : Nat} {d : De} {k v : Int} {u : Bool} {l : List Ob} {o : Ob}
theorem MoI.snoc (h : MoI e l d) (ho : o ∉ l) {d' : De} (h1 : o ∉ held d') (h2 : ∀ x ∈ held d', x ∈ held d) (h3 : ∀ x, x ∈ obsC e d'.c.C ↔ x = o ∨ x ∈ l ∨ x ∈ held d') : MoI e (l ++ [o]) d' := by
  refine ⟨?_, fun x hx => ?_, fun x => ?_⟩
  · rw [List.nodup_append]
    refine ⟨h.nd, by simp, fun a ha b hb q => ?_⟩
    simp at hb
    subst hb q
    exact ho ha
  · rcases List.mem_append.1 hx with q | q
    · exact fun r => h.out x q (h2 x r)
    · simp at q; subst q; exact h1
  · rw [h3]
    simp
    constructor
    · rintro (q | q | q)
      · exact .inl (.inr q)
      · exact .inl (.inl q)
      · exact .inr q
    · rintro ((q | q) | q)
      · exact .inr (.inl q)
      · exact .inl q
      · exact .inr (.inr q)
theorem MoI.take (hO : OrdZ O d.c.L.length) (hI : InvD e d) (h : MoI e l d) (k v : Int) (u : Bool) :
    ((takeD mn O e d k v u).2.1 = 0 ∧ (takeD mn O e d k v u).2.2 ∉ l ∧ MoI e (l ++ [(takeD mn O e d k v u).2.2]) (takeD mn O e d k v u).1) ∨
    ((takeD mn O e d k v u).2.1 ≠ 0 ∧ MoI e l (takeD mn O e d k v u).1) := by
  cases hh : handD d k with
  | none => rw [takeD_bad hh]; exact .inr ⟨by simp, h⟩
  | some g =>
    cases hl : (loadD g d.P).1.1.getLast? with
    | some o =>
      have hc := pop_cnt (mn := mn) (O := O) (e := e) (v := v) (u := u) hh hl
      have e2 : (takeD mn O e d k v u).2 = (0, o) := by rw [takeD_pop hh hl]
      have ec : (takeD mn O e d k v u).1.c = d.c := by rw [takeD_pop hh hl]
      have hoh : o ∈ held d := List.count_pos_iff.1 (by have h2 := hc o; simp only [if_true] at h2; omega)
      rw [e2]
      have hol : o ∉ l := fun q => h.out o q hoh
      have hn : o ∉ held (takeD mn O e d k v u).1 := fun q => by
        have h1 := List.count_pos_iff.2 q; have h2 := hc o; have h3 := (hI.cnt o).1; simp only [if_true] at h2; omega
      have hs : ∀ x ∈ held (takeD mn O e d k v u).1, x ∈ held d := fun x q => List.count_pos_iff.1 (by have := List.count_pos_iff.2 q; have := hc x; omega)
      refine .inl ⟨rfl, hol, h.snoc hol hn hs fun x => ?_⟩
      rw [ec, h.iff]
      constructor
      · rintro (q | q)
        · exact .inr (.inl q)
        · by_cases hx : x = o
          · exact .inl hx
          · refine .inr (.inr (List.count_pos_iff.1 ?_))
            have := List.count_pos_iff.2 q; have := hc x
            rw [if_neg (fun r => hx r.symm)] at this
            omega
      · rintro (q | q | q)
        · subst q; exact .inr hoh
        · exact .inl q
        · exact .inr (hs x q)
    | none =>
      rw [takeD_cache hh hl]
      have eh : held ⟨(takeC mn O e d.c v u).1, d.H, d.P⟩ = held d := rfl
      rcases take_obs (mn := mn) (O := O) hO hI.c v u with ⟨t1, t2, t3⟩ | ⟨t1, t2⟩
      · have hol : (takeC mn O e d.c v u).2.2 ∉ l := fun q => t2 ((h.iff _).2 (.inl q))
        refine .inl ⟨t1, hol, h.snoc hol (fun q => t2 ((h.iff _).2 (.inr q))) (fun x q => q) fun x => ?_⟩
        rw [eh, t3, h.iff]
      · refine .inr ⟨t1, h.nd, h.out, fun x => ?_⟩
        show x ∈ obsC e (takeC mn O e d.c v u).1.C ↔ _
        rw [t2]; exact h.iff x
theorem takeD_hands : (takeD mn O e d k v u).1.H.length = d.H.length := by
  cases hh : handD d k with
  | none => rw [takeD_bad hh]
  | some g =>
    cases hl : (loadD g d.P).1.1.getLast? with
    | some o => rw [takeD_pop hh hl]; simp
    | none => rw [takeD_cache hh hl]
theorem giveD_hands : (giveD e d k o).1.H.length = d.H.length := by
  unfold giveD
  split
  · rfl
  · split
    · simp
    · rfl
theorem MoI.outD (h : MoI e l d) (ho : o ∈ l) : outD e d o = true := outD_iff.2 ⟨(h.iff o).2 (.inl ho), h.out o ho⟩
theorem give_no {d : De} {g : Hd} (hg : handD d k = some g) (hno : Go.Proofs.YtcokmiidgdmdlaaGreatDoor.outD e d o = false) : giveD e d k o = (d, 9) := by
  unfold giveD
  rw [hg]
  simp only [hno]
  rfl
theorem give_twice (hh : (handD d k).isSome = true) (ho : Go.Proofs.YtcokmiidgdmdlaaGreatDoor.outD e d o = true) : (giveD e d k o).2 = 0 ∧ giveD e (giveD e d k o).1 k o = ((giveD e d k o).1, 9) := by
  obtain ⟨g, hg⟩ := Option.isSome_iff_exists.1 hh
  have hc := give_cnt hg ho o
  obtain ⟨_, h1, h2, _⟩ := handD_some hg
  have he : giveD e d k o = (⟨d.c, d.H.set k.toNat ((fillD g d.P).1.1 ++ [o], (fillD g d.P).1.2), (fillD g d.P).2⟩, 0) := by unfold giveD; rw [hg]; simp only [ho, if_true]
  refine ⟨by rw [he], ?_⟩
  have hm : o ∈ held (giveD e d k o).1 := List.count_pos_iff.1 (by simp at hc; omega)
  have hno : Go.Proofs.YtcokmiidgdmdlaaGreatDoor.outD e (giveD e d k o).1 o = false := by
    cases q : Go.Proofs.YtcokmiidgdmdlaaGreatDoor.outD e (giveD e d k o).1 o with
    | false => rfl
    | true => exact absurd hm (outD_iff.1 q).2
  have hk : ∃ g', handD (giveD e d k o).1 k = some g' := by
    rw [he]; unfold handD
    rw [if_neg (by omega)]
    exact ⟨_, List.getElem?_set_self h2⟩
  obtain ⟨g', hg'⟩ := hk
  exact give_no hg' hno
theorem mem_cut {l : List Ob} (hn : l.Nodup) {i : Nat} {o : Ob} (ho : l[i]? = some o) (x : Ob) : x ∈ l.take i ++ l.drop (i + 1) ↔ x ∈ l ∧ x ≠ o := by
  obtain ⟨hi, he⟩ := List.getElem?_eq_some_iff.1 ho
  have e : l = l.take i ++ o :: l.drop (i + 1) := by
    conv => lhs; rw [← List.take_append_drop i l]
    rw [List.drop_eq_getElem_cons hi, he]
  have hn' := hn
  rw [e] at hn'
  have hp := List.nodup_append.1 hn'
  have h1 : o ∉ l.take i := fun q => hp.2.2 o q o (by simp) rfl
  have h2 : o ∉ l.drop (i + 1) := (List.nodup_cons.1 hp.2.1).1
  constructor
  · intro q
    refine ⟨?_, fun r => ?_⟩
    · rw [e]
      rcases List.mem_append.1 q with q | q
      · exact List.mem_append_left _ q
      · exact List.mem_append_right _ (List.mem_cons_of_mem _ q)
    · subst r
      rcases List.mem_append.1 q with q | q
      · exact h1 q
      · exact h2 q
  · rintro ⟨q, r⟩
    rw [e] at q
    rcases List.mem_append.1 q with q | q
    · exact List.mem_append_left _ q
    · rcases List.mem_cons.1 q with q | q
      · exact absurd q r
      · exact List.mem_append_right _ q
theorem MoI.give (h : MoI e l d) (hh : (handD d k).isSome = true) {i : Nat} (ho : l[i]? = some o) : MoI e (l.take i ++ l.drop (i + 1)) (giveD e d k o).1 := by
  have hol := List.mem_of_getElem? ho
  have hout := h.outD hol
  obtain ⟨g, hg⟩ := Option.isSome_iff_exists.1 hh
  have hc := give_cnt hg hout
  have ec : (giveD e d k o).1.c = d.c := by unfold giveD; rw [hg]; simp only [hout, if_true]
  have hm : ∀ x, x ∈ held (giveD e d k o).1 ↔ x ∈ held d ∨ x = o := fun x => by
    rw [← List.count_pos_iff, ← List.count_pos_iff, hc x]
    by_cases q : o = x
    · subst q; simp
    · rw [if_neg q]
      constructor
      · intro r; exact .inl (by omega)
      · rintro (r | r)
        · omega
        · exact absurd r.symm q
  refine ⟨?_, fun x hx => ?_, fun x => ?_⟩
  · have : (l.take i ++ l.drop (i + 1)).Sublist l := by
      have := (List.Sublist.refl (l.take i)).append (List.drop_sublist_drop_left l (Nat.le_succ i))
      rw [List.take_append_drop] at this
      exact this
    exact h.nd.sublist this
  · obtain ⟨a, b⟩ := (mem_cut h.nd ho x).1 hx
    rw [hm]
    rintro (q | q)
    · exact h.out x a q
    · exact b q
  · rw [ec, h.iff, hm, mem_cut h.nd ho]
    constructor
    · rintro (q | q)
      · by_cases r : x = o
        · exact .inr (.inr r)
        · exact .inl ⟨q, r⟩
      · exact .inr (.inl q)
    · rintro (⟨q, _⟩ | q | q)
      · exact .inl q
      · exact .inr q
      · subst q; exact .inl hol
theorem MoI.drain (hI : InvD e d) (h : MoI e l d) (k : Int) : MoI e l (drainD e d k).1 := by
  cases hh : handD d k with
  | none =>
    have : drainD e d k = (d, 2, 0) := by unfold drainD; rw [hh]
    rw [this]; exact h
  | some g =>
    obtain ⟨k0, h1, h2, _⟩ := handD_some hh
    have he : drainD e d k = (⟨backC e d.c (g.1 ++ g.2), d.H.set k.toNat ([], []), d.P⟩, 0, (g.1 ++ g.2).length) := by unfold drainD; rw [hh]
    rw [he]
    obtain ⟨b1, b2, b3⟩ := backC_inv (l := g.1 ++ g.2) hI.c
    have hm : ∀ a, (held ⟨backC e d.c (g.1 ++ g.2), d.H.set k.toNat ([], []), d.P⟩).count a + (g.1 ++ g.2).count a = (held d).count a := fun a => by
      have c1 := heldH_cnt a (([], []) : Hd) h1
      rw [held_cnt, held_cnt, List.count_append]
      simp only [List.count_nil] at c1 ⊢
      omega
    generalize hD : (⟨backC e d.c (g.1 ++ g.2), d.H.set k.toNat ([], []), d.P⟩ : De) = D at hm ⊢
    have hDc : D.c = backC e d.c (g.1 ++ g.2) := by rw [← hD]
    have hs : ∀ x ∈ held D, x ∈ held d := fun x q => List.count_pos_iff.1 (by have := List.count_pos_iff.2 q; have := hm x; omega)
    simp only
    refine ⟨h.nd, fun x hx q => h.out x hx (hs x q), fun x => ?_⟩
    rw [hDc, b3, h.iff]
    constructor
    · rintro ⟨q | q, r⟩
      · exact .inl q
      · refine .inr (List.count_pos_iff.1 ?_)
        have := List.count_pos_iff.2 q; have := hm x; have := List.count_eq_zero.2 r; omega
    · rintro (q | q)
      · refine ⟨.inl q, fun r => h.out x q (List.count_pos_iff.1 ?_)⟩
        have := List.count_pos_iff.2 r; have := hm x; omega
      · refine ⟨.inr (hs x q), fun r => ?_⟩
        have := List.count_pos_iff.2 r; have := List.count_pos_iff.2 q; have := hm x; have := (hI.cnt x).1; omega
theorem MoI.empty (hI : InvD e d) (h : MoI e l d) : MoI e l (emptyD e d).1 := by
  obtain ⟨b1, b2, b3⟩ := backC_inv (l := d.P.flatten) hI.c
  have hm : ∀ a, (held (emptyD e d).1).count a + d.P.flatten.count a = (held d).count a := fun a => by
    rw [held_cnt, held_cnt]; simp [emptyD]
  have hs : ∀ x ∈ held (emptyD e d).1, x ∈ held d := fun x q => List.count_pos_iff.1 (by have := List.count_pos_iff.2 q; have := hm x; omega)
  refine ⟨h.nd, fun x hx q => h.out x hx (hs x q), fun x => ?_⟩
  show x ∈ obsC e (backC e d.c d.P.flatten).C ↔ _
  rw [b3, h.iff]
  constructor
  · rintro ⟨q | q, r⟩
    · exact .inl q
    · refine .inr (List.count_pos_iff.1 ?_)
      have := List.count_pos_iff.2 q; have := hm x; have := List.count_eq_zero.2 r; omega
  · rintro (q | q)
    · refine ⟨.inl q, fun r => h.out x q (List.count_pos_iff.1 ?_)⟩
      have := List.count_pos_iff.2 r; have := hm x; omega
    · refine ⟨.inr (hs x q), fun r => ?_⟩
      have := List.count_pos_iff.2 r; have := List.count_pos_iff.2 q; have := hm x; have := (hI.cnt x).1; omega
/-- so many hands are empty, and the pile is -/
def NoH (n : Nat) (d : De) : Prop := d.P = [] ∧ ∀ i, i < n → i < d.H.length → d.H[i]? = some ([], [])
theorem NoH.empty : NoH 0 (emptyD e d).1 := ⟨rfl, fun i h => by omega⟩
theorem NoH.drain {n : Nat} (h : NoH n d) (hn : n < d.H.length) : (drainD e d n).2.1 = 0 ∧ NoH (n + 1) (drainD e d n).1 ∧ (drainD e d n).1.H.length = d.H.length := by
  have hh : handD d n = some (d.H[n]) := by unfold handD; rw [if_neg (by omega)]; simp
  have he : drainD e d n = (⟨backC e d.c ((d.H[n]).1 ++ (d.H[n]).2), d.H.set (n : Int).toNat ([], []), d.P⟩, 0, ((d.H[n]).1 ++ (d.H[n]).2).length) := by unfold drainD; rw [hh]
  rw [he]
  refine ⟨rfl, ⟨h.1, fun i hi hl => ?_⟩, by simp⟩
  simp only [List.length_set, Int.toNat_natCast] at hl ⊢
  by_cases q : n = i
  · subst q; exact List.getElem?_set_self hn
  · rw [List.getElem?_set_ne q]; exact h.2 i (by omega) hl
theorem NoH.held (h : NoH d.H.length d) : held d = [] := by
  unfold Go.Proofs.YtcokmiidgdmdlaaGreatDoor.held heldH
  rw [h.1]
  simp only [List.flatten_nil, List.append_nil, List.flatMap_eq_nil_iff]
  intro g hg
  obtain ⟨i, hi, rfl⟩ := List.mem_iff_getElem.1 hg
  have := h.2 i hi hi
  rw [List.getElem?_eq_getElem hi] at this
  rw [Option.some.inj this]; rfl
theorem MoI.end_ (hI : InvD e d) (h : MoI e l d) (hh : held d = []) : (obsC e d.c.C).length = l.length := by
  have h1 : ∀ x, x ∈ obsC e d.c.C ↔ x ∈ l := fun x => by rw [h.iff, hh]; simp
  have hn : (obsC e d.c.C).Nodup := (obsC_sorted hI.c).imp fun {a b} hab q => by
    subst q
    unfold behindO at hab
    have := hI.c.e1; omega
  have a := nodup_len hn fun x hx => (h1 x).1 hx
  have b := nodup_len h.nd fun x hx => (h1 x).2 hx
  omega
end
end Go.Proofs.YtcokmiidgdmdlaaGreatDoor

namespace Go.Proofs.YtcokmiidgdmdlaaGreatDoor
open Go.RowKit Go.Maps
set_option linter.unusedSimpArgs false
set_option linter.unusedVariables false

theorem own_srcs {base : Nat} {w : World} {q : Option Addr} {k : Nat} {l : List Ob} (h : w.ownsRow base 72 2 (.slice q l.length k) l.length (encB l)) {i : Nat} {o : Ob} (ho : l[i]? = some o) :
    ∃ g, q = some ⟨g, 0, none⟩ ∧ l.length ≤ k ∧ k ≤ maxLen ∧ g < w.heap.size ∧ base ≤ g ∧ w.cell? ⟨g, i * 2, none⟩ = some (.int .i64 o.1) ∧ w.cell? ⟨g, i * 2 + 1, none⟩ = some (.int .i64 o.2) ∧ SrcV w (some ⟨g, 0, none⟩) (encB (l.take i)) ∧ SrcV w (some ⟨g, (i + 1) * 2, none⟩) (encB (l.drop (i + 1))) := by
  obtain ⟨g, e, h1, h2, h3, h4, h5⟩ := own_obs h ho
  subst e
  have il := (List.getElem?_eq_some_iff.1 ho).1
  refine ⟨g, rfl, h1, h2, h3, (h.lt g rfl).1, h4, h5, .inr ⟨_, rfl, fun j u hj => ?_⟩, .inr ⟨_, rfl, fun j u hj => ?_⟩⟩
  · have e : encB l = encB (l.take i) ++ encB (l.drop i) := by rw [← encB_append, List.take_append_drop]
    have jl := (List.getElem?_eq_some_iff.1 hj).1
    rw [addr_add, Nat.zero_add, h.cellAt j (by rw [encB_length, List.length_take] at jl; omega), e, List.getElem?_append_left jl]
    exact hj
  · have e : encB l = encB (l.take (i + 1)) ++ encB (l.drop (i + 1)) := by rw [← encB_append, List.take_append_drop]
    have jl := (List.getElem?_eq_some_iff.1 hj).1
    have tl : (encB (l.take (i + 1))).length = (i + 1) * 2 := by rw [encB_length, List.length_take]; omega
    rw [addr_add, h.cellAt ((i + 1) * 2 + j) (by rw [encB_length, List.length_drop] at jl; omega), e, List.getElem?_append_right (by omega), tl, Nat.add_sub_cancel_left]
    exact hj
theorem own_mono {base base' : Nat} {w : World} {E : TypeId} {sz : Nat} {v : Value} {n : Nat} {xs : List Value} (h : w.ownsRow base E sz v n xs) (hb : base' ≤ base) : w.ownsRow base' E sz v n xs :=
  ⟨h.1, h.2.imp id fun ⟨g, cap, cur, e, hg, r⟩ => ⟨g, cap, cur, e, Nat.le_trans hb hg, r⟩⟩
section
variable {X Y S F : List Nat} {B : Nat} {ev : Nat → Addr} {w w' w0 : World} {pd pc pz gh e : Nat} {mn lw hi : Int} {O : List (List Int)} {v vp : Value} {A : SA} {d d' : De} {c : Ca}
theorem dp_drain (k : Int) (hE : ErrS B ev w0) (h : DpS B w0 pd pc pz gh mn lw hi O e X F d w) :
    Calls Tryz.prog 48 #[.pointer (some ⟨pd, 0, none⟩), .int .i64 k] w fun r w' => r = .returned (.tuple #[.int .i64 (drainD e d k).2.2, errV ev (drainD e d k).2.1]) ∧ Keep (off X F) w w' ∧ DpS B w0 pd pc pz gh mn lw hi O e X F (drainD e d k).1 w' := by
  have hB := Nat.le_trans hE.size h.bel.size
  obtain ⟨v, A, V, vp, U, q, hf⟩ := h.cd
  exact (ddrain_any k ((hE.below h.bel).z) q hf h.inv).mono fun r w' ⟨hr, h1, h2⟩ => ⟨hr, h2, h1, drainD_inv h.inv, h.bel.trans (h2.below hB fun s hs => (q.lim s (off_mem.1 hs).1).1)⟩
theorem dp_empty (hE : ErrS B ev w0) (h : DpS B w0 pd pc pz gh mn lw hi O e X F d w) :
    Calls Tryz.prog 47 #[.pointer (some ⟨pd, 0, none⟩)] w fun r w' => r = .returned (.int .i64 (emptyD e d).2) ∧ Keep (off X F) w w' ∧ DpS B w0 pd pc pz gh mn lw hi O e X F (emptyD e d).1 w' := by
  have hB := Nat.le_trans hE.size h.bel.size
  obtain ⟨v, A, V, vp, U, q, hf⟩ := h.cd
  exact (dempty_ok hB q hf h.inv).mono fun r w' ⟨hr, h1, h2⟩ => ⟨hr, h2, h1, emptyD_inv h.inv, h.bel.trans (h2.below hB fun s hs => (q.lim s (off_mem.1 hs).1).1)⟩
theorem dp_count (h : DpS B w0 pd pc pz gh mn lw hi O e X F d w) :
    Calls Tryz.prog 37 #[.pointer (some ⟨pc, 0, none⟩)] w fun r w' => r = .returned (.tuple #[.int .i64 (takenN d.c.C), .int .i64 (roomN d.c.C)]) ∧ Below w.heap.size w w' := by
  obtain ⟨v, A, V, vp, U, q, hf⟩ := h.cd
  exact count_ok q.cs h.inv.c
end
end Go.Proofs.YtcokmiidgdmdlaaGreatDoor

namespace Go.Proofs.YtcokmiidgdmdlaaGreatDoor
open Go.RowKit Go.ChangeShapes
set_option linter.unusedSimpArgs false

structure DActD where
  kind : ByteArray
  wk : Int
  node : Int
  num : Int
  urgent : Bool
  on : Int
  oa : Int
def DActD.cells (x : DActD) : List Value := [.string x.kind, .int .i64 x.wk, .int .i64 x.node, .int .i64 x.num, .bool x.urgent, .int .i64 x.on, .int .i64 x.oa]
def DActD.fits (x : DActD) : Prop := x.kind.size ≤ maxLen ∧ Fit64 x.wk ∧ Fit64 x.node ∧ Fit64 x.num ∧ Fit64 x.on ∧ Fit64 x.oa
theorem cellsDAct : Tryz.prog.cellsOf 101 = 7 := by kernel_rfl
def RowDAct (w : World) (v : Value) (xs : List DActD) : Prop := RowG 7 DActD.cells DActD.fits w v xs
theorem rowDAct_of {H : Type} {enc : TypeId × Value → H} {W : World} {base : Nat} {spare : Nat → Bool} {held : Bool} {fuel : Nat} {v : Value} {x : DataW H × List MemPlace}
    (h : DataW.trod enc Tryz.prog W base spare held fuel 99 [v] = some x) : ∃ xs, RowDAct W v xs := by
  refine rowG_of Tryz.underlying99 cellsDAct (by omega) (fun n cs y h1 h2 => ?_) h
  obtain ⟨v0, v1, v2, v3, v4, v5, v6, rfl⟩ := len7 h1
  obtain ⟨ys, k, _, _, _, hl, hf⟩ := DataW.trod_struct Tryz.underlying101 h2
  obtain ⟨y0, y1, y2, y3, y4, y5, rfl⟩ := len6 (hl.trans rfl)
  have g0 := hf 0 _ rfl
  simp at g0
  rw [show Tryz.prog.cellsOf 9 = 1 by kernel_rfl] at g0
  simp at g0
  have g1 := hf 1 _ rfl
  simp at g1
  rw [show Tryz.prog.cellsOf 3 = 1 by kernel_rfl] at g1
  simp at g1
  have g2 := hf 2 _ rfl
  simp at g2
  rw [show Tryz.prog.cellsOf 3 = 1 by kernel_rfl] at g2
  simp at g2
  have g3 := hf 3 _ rfl
  simp at g3
  rw [show Tryz.prog.cellsOf 3 = 1 by kernel_rfl] at g3
  simp at g3
  have g4 := hf 4 _ rfl
  simp at g4
  rw [show Tryz.prog.cellsOf 4 = 1 by kernel_rfl] at g4
  simp at g4
  have g5 := hf 5 _ rfl
  simp at g5
  rw [show Tryz.prog.cellsOf 72 = 2 by kernel_rfl] at g5
  simp at g5
  obtain ⟨u0, e0, _, w0⟩ := DataW.trod_string Tryz.underlying9 g0
  simp at e0; subst e0
  obtain ⟨u1, e1, _, w1⟩ := DataW.trod_int Tryz.underlying3 g1
  simp at e1; subst e1
  obtain ⟨u2, e2, _, w2⟩ := DataW.trod_int Tryz.underlying3 g2
  simp at e2; subst e2
  obtain ⟨u3, e3, _, w3⟩ := DataW.trod_int Tryz.underlying3 g3
  simp at e3; subst e3
  obtain ⟨u4, e4, _⟩ := DataW.trod_bool Tryz.underlying4 g4
  simp at e4; subst e4
  obtain ⟨ysf, kf, _, _, _, hlf, hff⟩ := DataW.trod_struct Tryz.underlying72 g5
  obtain ⟨yf0, yf1, rfl⟩ := len2 (hlf.trans rfl)
  have gf0 := hff 0 _ rfl
  simp at gf0
  rw [show Tryz.prog.cellsOf 3 = 1 by kernel_rfl] at gf0
  simp at gf0
  have gf1 := hff 1 _ rfl
  simp at gf1
  rw [show Tryz.prog.cellsOf 3 = 1 by kernel_rfl] at gf1
  simp at gf1
  obtain ⟨u5, e5, _, w5⟩ := DataW.trod_int Tryz.underlying3 gf0
  simp at e5; subst e5
  obtain ⟨u6, e6, _, w6⟩ := DataW.trod_int Tryz.underlying3 gf1
  simp at e6; subst e6
  exact ⟨⟨u0, u1, u2, u3, u4, u5, u6⟩, rfl, w0, fit64_wf w1, fit64_wf w2, fit64_wf w3, fit64_wf w5, fit64_wf w6⟩
end Go.Proofs.YtcokmiidgdmdlaaGreatDoor

namespace Go.Proofs.YtcokmiidgdmdlaaGreatDoor
open Go.RowKit Go.Maps
set_option linter.unusedSimpArgs false
set_option linter.unusedVariables false
attribute [local go_sem ↓] Go.wp_at_zero Go.wp_at_succ

set_option maxHeartbeats 16000000 in
set_option maxRecDepth 200000 in
theorem magazineOut_walk {B : Nat} {ev : Nat → Addr} (size workers : Int) (vl : Value) (xs : List DActD) (w : World) (hE : Errs B ev w) (hx : RowDAct w vl xs) :
    Calls Tryz.prog 10 #[.int .i64 size, .int .i64 workers, vl] w fun e w' => e = .returned (.bool true) ∧ Below w.heap.size w w' := by
  have hB := hE.size
  obtain ⟨pl, kl, rfl, ⟨hkl, hml⟩, hxx⟩ := id hx
  have CA := Lib.hid (loaded_yes w hE.s)
  have HE := Lib.hid hE; have HX := Lib.hid hx
  obtain ⟨n, hn⟩ : ∃ n, n = xs.length := ⟨_, rfl⟩
  have HN := Lib.hid hn
  rw [← hn] at hkl HX ⊢
  unfold maxLen at hml
  clear hE hx hn hxx
  go_enter Tryz.func10, Tryz.ntmps10
  go_wp2_with fail
  refine CA.out.mono ?_
  rintro e w0 ⟨rfl, hb0⟩
  have z0 := hb0.size
  by_cases h100 : 100 < n
  · go_wp2
    go_ret
    exact ⟨rfl, hb0⟩
  go_wp2_with fail
  refine (one_ok (X := []) 8 w0 (fun x hx => by cases hx)).mono ?_
  rintro r w1 ⟨vP, vN, rfl, hcfg, hb1⟩
  have z1 := hb1.size
  have HC := Lib.hid hcfg
  have B01 := Lib.hid (hb0.trans (hb1.mono z0))
  clear hcfg CA
  go_wp2_with fail
  refine (oneZone vP vN 8 w1 (HE.out.s.z.go B01.out).c HC.out (by omega) (by omega)).mono ?_
  rintro r w2 ⟨pz, x, rfl, hz, hpz, hn, hF, hT, hb2⟩
  have z2 := hb2.size
  have hI := (hz.b.bud x (by simp)).2
  have HZ := Lib.hid hz; have HI0 := Lib.hid hI; have HF0 := Lib.hid hF
  have B02 := Lib.hid (B01.out.trans (hb2.mono (by omega)))
  clear hz hI hF hT hn hb1 hb2
  by_cases hs : size < 1 ∨ 64 < size
  · have SN := snew_err (B := B) (ev := ev) pz size w2 (HE.out.go B02.out).c hs
    have e1 : errV ev 2 = .iface 291 (.pointer (some (ev 2))) := rfl
    rw [e1] at SN
    have HSN := Lib.hid SN
    clear SN e1
    go_wp2_with fail
    refine HSN.out.mono ?_
    rintro r w5 ⟨rfl, hb5⟩
    go_wp2
    go_ret
    exact ⟨rfl, B02.out.trans (hb5.mono B02.out.size)⟩
  obtain ⟨e, rfl⟩ : ∃ e : Nat, size = e := ⟨size.toNat, by omega⟩
  have e1 : 1 ≤ e := by omega
  have e2 : e ≤ 64 := by omega
  have FI := Lib.hid (FullI.start (pages := 8) (e := e) HI0.out e1 e2 HF0.out)
  clear hs
  go_wp2_with fail
  refine (snew_ok pz e w2 e1 (by omega)).mono ?_
  rintro r w3 ⟨rfl, hw3⟩
  have C0 := CS.new HZ.out (by simp) z2 e
  have b3 : Below w2.heap.size w2 w3 := by rw [hw3]; exact (by repeat (first | exact Below.refl _ _ | refine Below.drew ?_ | refine below_drewN ?_ _ | refine Below.trans ?_ (Below.mono (by assumption) (by first | omega | (simp; omega) | (simp; done))) | refine Below.alloc ?_ (by first | omega | (simp; omega) | (simp; done)) _ | refine Below.setCell ?_ (by first | omega | (simp; omega) | (simp; done)) _))
  rw [← hw3] at C0
  have z3 := b3.size
  have B03 := Lib.hid (B02.out.trans (b3.mono (by omega)))
  have HC0 := Lib.hid C0
  clear C0 hw3 b3
  by_cases hk : workers < 1 ∨ 4 < workers
  · have SN := dnew_err (B := B) (ev := ev) w2.heap.size workers w3 (HE.out.go B03.out).c hk
    have e1 : errV ev 2 = .iface 291 (.pointer (some (ev 2))) := rfl
    rw [e1] at SN
    have HSN := Lib.hid SN
    clear SN e1
    go_wp2_with fail
    refine HSN.out.mono ?_
    rintro r w5 ⟨rfl, hb5⟩
    go_wp2
    go_ret
    exact ⟨rfl, B03.out.trans (hb5.mono B03.out.size)⟩
  obtain ⟨nw, rfl⟩ : ∃ nw : Nat, workers = nw := ⟨workers.toNat, by omega⟩
  have n1 : 1 ≤ nw := by omega
  have n4 : nw ≤ 4 := by omega
  clear hk
  go_wp2_with fail
  refine (dnew_ok w2.heap.size nw w3 n1 n4).mono ?_
  rintro r w4 ⟨rfl, hw4⟩
  have D0 := CD.start HC0.out (by omega) nw hw4
  have b4 : Below w3.heap.size w3 w4 := by rw [hw4]; exact (by repeat (first | exact Below.refl _ _ | refine Below.drew ?_ | refine below_drewN ?_ _ | refine Below.trans ?_ (Below.mono (by assumption) (by first | omega | (simp; omega) | (simp; done))) | refine Below.alloc ?_ (by first | omega | (simp; omega) | (simp; done)) _ | refine Below.setCell ?_ (by first | omega | (simp; omega) | (simp; done)) _))
  have z4 := b4.size
  have E4 := Lib.hid ((HE.out.s.go (B03.out.trans (b4.mono (by omega)))).up (B' := w1.heap.size) (by omega) (by omega))
  have EE : Hid (∀ W, Below w.heap.size w W → Errs B ev W) := fun W hW => HE.out.go hW
  have P0 := Lib.hid (show DpS w1.heap.size w4 (w3.heap.size + 1) w2.heap.size pz w3.heap.size 0 0 0 [[0]] e _ [] ⟨⟨[x], []⟩, List.replicate nw ([], []), []⟩ w4 from ⟨D0, InvD.start FI.out.inv nw n1 n4, Below.refl _ _⟩)
  have B04 := Lib.hid (B03.out.trans (b4.mono (by omega)))
  clear D0 hw4 b4
  have M0 : Hid (MoI e [] ⟨⟨[x], []⟩, List.replicate nw ([], []), []⟩) := ⟨List.nodup_nil, fun y hy => (by cases hy), fun y => by
    have : held ⟨⟨[x], []⟩, List.replicate nw ([], []), []⟩ = [] := by unfold held; rw [show heldH (List.replicate nw ([], [])) = [] from heldH_nil nw]; rfl
    rw [this]; simp [obsC]⟩
  obtain ⟨pd, hpd⟩ : ∃ pd, pd = w3.heap.size + 1 := ⟨_, rfl⟩
  rw [← hpd] at P0 ⊢
  have HKW : Hid (∀ W, Below w1.heap.size w4 W → Below w.heap.size w W) := fun W hW => B04.out.trans (hW.mono (by omega))
  clear hpd
  go_wp2_with fail
  go_loopw [12, 13] (fun lv iv wr => ∃ (i : Nat) (q : Option Addr) (k : Nat) (l : List Ob) (X : List Nat) (d : De), i ≤ n ∧ iv = .int .i64 i ∧ lv = .slice q l.length k ∧ Hid (l.length ≤ i) ∧ Hid (wr.ownsRow w4.heap.size 72 2 (.slice q l.length k) l.length (encB l)) ∧ Hid (DpS w1.heap.size w4 pd w2.heap.size pz w3.heap.size 0 0 0 [[0]] e X (ownX (.slice q l.length k) ++ []) d wr) ∧ Hid (MoI e l d) ∧ Hid (d.H.length = nw)) (fun _ iv _ => n - (intOf iv).toNat)
  case atStart => exact ⟨0, none, 0, [], _, _, Nat.zero_le _, by go_num, rfl, Nat.zero_le _, World.ownsRow_nil _ _ _ _, P0, M0, by show _ = _; simp⟩
  case round =>
    obtain ⟨i, q, k, l, X, d, hin, rfl, rfl, HLI, HOW, HD, HM, HNW⟩ := hrel
    clear P0 M0
    have zr := HD.out.bel.size
    have hbel := HD.out.bel
    have KR : Below w.heap.size w wr := HKW.out _ hbel
    have hli := HLI.out
    have hO : OrdZ [[0]] d.c.L.length := HD.out.ord
    by_cases hlt : i < n
    · obtain ⟨x, hx⟩ : ∃ x, xs[i]? = some x := ⟨xs[i]'(by rw [← HN.out]; exact hlt), List.getElem?_eq_getElem _⟩
      obtain ⟨g, off, cap', e', _, hg, hrow⟩ := (show RowDAct w (.slice pl n kl) xs from HX.out).form (by rw [← HN.out]; omega)
      rw [← HN.out] at e'
      injection e' with e1 e2 e3
      subst e1 e3
      obtain ⟨hfx, hcell⟩ := hrow i x hx
      have hgr : g < wr.heap.size := by have := KR.size; omega
      have r0 := (KR.cell (p := ⟨g, off + i * 7 + 0, none⟩) hg).trans (hcell 0 _ rfl)
      have r1 := (KR.cell (p := ⟨g, off + i * 7 + 1, none⟩) hg).trans (hcell 1 _ rfl)
      have r2 := (KR.cell (p := ⟨g, off + i * 7 + 2, none⟩) hg).trans (hcell 2 _ rfl)
      have r3 := (KR.cell (p := ⟨g, off + i * 7 + 3, none⟩) hg).trans (hcell 3 _ rfl)
      have r4 := (KR.cell (p := ⟨g, off + i * 7 + 4, none⟩) hg).trans (hcell 4 _ rfl)
      have r5 := (KR.cell (p := ⟨g, off + i * 7 + 5, none⟩) hg).trans (hcell 5 _ rfl)
      have r6 := (KR.cell (p := ⟨g, off + i * 7 + 6, none⟩) hg).trans (hcell 6 _ rfl)
      clear hx hrow hcell
      obtain ⟨kd, wk, nd, num, ud, on, oa⟩ := x
      simp only [DActD.fits] at r0 r1 r2 r3 r4 r5 r6 hfx
      simp only [Nat.add_zero] at r0
      have hnum := hfx.2.2.2.1
      obtain ⟨u1, u2⟩ := hnum
      have i0 : (0 : Int) ≤ (i : Int) := by omega
      have i1 : (i : Int) < (n : Int) := by omega
      obtain ⟨wa, hwa⟩ : ∃ wa, wa = wr.alloc (.cells #[.string kd, .int .i64 wk, .int .i64 nd, .int .i64 num, .bool ud, .int .i64 on, .int .i64 oa] 101) := ⟨_, rfl⟩
      have ba : Below wr.heap.size wr wa := by rw [hwa]; exact (by repeat (first | exact Below.refl _ _ | refine Below.drew ?_ | refine below_drewN ?_ _ | refine Below.trans ?_ (Below.mono (by assumption) (by first | omega | (simp; omega) | (simp; done))) | refine Below.alloc ?_ (by first | omega | (simp; omega) | (simp; done)) _ | refine Below.setCell ?_ (by first | omega | (simp; omega) | (simp; done)) _))
      have LA := Lib.hid (show LocN wa wr.heap.size [.string kd, .int .i64 wk, .int .i64 nd, .int .i64 num, .bool ud, .int .i64 on, .int .i64 oa] from by rw [hwa]; exact LocN.mk_ wr [.string kd, .int .i64 wk, .int .i64 nd, .int .i64 num, .bool ud, .int .i64 on, .int .i64 oa] 101 rfl)
      have DA := Lib.hid (HD.out.go (by omega) ba)
      have OA := Lib.hid (own_keep HOW.out (Keep.of (S := []) ba) (fun s hs => by cases hs))
      have za := ba.size
      have sza : wa.heap.size = wr.heap.size + 1 := by rw [hwa]; simp
      have HMT := HM.out.take (mn := 0) (O := [[0]]) hO HD.out.inv wk 0 ud
      have TK := dp_take wk 0 ud E4.out DA.out
      have HL1 : (takeD 0 [[0]] e d wk 0 ud).1.H.length = d.H.length := takeD_hands
      obtain ⟨⟨d1, q1, a⟩, hr1⟩ : ∃ r, r = takeD 0 [[0]] e d wk 0 ud := ⟨_, rfl⟩
      rw [← hr1] at HMT TK HL1
      simp only at HMT TK HL1
      rw [HNW.out] at HL1
      have HHL1 := Lib.hid HL1
      have HOW2 := Lib.hid HOW.out
      clear hr1 hbel KR HD HOW ba hO HL1
      have HC3 : (0 < l.length ∧ 0 ≤ num) ∨ l.length = 0 ∨ num < 0 := by omega
      refine HC3.elim (fun HC3 => ?gA) (fun HC3 => HC3.elim (fun g1 => ?gB) (fun g1 => ?gC))
      case' gA =>
        obtain ⟨g1, g2⟩ := HC3
        have d1' : decide ((0 : Int) < (l.length : Int)) = true := decide_eq_true (by omega)
        have d2 : decide (0 ≤ num) = true := decide_eq_true g2
        obtain ⟨m, hm⟩ : ∃ m : Nat, (m : Int) = num % (l.length : Int) := ⟨(num % (l.length : Int)).toNat, by have := Int.emod_nonneg num (b := (l.length : Int)) (by omega); omega⟩
        have hml : m < l.length := by have := Int.emod_lt_of_pos num (b := (l.length : Int)) (by omega); omega
        have hq : num.tmod (l.length : Int) = (m : Int) := by rw [Int.tmod_eq_emod_of_nonneg g2, hm]
        have hn0 : ¬ ((l.length : Int) = 0) := by omega
        have hn1 : ¬ (l.length = 0) := by omega
        obtain ⟨o, ho⟩ : ∃ o, l[m]? = some o := ⟨l[m], List.getElem?_eq_getElem hml⟩
        obtain ⟨gg, eg, k1, k2, ggl, ggb, y0, y1, _, _⟩ := own_srcs HOW2.out ho
        subst eg
        unfold maxLen at k2
        have hmi : (m : Int) < (l.length : Int) := by omega
        have hm0 : (0 : Int) ≤ (m : Int) := by omega
        have HOB := Lib.hid ho
        clear hm ho k1
        go_wp2_with fail
        · have hmem := List.mem_of_getElem? HOB.out
          have hh : (handD d 0).isSome = true := by
            unfold handD
            rw [if_neg (by omega)]
            have := HNW.out
            rw [show (0 : Int).toNat = 0 from rfl, List.getElem?_eq_getElem (by omega)]; rfl
          obtain ⟨v1, v2⟩ := give_twice (e := e) (k := 0) hh (HM.out.outD hmem)
          have MG := HM.out.give hh HOB.out
          have HN2 : (giveD e d 0 o).1.H.length = d.H.length := giveD_hands
          have fit := ob_fit DA.out.inv.c ((HM.out.iff o).2 (.inl hmem))
          obtain ⟨wb, hwb⟩ : ∃ wb, wb = wa.alloc (.cells #[.int .i64 o.1, .int .i64 o.2] 72) := ⟨_, rfl⟩
          have bb : Below wa.heap.size wa wb := by rw [hwb]; exact (by repeat (first | exact Below.refl _ _ | refine Below.drew ?_ | refine below_drewN ?_ _ | refine Below.trans ?_ (Below.mono (by assumption) (by first | omega | (simp; omega) | (simp; done))) | refine Below.alloc ?_ (by first | omega | (simp; omega) | (simp; done)) _ | refine Below.setCell ?_ (by first | omega | (simp; omega) | (simp; done)) _))
          have LB := Lib.hid (show LocN wb wa.heap.size [.int .i64 o.1, .int .i64 o.2] from by rw [hwb]; exact LocN.mk_ wa [.int .i64 o.1, .int .i64 o.2] 72 rfl)
          rw [sza] at LB
          have DB := Lib.hid (DA.out.go (by omega) bb)
          have OB := Lib.hid (own_keep OA.out (Keep.of (S := []) bb) (fun s hs => by cases hs))
          have GV1 := dp_give 0 o E4.out DB.out fit.1 fit.2
          have GV2 := fun (X : List Nat) (W : World) (h : DpS w1.heap.size w4 pd w2.heap.size pz w3.heap.size 0 0 0 [[0]] e X (ownX (.slice (some ⟨gg, 0, none⟩) l.length k) ++ []) (giveD e d 0 o).1 W) => dp_give 0 o E4.out h fit.1 fit.2
          rw [v2] at GV2
          obtain ⟨⟨d2, q2⟩, hr2⟩ : ∃ r, r = giveD e d 0 o := ⟨_, rfl⟩
          rw [← hr2] at v1 MG GV1 GV2 HN2
          simp only at v1 MG GV1 GV2 HN2
          subst v1
          have ev9 : errV ev 9 = .iface 291 (.pointer (some (ev 9))) := rfl
          rw [ev9] at GV2
          simp only [errV] at GV1
          have CD9 : Hid (∀ W, Below w1.heap.size w4 W → Calls Tryz.prog 18 #[.iface 291 (.pointer (some (ev 9))), .int .i64 9] W fun e w' => e = .returned (.bool true) ∧ Below W.heap.size W w') := fun W hW => by rw [← ev9]; exact coded_at 9 9 W (EE.out W (HKW.out W hW)) (by omega) rfl
          have HGV1 := Lib.hid GV1; have HGV2 := Lib.hid GV2; have HMG := Lib.hid MG
          have HHN2 : Hid (d2.H.length = nw) := HN2.trans HNW.out
          clear hh fit v2 hr2 GV1 GV2 MG ev9 hmem TK HMT HN2 y0 y1 r0 r1 r2 r3 r4 r5 r6
          rw [← hwa, ← hwb]
          clear hwa hwb
          refine HGV1.out.mono ?_
          rintro r w5 ⟨rfl, K5, X1, X1n, X1m, P1⟩
          have O5 := Lib.hid (own_keep OB.out K5 (fun s hs q => (off_mem.1 hs).2 (List.mem_append_left _ q)))
          have LB5 := Lib.hid (LB.out.keep K5 (fun q => by have := (DA.out.lim _ (off_mem.1 q).1).2; omega))
          have b0 := LB5.out.c 0 _ rfl; have b1 := LB5.out.c 1 _ rfl; have bl := LB5.out.lt
          have NB : Hid (wr.heap.size + 1 ∉ X1) := fun q => by
            rcases X1n _ q with r | r
            · have := (DA.out.lim _ r).2; omega
            · have := bb.size; have := LB.out.lt; omega
          have HP1 := Lib.hid P1
          clear HGV1 K5 X1n X1m P1 LB DB OB
          go_wp2_with fail
          refine (HGV2.out _ _ HP1.out).mono ?_
          rintro r w6 ⟨rfl, K6, X2, X2n, X2m, P2⟩
          have O6 := own_keep O5.out K6 (fun s hs q => (off_mem.1 hs).2 (List.mem_append_left _ q))
          have HP2 := Lib.hid P2; have HO6 := Lib.hid O6
          have hb26 := P2.bel
          clear HGV2 K6 X2n X2m P2 O6 O5 HP1 b0 b1 bl LB5 NB
          go_wp2_with fail
          refine (CD9.out w6 hb26).mono ?_
          rintro r w7 ⟨rfl, hb7⟩
          have z6 := hb26.size
          have z7 := hb7.size
          have D7 := Lib.hid (HP2.out.go (by omega) hb7)
          have O7 := own_keep HO6.out (Keep.of (S := []) hb7) (fun s hs => by cases hs)
          obtain ⟨gg', eg', k1, _, ggl, ggb, _, _, s1, s2⟩ := own_srcs O7 HOB.out
          obtain rfl : gg = gg' := by injection eg' with q; injection q
          have S1 := Lib.hid s1; have S2 := Lib.hid s2
          have o1 : Hid (∀ u ∈ encB (l.take m), u.oneCell' = true) := encB_one _
          have o2 : Hid (∀ u ∈ encB (l.drop (m + 1)), u.oneCell' = true) := encB_one _
          have l1 : Hid ((encB (l.take m)).length = m * 2) := by show _ = _; rw [encB_length, List.length_take]; omega
          have l2 : Hid ((encB (l.drop (m + 1))).length = (l.length - (m + 1)) * 2) := by show _ = _; rw [encB_length, List.length_drop]; omega
          have LE : Hid ((l.take m ++ l.drop (m + 1)).length = m + (l.length - (m + 1))) := by show _ = _; rw [List.length_append, List.length_take, List.length_drop]; omega
          have FIN : Hid (∀ w9 q4 k4, Below w7.heap.size w7 w9 → w9.ownsRow w7.heap.size 72 2 (.slice q4 (m + (l.length - (m + 1))) k4) (m + (l.length - (m + 1))) (encB (l.take m) ++ encB (l.drop (m + 1))) → ∃ X', Hid (w9.ownsRow w4.heap.size 72 2 (.slice q4 (l.take m ++ l.drop (m + 1)).length k4) (l.take m ++ l.drop (m + 1)).length (encB (l.take m ++ l.drop (m + 1)))) ∧ Hid (DpS w1.heap.size w4 pd w2.heap.size pz w3.heap.size 0 0 0 [[0]] e X' (ownX (.slice q4 (l.take m ++ l.drop (m + 1)).length k4) ++ []) d2 w9)) := fun w9 q4 k4 b9 own9 => by
            rw [LE.out, encB_append]
            refine ⟨_, own_mono own9 (by omega), (D7.out.add (G := ownX (.slice q4 (m + (l.length - (m + 1))) k4)) (by omega) b9 (fun g hg => ownX_ge own9 hg)).subF (fun g hg => ?_)⟩
            rcases List.mem_append.1 hg with r | r
            · exact List.mem_append_left _ r
            · cases r
          have hw1 : IntKind.i64.wrap ((m : Int) + 1) = ((m + 1 : Nat) : Int) := by rw [IntWalk.i64_in _ (by omega)]; omega
          have km1 : m + 1 ≤ k := by omega
          clear s1 s2 O7 eg' D7 HO6 HP2 hb26 CD9 hb7
          by_cases hk : k = m + 1
          · subst hk
            have hlm : l.length = m + 1 := by omega
            have s3 : Hid (∀ w8, SrcV w8 (some ⟨gg, 0, none⟩) (encB (l.drop (m + 1)))) := fun w8 => .inr ⟨_, rfl, fun j u hj => by
              have := (List.getElem?_eq_some_iff.1 hj).1
              rw [l2.out] at this; omega⟩
            go_wp2_with (first
              | (at_builtin; refine wpList_appM elObj (base := w7.heap.size) (v := .slice none 0 0) (n := 0) (m := m) (xs := []) (ms := encB (l.take m)) (p := some ⟨gg, 0, none⟩) (by rfl) (.tmp 109) (.tmp 112) (by rfl) (by rfl) (by rfl) (World.ownsRow_nil _ _ _ _) l1.out S1.out o1.out (by omega) (Nat.le_refl _) ?_; intro q3 k3 w8 hown3 hg3 hob3; have b3 : Below w7.heap.size w7 w8 := (Below.refl _ _).grown hg3 (Nat.le_refl _) (fun r hr => by cases hr); rw [Nat.zero_add] at hown3 hob3; rw [List.nil_append] at hown3; have HO3 := Lib.hid hown3; have HB3 := Lib.hid b3; have HG3 := Lib.hid (fun (w9 : World) (hg : w8.grownBy w9 (Value.slice q3 m k3).ownBlock) => b3.grown hg b3.size (fun r hr => (hown3.lt r hr).1)); clear hown3 hg3 hob3 b3)
              | (at_builtin; go_loud (refine wpList_appM elObj (base := w7.heap.size) (v := .slice q3 m k3) (n := m) (m := 0) (xs := encB (l.take m)) (ms := encB (l.drop (m + 1))) (p := some ⟨gg, 0, none⟩) (by rfl) (.tmp 114) (.tmp 118) (by rfl) (by rfl) (by rfl) HO3.out (by rw [l2.out]; omega) (s3.out _) o2.out (by omega) HB3.out.size ?_); intro q4 k4 w9 hown4 hg4 hob4; have b4 := HG3.out w9 hg4; have FF := FIN.out w9 q4 k4 b4 (by rw [show m + (l.length - (m + 1)) = m + 0 from by omega]; exact hown4); clear hown4 hg4 hob4 b4))
            obtain ⟨X', F1, F2⟩ := FF
            go_roundw
            case rel => exact ⟨i + 1, q4, k4, _, X', d2, by omega, by go_num, by rw [LE.out, show m + (l.length - (m + 1)) = m from by omega], by show _ ≤ _; rw [LE.out]; omega, F1, F2, HMG, HHN2⟩
            case measure => simp [intOf]; omega
          · have s3 : Hid (∀ w8, Below w7.heap.size w7 w8 → SrcV w8 (some ⟨gg, (m + 1) * 2, none⟩) (encB (l.drop (m + 1)))) := fun w8 b8 => (S2.out).elim (fun q => .inl q) (fun ⟨a, ha, hc⟩ => .inr ⟨a, ha, fun j u hj => by
              injection ha with ha
              subst ha
              have := hc j u hj
              rw [addr_add] at this ⊢
              exact (b8.cell (p := ⟨gg, (m + 1) * 2 + j, none⟩) ggl).trans this⟩)
            go_wp2_with (first
              | (at_builtin; refine wpList_appM elObj (base := w7.heap.size) (v := .slice none 0 0) (n := 0) (m := m) (xs := []) (ms := encB (l.take m)) (p := some ⟨gg, 0, none⟩) (by rfl) (.tmp 109) (.tmp 112) (by rfl) (by rfl) (by rfl) (World.ownsRow_nil _ _ _ _) l1.out S1.out o1.out (by omega) (Nat.le_refl _) ?_; intro q3 k3 w8 hown3 hg3 hob3; have b3 : Below w7.heap.size w7 w8 := (Below.refl _ _).grown hg3 (Nat.le_refl _) (fun r hr => by cases hr); rw [Nat.zero_add] at hown3 hob3; rw [List.nil_append] at hown3; have HO3 := Lib.hid hown3; have HB3 := Lib.hid b3; have HG3 := Lib.hid (fun (w9 : World) (hg : w8.grownBy w9 (Value.slice q3 m k3).ownBlock) => b3.grown hg b3.size (fun r hr => (hown3.lt r hr).1)); clear hown3 hg3 hob3 b3)
              | (at_builtin; go_loud (refine wpList_appM elObj (base := w7.heap.size) (v := .slice q3 m k3) (n := m) (m := l.length - (m + 1)) (xs := encB (l.take m)) (ms := encB (l.drop (m + 1))) (p := some ⟨gg, (m + 1) * 2, none⟩) (by rfl) (.tmp 114) (.tmp 118) (by rfl) (by rfl) (by rfl) HO3.out l2.out (s3.out _ HB3.out) o2.out (by omega) HB3.out.size ?_); intro q4 k4 w9 hown4 hg4 hob4; have b4 := HG3.out w9 hg4; have FF := FIN.out w9 q4 k4 b4 hown4; clear hown4 hg4 hob4 b4))
            obtain ⟨X', F1, F2⟩ := FF
            go_roundw
            case rel => exact ⟨i + 1, q4, k4, _, X', d2, by omega, by go_num, by rw [LE.out], by show _ ≤ _; rw [LE.out]; omega, F1, F2, HMG, HHN2⟩
            case measure => simp [intOf]; omega
        rw [← hwa]
      case' gB =>
        have d1' : decide ((0 : Int) < (l.length : Int)) = false := decide_eq_false (by omega)
        clear g1
        go_wp2_with fail
        all_goals rw [← hwa]
      case' gC =>
        have d2 : decide (0 ≤ num) = false := decide_eq_false (by omega)
        go_wp2_with fail
        all_goals rw [← hwa]
      all_goals
        clear r0 r1 r2 r3 r4 r5 r6 hwa
        have OA' := OA.out
        rcases HMT with ⟨t1, t2, t3⟩ | ⟨t1, t2⟩
        · subst t1
          simp only [obV, errV] at TK
          have HTK := Lib.hid TK; have T2 := Lib.hid t2; have T3 := Lib.hid t3
          clear TK t2 t3
          refine HTK.out.mono ?_
          rintro r w5 ⟨rfl, K5, X1, X1n, X1m, P1⟩
          have z5 := P1.bel.size
          have O5 := own_keep OA' K5 (fun s hs q => (off_mem.1 hs).2 (List.mem_append_left _ q))
          have NA : Hid (w5.heap.size ∉ X1) := fun q => by have := (P1.lim _ q).2; omega
          clear HTK K5 X1n X1m OA'
          go_wp2_with fail
          obtain ⟨w6, hw6⟩ : ∃ w6, w6 = w5.alloc (.cells #[.int .i64 a.1, .int .i64 a.2] 72) := ⟨_, rfl⟩
          rw [← hw6]
          have b6 : Below w5.heap.size w5 w6 := by rw [hw6]; exact (by repeat (first | exact Below.refl _ _ | refine Below.drew ?_ | refine below_drewN ?_ _ | refine Below.trans ?_ (Below.mono (by assumption) (by first | omega | (simp; omega) | (simp; done))) | refine Below.alloc ?_ (by first | omega | (simp; omega) | (simp; done)) _ | refine Below.setCell ?_ (by first | omega | (simp; omega) | (simp; done)) _))
          have LO := Lib.hid (show LocN w6 w5.heap.size [.int .i64 a.1, .int .i64 a.2] from by rw [hw6]; exact LocN.mk_ w5 [.int .i64 a.1, .int .i64 a.2] 72 rfl)
          have z6 := b6.size
          have P6 := Lib.hid (P1.go (by omega) b6)
          have O6 := Lib.hid (own_keep O5 (Keep.of (S := []) b6) (fun s hs => by cases hs))
          clear P1 O5 b6 hw6 OA DA LA
          go_loopw [20] (fun iv wt => ∃ (t : Nat), t ≤ l.length ∧ iv = .int .i64 t ∧ Below w6.heap.size w6 wt) (fun iv _ => l.length - (intOf iv).toNat)
          case atStart => exact ⟨0, Nat.zero_le _, by go_num, Below.refl _ _⟩
          case round =>
            obtain ⟨t, ht, rfl, hbt⟩ := hrel
            have zt := hbt.size
            by_cases hlt : t < l.length
            · obtain ⟨o', ho'⟩ : ∃ o', l[t]? = some o' := ⟨l[t], List.getElem?_eq_getElem hlt⟩
              have own' := own_keep O6.out (Keep.of (S := []) hbt) (fun s hs => by cases hs)
              obtain ⟨g', eg', k1', k2', gl', y0', y1'⟩ := own_obs own' ho'
              cases eg'
              unfold maxLen at k2'
              have hli' : (t : Int) < (l.length : Int) := by omega
              have hl0' : (0 : Int) ≤ (t : Int) := by omega
              have M6 := LO.out.go hbt
              have x0 := M6.c 0 _ rfl; have x1 := M6.c 1 _ rfl; have xl := M6.lt
              have hne : (o'.1 == a.1 && o'.2 == a.2) = false := by
                cases hq : (o'.1 == a.1 && o'.2 == a.2) with
                | false => rfl
                | true =>
                  simp at hq
                  exact absurd (show a ∈ l from by rw [show a = o' from Prod.ext hq.1.symm hq.2.symm]; exact List.mem_of_getElem? ho') T2.out
              have eb := eqO; have gb := guardO
              have HB := Lib.hid hbt
              clear own' ho' k1' M6 hbt
              go_wp2_with fail
              go_quiet (fail)
              go_wp2
              go_round
              case rel => exact ⟨t + 1, by omega, by go_num, HB.out.trans (by repeat (first | exact Below.refl _ _ | refine Below.drew ?_ | refine below_drewN ?_ _ | refine Below.trans ?_ (Below.mono (by assumption) (by first | omega | (simp; omega) | (simp; done))) | refine Below.alloc ?_ (by first | omega | (simp; omega) | (simp; done)) _ | refine Below.setCell ?_ (by first | omega | (simp; omega) | (simp; done)) _))⟩
              case measure => simp [intOf]; omega
            · have M7 := LO.out.go hbt
              have x0 := M7.c 0 _ rfl; have x1 := M7.c 1 _ rfl; have xl := M7.lt
              have P7 := Lib.hid ((P6.out.go (by omega) hbt).go (by omega) (show Below wr.heap.size wr (wr.alloc (.cells #[.int .i64 a.1, .int .i64 a.2] 72)) from (by repeat (first | exact Below.refl _ _ | refine Below.drew ?_ | refine below_drewN ?_ _ | refine Below.trans ?_ (Below.mono (by assumption) (by first | omega | (simp; omega) | (simp; done))) | refine Below.alloc ?_ (by first | omega | (simp; omega) | (simp; done)) _ | refine Below.setCell ?_ (by first | omega | (simp; omega) | (simp; done)) _))))
              have O7 := Lib.hid ((own_keep O6.out (Keep.of (S := []) hbt) (fun s hs => by cases hs)).alloc (.cells #[.int .i64 a.1, .int .i64 a.2] 72))
              have NW : Hid (∀ (j : Nat) (u : Value), [Value.int .i64 a.1, .int .i64 a.2][j]? = some u → (wr.alloc (.cells #[.int .i64 a.1, .int .i64 a.2] 72)).cell? ((⟨wr.heap.size, 0, none⟩ : Addr).add j) = some u) := new_two wr (.int .i64 a.1) (.int .i64 a.2) 72
              have nlt : ¬ ((t : Int) < (l.length : Int)) := by omega
              clear P6 O6 LO hbt T2 NA M7
              go_wp2_with (first | (at_builtin; refine wpList_appS2 elObj (base := w4.heap.size) (v := _) (n := l.length) (ms := [.int .i64 a.1, .int .i64 a.2]) (ad := ⟨wr.heap.size, 0, none⟩) (by rfl) (.tmp 143) (.tmp 145) (by rfl) (by rfl) (by rfl) O7.out rfl NW.out (one_two _ _) (by omega) (by simp; omega) ?_; intro q4 k4 w8 hown8 hg8 hob8))
              obtain ⟨X', _, _, P8⟩ := P7.out.app (by simp; omega) hg8 hob8 (fun g hg => (hown8.lt g hg).2)
              have HP8 := Lib.hid P8
              have HO8 := Lib.hid (show w8.ownsRow w4.heap.size 72 2 (.slice q4 (l.length + 1) k4) (l.length + 1) (encB (l ++ [a])) from by rw [encB_snoc]; exact hown8)
              have le : (l ++ [a]).length = l.length + 1 := by simp
              clear hown8 hg8 hob8 P8
              go_wp2
              go_roundw
              case rel => exact ⟨i + 1, q4, k4, l ++ [a], X', d1, by omega, by go_num, by rw [le], by show _ ≤ _; omega, by rw [le]; exact HO8, by rw [le]; exact HP8, T3, HHL1⟩
              case measure => simp [intOf]; omega
        · obtain ⟨c, rfl⟩ : ∃ c, q1 = c + 1 := ⟨q1 - 1, by omega⟩
          have e1 : errV ev (c + 1) = .iface 291 (.pointer (some (ev (c + 1)))) := rfl
          rw [e1] at TK
          simp only [obV] at TK
          have HTK := Lib.hid TK; have T2 := Lib.hid t2
          clear TK t1 t2 e1
          refine HTK.out.mono ?_
          rintro r w5 ⟨rfl, K5, X1, X1n, X1m, P1⟩
          have z5 := P1.bel.size
          have O5 := Lib.hid (own_keep OA' K5 (fun s hs q => (off_mem.1 hs).2 (List.mem_append_left _ q)))
          have HP1 := Lib.hid P1
          clear HTK K5 X1n X1m OA' P1
          go_wp2
          go_roundw
          case rel => exact ⟨i + 1, _, _, l, X1, d1, by omega, by go_num, rfl, by show _ ≤ _; omega, own_keep O5.out (Keep.of (S := []) (show Below w5.heap.size w5 _ from (by repeat (first | exact Below.refl _ _ | refine Below.drew ?_ | refine below_drewN ?_ _ | refine Below.trans ?_ (Below.mono (by assumption) (by first | omega | (simp; omega) | (simp; done))) | refine Below.alloc ?_ (by first | omega | (simp; omega) | (simp; done)) _ | refine Below.setCell ?_ (by first | omega | (simp; omega) | (simp; done)) _)))) (fun s hs => by cases hs), HP1.out.go (by omega) (by repeat (first | exact Below.refl _ _ | refine Below.drew ?_ | refine below_drewN ?_ _ | refine Below.trans ?_ (Below.mono (by assumption) (by first | omega | (simp; omega) | (simp; done))) | refine Below.alloc ?_ (by first | omega | (simp; omega) | (simp; done)) _ | refine Below.setCell ?_ (by first | omega | (simp; omega) | (simp; done)) _)), T2, HHL1⟩
          case measure => simp [intOf]; omega
    · have EM := dp_empty E4.out HD.out
      have ME := HM.out.empty HD.out.inv
      have NE : NoH 0 (emptyD e d).1 := NoH.empty
      have HE1 : (emptyD e d).1.H.length = nw := HNW.out
      obtain ⟨⟨d1, ne⟩, hr1⟩ : ∃ r, r = emptyD e d := ⟨_, rfl⟩
      rw [← hr1] at EM ME NE HE1
      simp only at EM ME NE HE1
      have HEM := Lib.hid EM; have HME := Lib.hid ME; have HNE := Lib.hid NE; have HHE1 := Lib.hid HE1
      obtain ⟨ll, hll⟩ : ∃ ll, ll = l.length := ⟨_, rfl⟩
      have HLL := Lib.hid hll
      rw [← hll] at HEM HLI hli ⊢
      clear hr1 EM ME NE HE1 HOW HD HM HNW hO hll hbel
      go_wp2_with fail
      refine HEM.out.mono ?_
      rintro r w5 ⟨rfl, K5, P5⟩
      have HP5 := Lib.hid P5
      clear HEM K5 P5
      go_wp2_with fail
      go_loopw [21] (fun iv ws => ∃ (j : Nat) (d : De), j ≤ nw ∧ iv = .int .i64 j ∧ Hid (DpS w1.heap.size w4 pd w2.heap.size pz w3.heap.size 0 0 0 [[0]] e X (ownX (.slice q ll k) ++ []) d ws) ∧ Hid (MoI e l d) ∧ Hid (NoH j d) ∧ Hid (d.H.length = nw)) (fun iv _ => nw - (intOf iv).toNat)
      case atStart => exact ⟨0, d1, Nat.zero_le _, by go_num, HP5, HME, HNE, HHE1⟩
      case round =>
        obtain ⟨j, d, hj, rfl, HD, HM, HNO, HNW⟩ := hrel
        clear HP5 HME HNE HHE1
        have zs := HD.out.bel.size
        have bs := HD.out.bel
        by_cases hlt : j < nw
        · have DR := dp_drain (j : Int) E4.out HD.out
          obtain ⟨g1, g2, g3⟩ := HNO.out.drain (e := e) (by rw [HNW.out]; exact hlt)
          have MD := HM.out.drain HD.out.inv j
          obtain ⟨⟨d2, q2, n2⟩, hr2⟩ : ∃ r, r = drainD e d j := ⟨_, rfl⟩
          rw [← hr2] at DR g1 g2 g3 MD
          simp only at DR g1 g2 g3 MD
          subst g1
          simp only [errV] at DR
          have HDR := Lib.hid DR; have HMD := Lib.hid MD; have HG2 := Lib.hid g2
          have HG3 : Hid (d2.H.length = nw) := g3.trans HNW.out
          have j0 : (0 : Int) ≤ (j : Int) := by omega
          have j1 : (j : Int) < (nw : Int) := by omega
          clear DR g2 g3 MD hr2 bs
          go_wp2_with fail
          refine HDR.out.mono ?_
          rintro r w6 ⟨rfl, K6, P6⟩
          have HP6 := Lib.hid P6
          clear HDR K6 P6
          go_wp2
          go_roundw
          case rel => exact ⟨j + 1, d2, by omega, by go_num, HP6, HMD, HG2, HG3⟩
          case measure => simp [intOf]; omega
        · obtain rfl : j = nw := by omega
          have CT := dp_count HD.out
          have hlen := HM.out.end_ HD.out.inv (by have := HNO.out; rw [← HNW.out] at this; exact this.held)
          rw [obs_len_le] at hlen
          rw [hlen, ← HLL.out] at CT
          have HCT := Lib.hid CT
          have BW := Lib.hid (HKW.out _ bs)
          clear CT hlen bs
          go_wp2_with fail
          refine HCT.out.mono ?_
          rintro r w6 ⟨rfl, hb6⟩
          have B6 := Lib.hid (BW.out.trans (hb6.mono BW.out.size))
          clear HCT hb6
          go_wp2
          go_ret
          exact ⟨by simp, B6.out⟩
end Go.Proofs.YtcokmiidgdmdlaaGreatDoor
