/- Lemmas and contracts for the claim's last text: ZNew, ZLaw, SFull, SFullW, SDel, SShrink, STaken, SApart. -/
import Derived.Deep.RegionLaw
import Derived.Deep.DrawnRows
import Derived.Test.YtcokmiidgdmdlaaGreatDoorMo02
import Derived.Test.YtcokmiidgdmdlaaGreatDoorMo04
import Derived.Test.YtcokmiidgdmdlaaGreatDoorMo05
import Derived.Test.YtcokmiidgdmdlaaGreatDoorMo06
import Derived.Test.YtcokmiidgdmdlaaGreatDoorMo07
import Derived.Test.YtcokmiidgdmdlaaGreatDoorMo08
import Derived.Test.YtcokmiidgdmdlaaGreatDoorMo10
namespace Go.Proofs.YtcokmiidgdmdlaaGreatDoor
open Go.RowKit Go.Maps
set_option linter.unusedSimpArgs false
set_option linter.unusedVariables false
attribute [local go_sem ↓] Go.wp_at_zero Go.wp_at_succ

theorem cfg_ok {P : List Int} {N : List (List Int)} {mn lw hi : Int} (h : cfgE P N mn lw hi = 0) : 1 ≤ P.length ∧ P.length ≤ 4 ∧ (∀ p ∈ P, 1 ≤ p ∧ p ≤ 256) ∧ N.length = P.length ∧ (∀ l ∈ N, l.length = P.length) ∧ 0 ≤ mn ∧ mn ≤ lw ∧ lw ≤ hi := by
  unfold cfgE at h
  split at h
  · omega
  split at h
  · rename_i h1 h2
    have hb : bndC P N mn lw hi = true := by cases e : bndC P N mn lw hi with | true => rfl | false => exact absurd e h1
    unfold bndC marksC at hb
    unfold sqC at h2
    simp at hb h2
    obtain ⟨⟨⟨⟨b1, b2⟩, b3⟩, _⟩, b5⟩ := hb
    obtain ⟨⟨s1, s2⟩, _⟩ := h2
    refine ⟨by omega, b2, fun p hp => ?_, s1, fun l hl => ?_, by omega, by omega, by omega⟩
    · have := b3 p hp
      unfold noPg at this
      simp at this; omega
    · have := s2 l hl
      unfold lenNe at this
      simp at this; omega
  · omega

theorem srcV_at {w : World} {b : Nat} {u : Value} (h : w.cell? ⟨b, 0, none⟩ = some u) : SrcV w (some ⟨b, 0, none⟩) [u] :=
  .inr ⟨_, rfl, fun j x hj => by
    rw [addr_add]
    cases j with
    | zero => simp at hj; subst hj; exact h
    | succ j => simp at hj⟩
theorem Keep.cell0 {S : List Nat} {w w' : World} (k : Keep S w w') {b : Nat} (h1 : b < w.heap.size) (h2 : b ∉ S) {u : Value} (h : w.cell? ⟨b, 0, none⟩ = some u) : w'.cell? ⟨b, 0, none⟩ = some u := (k.cell h1 h2).trans h

/-- a zone that is being made: i nodes are there -/
structure NewSt (B : Nat) (X : List Nat) (w : World) (pz : Nat) (cs : List Value) (qn : Option Addr) (kn : Nat) (qo : Option Addr) (ko : Nat) (i : Nat) (L : List Nd) (us : List Value) (O : List (List Int)) : Prop where
  z : LocN w pz (cs ++ [.slice qn i kn, .slice qo i ko])
  on : w.ownsRow (pz + 1) 118 1 (.slice qn i kn) i (ptrs L)
  oo : w.ownsRow (pz + 1) 22 1 (.slice qo i ko) i us
  ne : ∀ g ∈ ownX (.slice qn i kn), g ∉ ownX (.slice qo i ko)
  b : Buds B w L
  far : ∀ x ∈ L, ∀ a, a = x.pb ∨ a = x.bf ∨ a = x.bt → a ≠ pz ∧ a ∉ ownX (.slice qn i kn) ∧ a ∉ ownX (.slice qo i ko)
  rows : ∀ (j : Nat) (u : Value) (D : List Int), us[j]? = some u → O[j]? = some D → RowV (ys L ++ pz :: (ownX (.slice qn i kn) ++ ownX (.slice qo i ko))) w u (ints D)
  lO : O.length = i
  lL : L.length = i
  lu : us.length = i
theorem NewSt.start {B : Nat} {X : List Nat} {w : World} {pz : Nat} {cs : List Value} (h : LocN w pz (cs ++ [.slice none 0 0, .slice none 0 0])) : NewSt B X w pz cs none 0 none 0 0 [] [] [] :=
  ⟨h, World.ownsRow_nil _ _ _ _, World.ownsRow_nil _ _ _ _, fun g hg => by simp [ownX, Value.ownBlock] at hg, ⟨(fun x hx => by cases hx), (by simp [ys]), (fun x hx => by cases hx), (fun y hy => by simp [ys] at hy)⟩, (fun x hx => by cases hx), (fun j u D hj => by simp at hj), rfl, rfl, rfl⟩
theorem NewSt.step {B : Nat} {X : List Nat} {w0 w3 W1 w4 W2 w6 w7 : World} {pz : Nat} {cs : List Value} {qn qo qn' qo' : Option Addr} {kn ko kn' ko' i : Nat} {L : List Nd} {us : List Value} {O : List (List Int)} (h : NewSt B X w0 pz cs qn kn qo ko i L us O)
    (hB : B ≤ w0.heap.size) (hb3 : Below w0.heap.size w0 w3) (x : Nd) (hx : Bud w3 x.pb x.n x.bf x.bt x.F x.T) (hi : Inv x.n x.F x.T) (h1 : w0.heap.size ≤ x.pb) (h2 : w0.heap.size ≤ x.bf) (h3 : w0.heap.size ≤ x.bt)
    {g cap : Nat} {D : List Int} {n : Nat} (hD : LocN w3 g (ints D)) (hg : w0.heap.size ≤ g) (hgp : x.bf ≠ g ∧ x.bt ≠ g) (hn : D.length = n) (hcap : n ≤ cap) (hmx : cap ≤ maxLen)
    (K1 : Keep [] w3 W1) (hg4 : W1.grownBy w4 (Value.slice qn i kn).ownBlock) (ho4 : (Value.slice qn' (i + 1) kn').ownBlock = (Value.slice qn i kn).ownBlock ∨ (Value.slice qn' (i + 1) kn').ownBlock = some W1.heap.size)
    (on4 : w4.ownsRow (pz + 1) 118 1 (.slice qn' (i + 1) kn') (i + 1) (ptrs (L ++ [x])))
    (K2 : Keep [] w4 W2) (hg6 : W2.grownBy w6 (Value.slice qo i ko).ownBlock) (ho6 : (Value.slice qo' (i + 1) ko').ownBlock = (Value.slice qo i ko).ownBlock ∨ (Value.slice qo' (i + 1) ko').ownBlock = some W2.heap.size)
    (oo6 : w6.ownsRow (pz + 1) 22 1 (.slice qo' (i + 1) ko') (i + 1) (us ++ [.slice (some ⟨g, 0, none⟩) n cap]))
    (hcs : cs.length = 5) (e7 : w7 = (w6.setCell ⟨pz, 5, none⟩ (.slice qn' (i + 1) kn')).setCell ⟨pz, 6, none⟩ (.slice qo' (i + 1) ko')) :
    NewSt B X w7 pz cs qn' kn' qo' ko' (i + 1) (L ++ [x]) (us ++ [.slice (some ⟨g, 0, none⟩) n cap]) (O ++ [D]) ∧ Keep (pz :: (ownX (.slice qn i kn) ++ ownX (.slice qo i ko))) w3 w7 := by
  have s3 := hb3.size
  have zl := h.z.lt
  have sW1 := K1.size
  have s4 := hg4.size
  have sW2 := K2.size
  have s6 := hg6.size
  have onl : ∀ a ∈ ownX (.slice qn i kn), pz + 1 ≤ a ∧ a < w0.heap.size := fun a ha => ownX_ge h.on ha
  have ool : ∀ a ∈ ownX (.slice qo i ko), pz + 1 ≤ a ∧ a < w0.heap.size := fun a ha => ownX_ge h.oo ha
  have on4l : ∀ a ∈ ownX (.slice qn' (i + 1) kn'), pz + 1 ≤ a ∧ a < w4.heap.size := fun a ha => ownX_ge on4 ha
  have onew : ∀ a ∈ ownX (.slice qn' (i + 1) kn'), a ∈ ownX (.slice qn i kn) ∨ w3.heap.size ≤ a := fun a ha => (app_own ho4 a ha).imp id (fun r => by omega)
  have oonew : ∀ a ∈ ownX (.slice qo' (i + 1) ko'), a ∈ ownX (.slice qo i ko) ∨ w4.heap.size ≤ a := fun a ha => (app_own ho6 a ha).imp id (fun r => by omega)
  have k34 : Keep (ownX (.slice qn i kn)) w3 w4 := (K1.mono (fun s hs => by cases hs)).then (app_keep hg4)
  have k46 : Keep (ownX (.slice qo i ko)) w4 w6 := (K2.mono (fun s hs => by cases hs)).then (app_keep hg6)
  have k67 : Keep [pz] w6 w7 := by rw [e7]; exact ((Keep.refl _ _).setCell (.inl (by simp)) _).setCell (.inl (by simp)) _
  have k47 : Keep (pz :: ownX (.slice qo i ko)) w4 w7 := (k46.mono (fun s hs => List.mem_cons_of_mem _ hs)).then (k67.mono (fun s hs => by simp at hs; simp [hs]))
  have k37 : Keep (pz :: (ownX (.slice qn i kn) ++ ownX (.slice qo i ko))) w3 w7 := (k34.mono (fun s hs => by simp [hs])).then (k47.mono (fun s hs => by simp at hs ⊢; rcases hs with q | q; (· exact .inl q); (· exact .inr (.inr q))))
  have z3 := h.z.go hb3
  have z6 : LocN w6 pz (cs ++ [.slice qn i kn, .slice qo i ko]) := (z3.keep k34 (fun q => by have := onl _ q; omega)).keep k46 (fun q => by have := ool _ q; omega)
  have z7 : LocN w7 pz (cs ++ [.slice qn' (i + 1) kn', .slice qo' (i + 1) ko']) := by
    have := (z6.store 5 (.slice qn' (i + 1) kn') (by simp [hcs])).store 6 (.slice qo' (i + 1) ko') (by simp [hcs])
    rw [e7]
    simpa [List.set_append, hcs] using this
  have bu3 := h.b.snoc hb3 x hx hi hB h1 h2 h3
  have farn : ∀ a, a = x.pb ∨ a = x.bf ∨ a = x.bt → a < w3.heap.size ∧ w0.heap.size ≤ a := fun a ha => by
    rcases ha with rfl | rfl | rfl
    · exact ⟨hx.ltp, h1⟩
    · exact ⟨hx.ltf, h2⟩
    · exact ⟨hx.ltt, h3⟩
  have far0 : ∀ y ∈ L ++ [x], ∀ a, a = y.pb ∨ a = y.bf ∨ a = y.bt → a < w3.heap.size ∧ a ≠ pz ∧ a ∉ ownX (.slice qn i kn) ∧ a ∉ ownX (.slice qo i ko) := fun y hy a ha => by
    rcases List.mem_append.1 hy with q | q
    · obtain ⟨f1, f2, f3⟩ := h.far y q a ha
      have b0 := (h.b.bud y q).1
      have : a < w0.heap.size := by
        rcases ha with rfl | rfl | rfl
        · exact b0.ltp
        · exact b0.ltf
        · exact b0.ltt
      exact ⟨by omega, f1, f2, f3⟩
    · simp at q; subst q
      obtain ⟨f1, f2⟩ := farn a ha
      exact ⟨f1, by omega, fun q => by have := onl _ q; omega, fun q => by have := ool _ q; omega⟩
  have bu7 : Buds B w7 (L ++ [x]) := bu3.keep k37 (fun y hy => by
    have a1 := far0 y hy _ (.inl rfl); have a2 := far0 y hy _ (.inr (.inl rfl)); have a3 := far0 y hy _ (.inr (.inr rfl))
    simp only [List.mem_cons, List.mem_append, not_or]
    exact ⟨a1.2, a2.2, a3.2⟩)
  have on7 : w7.ownsRow (pz + 1) 118 1 (.slice qn' (i + 1) kn') (i + 1) (ptrs (L ++ [x])) := own_keep on4 k47 (fun a ha q => by
    have l4 := on4l a q
    simp at ha
    rcases ha with rfl | ha
    · omega
    · rcases onew a q with r | r
      · exact h.ne a r ha
      · have := ool a ha; omega)
  have oo7 : w7.ownsRow (pz + 1) 22 1 (.slice qo' (i + 1) ko') (i + 1) (us ++ [.slice (some ⟨g, 0, none⟩) n cap]) := own_keep oo6 k67 (fun a ha q => by
    simp at ha; subst ha
    have := ownX_ge oo6 q; omega)
  have gl : g < w3.heap.size := hD.lt
  have hSS : ∀ s ∈ pz :: (ownX (.slice qn i kn) ++ ownX (.slice qo i ko)), s ∈ ys L ++ pz :: (ownX (.slice qn i kn) ++ ownX (.slice qo i ko)) := fun s hs => List.mem_append_right _ hs
  refine ⟨⟨z7, on7, oo7, fun a ha hb => ?_, bu7, fun y hy a ha => ?_, fun j u D' hj hD' => ?_, by simp [h.lO], by simp [h.lL], by simp [h.lu]⟩, k37⟩
  · rcases onew a ha with r | r
    · rcases oonew a hb with r2 | r2
      · exact h.ne a r r2
      · have := onl a r; omega
    · rcases oonew a hb with r2 | r2
      · have := ool a r2; omega
      · have := (on4l a ha).2; omega
  · obtain ⟨f1, f2, f3, f4⟩ := far0 y hy a ha
    exact ⟨f2, fun q => by rcases onew a q with r | r; (· exact f3 r); (· omega), fun q => by rcases oonew a q with r | r; (· exact f4 r); (· omega)⟩
  · by_cases e : j < us.length
    · rw [List.getElem?_append_left e] at hj
      rw [List.getElem?_append_left (by rw [h.lO, ← h.lu]; exact e)] at hD'
      have r0 := (h.rows j u D' hj hD').below hb3
      have r1 := (h.rows j u D' hj hD').more (Y := (ys (L ++ [x]) ++ pz :: (ownX (.slice qn' (i + 1) kn') ++ ownX (.slice qo' (i + 1) ko'))) ++ (ys L ++ pz :: (ownX (.slice qn i kn) ++ ownX (.slice qo i ko)))) (fun y hy => by
        simp only [ys_snoc, List.mem_append, List.mem_cons] at hy ⊢
        rcases hy with ((hy | hy) | hy | hy | hy) | hy
        · exact .inl (.inl hy)
        · simp at hy; rcases hy with rfl | rfl <;> exact .inr (by omega)
        · exact .inl (.inr (.inl hy))
        · rcases onew y hy with r | r
          · exact .inl (.inr (.inr (.inl r)))
          · exact .inr (by omega)
        · rcases oonew y hy with r | r
          · exact .inl (.inr (.inr (.inr r)))
          · exact .inr (by omega)
        · exact .inl hy)
      exact ((r1.below hb3).keep k37 (fun s hs => .inl (List.mem_append_right _ (hSS s hs)))).sub (fun y hy => List.mem_append_left _ hy)
    · have hl := (List.getElem?_eq_some_iff.1 hj).1
      simp at hl
      have e2 : j = us.length := by omega
      subst e2
      rw [List.getElem?_append_right (Nat.le_refl _)] at hj
      rw [h.lu, ← h.lO, List.getElem?_append_right (Nat.le_refl _)] at hD'
      simp at hj hD'
      subst hj hD'
      have r3 : RowV ((ys (L ++ [x]) ++ pz :: (ownX (.slice qn' (i + 1) kn') ++ ownX (.slice qo' (i + 1) ko'))) ++ (pz :: (ownX (.slice qn i kn) ++ ownX (.slice qo i ko)))) w3 (.slice (some ⟨g, 0, none⟩) n cap) (ints D) := by
        have := loc_row (X := (ys (L ++ [x]) ++ pz :: (ownX (.slice qn' (i + 1) kn') ++ ownX (.slice qo' (i + 1) ko'))) ++ (pz :: (ownX (.slice qn i kn) ++ ownX (.slice qo i ko)))) (cap := cap) hD (fun q => by
          simp only [ys_snoc, List.mem_append, List.mem_cons] at q
          rcases q with ((q | q) | q | q | q) | q | q | q
          · have := (h.b.lim g q).2; omega
          · simp at q; rcases q with q | q
            · exact hgp.1 q.symm
            · exact hgp.2 q.symm
          · omega
          · rcases onew g q with r | r
            · have := onl g r; omega
            · omega
          · rcases oonew g q with r | r
            · have := ool g r; omega
            · omega
          · omega
          · have := onl g q; omega
          · have := ool g q; omega) (by rw [ints_length]; omega) hmx
        rwa [ints_length, hn] at this
      exact (r3.keep k37 (fun s hs => .inl (List.mem_append_right _ hs))).sub (fun y hy => List.mem_append_left _ hy)

/-- the relation of New's loop -/
def NewRel (X : List Nat) (P : List Int) (N : List (List Int)) (w w1 : World) (n : Nat) (cs : List Value) (i : Nat) (qn qo : Option Addr) (kn ko : Nat) (L : List Nd) (us : List Value) (O : List (List Int)) (wr : World) : Prop :=
  NewSt w.heap.size X wr w1.heap.size cs qn kn qo ko i L us O ∧ L.map (·.n) = P.take i ∧ (∀ x ∈ L, x.F = covL 0 x.n ∧ x.T = []) ∧ (∀ (j : Nat) (l D : List Int), N[j]? = some l → O[j]? = some D → OrdTo l n D) ∧ Below w1.heap.size w1 wr
theorem NewRel.next {X : List Nat} {P : List Int} {N : List (List Int)} {w w1 wr w2 w3 W1 w4 W2 w6 : World} {n i : Nat} {cs : List Value} {qn qo qn' qo' : Option Addr} {kn ko kn' ko' : Nat} {L : List Nd} {us : List Value} {O : List (List Int)} (h : NewRel X P N w w1 n cs i qn qo kn ko L us O wr)
    (KW : Below w.heap.size w wr) (hb2 : Below wr.heap.size wr w2) (hb3 : Below w2.heap.size w2 w3) {pb bf bt : Nat} {x : Int} (hbud : Bud w2 pb x bf bt (covL 0 x) []) (hx : 1 ≤ x ∧ x ≤ 256) (g1 : wr.heap.size ≤ pb) (g2 : wr.heap.size ≤ bf) (g3 : wr.heap.size ≤ bt)
    {g cp : Nat} {D l : List Int} (hD : LocN w3 g (ints D)) (hg : w2.heap.size ≤ g) (hO : OrdTo l n D) (hcap : n ≤ cp) (hmx : cp ≤ maxLen) (hP : P[i]? = some x) (hN : N[i]? = some l)
    (K1 : Keep [] w3 W1) (hg4 : W1.grownBy w4 (Value.slice qn i kn).ownBlock) (ho4 : (Value.slice qn' (i + 1) kn').ownBlock = (Value.slice qn i kn).ownBlock ∨ (Value.slice qn' (i + 1) kn').ownBlock = some W1.heap.size)
    (on4 : w4.ownsRow (w1.heap.size + 1) 118 1 (.slice qn' (i + 1) kn') (i + 1) (ptrs L ++ [.pointer (some ⟨pb, 0, none⟩)]))
    (K2 : Keep [] w4 W2) (hg6 : W2.grownBy w6 (Value.slice qo i ko).ownBlock) (ho6 : (Value.slice qo' (i + 1) ko').ownBlock = (Value.slice qo i ko).ownBlock ∨ (Value.slice qo' (i + 1) ko').ownBlock = some W2.heap.size)
    (oo6 : w6.ownsRow (w1.heap.size + 1) 22 1 (.slice qo' (i + 1) ko') (i + 1) (us ++ [.slice (some ⟨g, 0, none⟩) n cp])) (hcs : cs.length = 5) :
    NewRel X P N w w1 n cs (i + 1) qn' qo' kn' ko' (L ++ [⟨pb, bf, bt, x, covL 0 x, []⟩]) (us ++ [.slice (some ⟨g, 0, none⟩) n cp]) (O ++ [D]) ((w6.setCell ⟨w1.heap.size, 5, none⟩ (.slice qn' (i + 1) kn')).setCell ⟨w1.heap.size, 6, none⟩ (.slice qo' (i + 1) ko')) := by
  obtain ⟨st, hLn, hLF, hOO, hbel⟩ := h
  have z2 := hb2.size
  have hlf := hbud.ltf; have hlt := hbud.ltt
  have zl := st.z.lt
  obtain ⟨s1, k37⟩ := st.step KW.size (hb2.trans (hb3.mono z2)) ⟨pb, bf, bt, x, covL 0 x, []⟩ (hbud.below hb3) (Inv.start hx.1 hx.2) g1 g2 g3 hD (by omega) (by simp; omega) hO.len hcap hmx K1 hg4 ho4 (by rw [ptrs_snoc]; exact on4) K2 hg6 ho6 oo6 hcs rfl
  refine ⟨s1, ?_, fun y hy => ?_, fun j l' D' hj hD' => ?_, ?_⟩
  · rw [List.map_append, hLn, List.take_add_one, hP]; rfl
  · rcases List.mem_append.1 hy with q | q
    · exact hLF y q
    · simp at q; subst q; exact ⟨rfl, rfl⟩
  · by_cases e : j < O.length
    · rw [List.getElem?_append_left e] at hD'
      exact hOO j l' D' hj hD'
    · have hl := (List.getElem?_eq_some_iff.1 hD').1
      simp at hl
      have e2 : j = i := by have := st.lO; omega
      subst e2
      rw [hN] at hj; obtain rfl := Option.some.inj hj
      rw [List.getElem?_append_right (by omega)] at hD'
      have : j - O.length = 0 := by omega
      rw [this] at hD'; simp at hD'; subst hD'
      exact hO
  · have z3 := hb3.size
    have zr := hbel.size
    refine hbel.trans (((hb2.mono zr).trans (hb3.mono (by omega))).trans (k37.below (by omega) fun s hs => ?_))
    simp at hs
    rcases hs with rfl | hs | hs
    · exact Nat.le_refl _
    · have := ownX_ge st.on hs; omega
    · have := ownX_ge st.oo hs; omega
theorem NewRel.fin {X : List Nat} {P : List Int} {N : List (List Int)} {w w1 wr : World} {n : Nat} {u0 u1 : Value} {mn lw hi : Int} {qn qo : Option Addr} {kn ko : Nat} {L : List Nd} {us : List Value} {O : List (List Int)} (h : NewRel X P N w w1 n [u0, u1, .int .i64 mn, .int .i64 lw, .int .i64 hi] n qn qo kn ko L us O wr)
    (hm : 0 ≤ mn ∧ mn ≤ lw ∧ lw ≤ hi ∧ hi ≤ 9223372036854775807) (hN : N.length = n) :
    ZoneB w.heap.size ((wr.setCell ⟨w1.heap.size, 0, none⟩ (.slice none 0 0)).setCell ⟨w1.heap.size, 1, none⟩ (.slice none 0 0)) w1.heap.size mn lw hi O L := by
  obtain ⟨st, hLn, hLF, hOO, hbel⟩ := h
  have lL := st.lL
  have k : Keep [w1.heap.size] wr ((wr.setCell ⟨w1.heap.size, 0, none⟩ (.slice none 0 0)).setCell ⟨w1.heap.size, 1, none⟩ (.slice none 0 0)) := ((Keep.refl _ _).setCell (p := ⟨w1.heap.size, 0, none⟩) (.inl (by simp)) _).setCell (p := ⟨w1.heap.size, 1, none⟩) (.inl (by simp)) _
  have hy : ∀ y ∈ ys L, y ≠ w1.heap.size ∧ y ∉ ownX (.slice qn n kn) ∧ y ∉ ownX (.slice qo n ko) := fun y hy => by
    obtain ⟨x, hx, q⟩ := ys_mem.1 hy
    exact st.far x hx y (.inr q)
  refine ⟨⟨qn, kn, qo, ko, ?_, ?_, ?_⟩, ?_, ?_, ?_, hm⟩
  · rw [lL]
    exact (st.z.store 0 (.slice none 0 0) (by simp)).store 1 (.slice none 0 0) (by simp)
  · rw [lL]
    have lp : (ptrs L).length = n := by rw [ptrs_length]; exact lL
    have o := st.on
    rw [← lp] at o hy ⊢
    have r := own_rowV (X := w1.heap.size :: ys L) o (fun x hx g hg e => by
      rcases List.mem_cons.1 hx with rfl | hx
      · have := o.lt g hg; omega
      · exact (hy x hx).2.1 (ownX_mem.2 (e ▸ hg)))
    exact (r.keep k (fun s hs => by simp at hs; subst hs; exact .inl (by simp))).sub (fun s hs => List.mem_cons_of_mem _ hs)
  · rw [lL]
    refine ⟨us, by rw [st.lu, st.lO], ?_, fun j u D hj hD => ?_⟩
    · have o := st.oo
      have lu := st.lu
      rw [← lu] at o hy ⊢
      have r := own_rowV (X := w1.heap.size :: ys L) o (fun x hx g hg e => by
        rcases List.mem_cons.1 hx with rfl | hx
        · have := o.lt g hg; omega
        · exact (hy x hx).2.2 (ownX_mem.2 (e ▸ hg)))
      exact (r.keep k (fun s hs => by simp at hs; subst hs; exact .inl (by simp))).sub (fun s hs => List.mem_cons_of_mem _ hs)
    · have r := st.rows j u D hj hD
      exact (r.keep k (fun s hs => by simp at hs; subst hs; exact .inl (by simp))).sub (fun s hs => List.mem_append_left _ hs)
  · exact st.b.keep k (fun x hx => by
      have a1 := (st.far x hx _ (.inl rfl)).1; have a2 := (st.far x hx _ (.inr (.inl rfl))).1; have a3 := (st.far x hx _ (.inr (.inr rfl))).1
      simp; exact ⟨a1, a2, a3⟩)
  · exact fun q => (hy _ q).1 rfl
  · refine ⟨by rw [st.lO, lL], fun D hD => ?_⟩
    obtain ⟨j, hj⟩ := List.getElem?_of_mem hD
    have hjl := (List.getElem?_eq_some_iff.1 hj).1
    have hjn : j < N.length := by rw [hN, ← st.lO]; exact hjl
    have o := hOO j N[j] D (List.getElem?_eq_getElem hjn) hj
    rw [lL]
    exact ⟨o.len, o.mem⟩

/-- what New comes to -/
def NewPost (P : List Int) (N : List (List Int)) (mn lw hi : Int) (w : World) (e : Ending) (w' : World) : Prop :=
  ∃ (pz : Nat) (O : List (List Int)) (L : List Nd), e = .returned (.tuple #[.pointer (some ⟨pz, 0, none⟩), .nilIface]) ∧ ZoneB w.heap.size w' pz mn lw hi O L ∧ w.heap.size ≤ pz ∧ L.map (·.n) = P ∧ (∀ x ∈ L, x.F = covL 0 x.n ∧ x.T = []) ∧ (∀ (i : Nat) (l D : List Int), N[i]? = some l → O[i]? = some D → OrdTo l P.length D) ∧ Below w.heap.size w w'

set_option maxHeartbeats 16000000 in
set_option maxRecDepth 100000 in
theorem newZone_ok {B : Nat} {ev : Nat → Addr} (X : List Nat) (vP vN : Value) (P : List Int) (N : List (List Int)) (mn lw hi : Int) (w : World) (hE : ErrC B ev w) (h : Cfg X w vP vN P N) (hc : cfgE P N mn lw hi = 0) (hhi : hi ≤ 9223372036854775807) :
    Calls Tryz.prog 14 #[.agg #[vP, vN, .int .i64 mn, .int .i64 lw, .int .i64 hi]] w (NewPost P N mn lw hi w) := by
  have hB := hE.size
  obtain ⟨c1, c2, c3, c4, c5, c6, c7, c8⟩ := cfg_ok hc
  obtain ⟨p, cap, rfl, hcp, hmx, hcl⟩ := h.p.int
  obtain ⟨q, k, rfl, hck, hkm, _⟩ := h.n.form
  have L0 : LocN (w.alloc (.cells [.slice p P.length cap, .slice q N.length k, .int .i64 mn, .int .i64 lw, .int .i64 hi].toArray 36)) w.heap.size [.slice p P.length cap, .slice q N.length k, .int .i64 mn, .int .i64 lw, .int .i64 hi] := LocN.new w _ _
  have hb0 : Below w.heap.size w (w.alloc (.cells [.slice p P.length cap, .slice q N.length k, .int .i64 mn, .int .i64 lw, .int .i64 hi].toArray 36)) := (by repeat (first | exact Below.refl _ _ | refine Below.drew ?_ | refine below_drewN ?_ _ | refine Below.trans ?_ (Below.mono (by assumption) (by first | omega | (simp; omega) | (simp; done))) | refine Below.alloc ?_ (by first | omega | (simp; omega) | (simp; done)) _ | refine Below.setCell ?_ (by first | omega | (simp; omega) | (simp; done)) _))
  have CH := check_any X _ _ P N mn lw hi _ (hE.below (hb0.mono hB)) (h.below hb0)
  rw [hc, show errV ev 0 = Value.nilIface from rfl] at CH
  have CH' := Lib.hid CH
  have HL0 := Lib.hid L0; have HB0 := Lib.hid hb0
  have HH := Lib.hid h; have HC := Lib.hid hc; have CLl := Lib.hid hcl
  have C3 := Lib.hid c3; have C4 := Lib.hid c4; have C5 := Lib.hid c5
  obtain ⟨n, hn⟩ : ∃ n, n = P.length := ⟨_, rfl⟩
  rw [c4] at HL0 HB0 HH CH' hck ⊢
  rw [← hn] at c1 c2 HL0 HB0 HH CH' hck hcp ⊢
  have HN := Lib.hid hn
  have C4' : Hid (N.length = n) := by show _ = _; rw [C4.out]; exact HN.out.symm
  unfold maxLen at hmx hkm
  clear CH h hc hn hb0 L0 c3 c4 c5 hcl
  go_enter Tryz.func14, Tryz.ntmps14
  go_wp2_with fail
  refine CH'.out.mono ?_
  rintro e w1 ⟨rfl, hb1⟩
  have K1 : Below w.heap.size w w1 := HB0.out.trans (hb1.mono (by simp))
  have M0 := Lib.hid (HL0.out.go hb1)
  have z1 := K1.size
  have m0 := M0.out.c 0 _ rfl; have m1 := M0.out.c 1 _ rfl; have m2 := M0.out.c 2 _ rfl; have m3 := M0.out.c 3 _ rfl; have m4 := M0.out.c 4 _ rfl; have ml := M0.out.lt
  clear CH' HL0 HB0 hb1
  have ST0 : Hid (NewSt w.heap.size X (w1.alloc (.cells #[.slice p n cap, .slice q n k, .int .i64 mn, .int .i64 lw, .int .i64 hi, .slice none 0 0, .slice none 0 0] 117)) w1.heap.size [.slice p n cap, .slice q n k, .int .i64 mn, .int .i64 lw, .int .i64 hi] none 0 none 0 0 [] [] []) := NewSt.start (LocN.new w1 [.slice p n cap, .slice q n k, .int .i64 mn, .int .i64 lw, .int .i64 hi, .slice none 0 0, .slice none 0 0] _)
  have B0 : Below w1.heap.size w1 (w1.alloc (.cells #[.slice p n cap, .slice q n k, .int .i64 mn, .int .i64 lw, .int .i64 hi, .slice none 0 0, .slice none 0 0] 117)) := (by repeat (first | exact Below.refl _ _ | refine Below.drew ?_ | refine below_drewN ?_ _ | refine Below.trans ?_ (Below.mono (by assumption) (by first | omega | (simp; omega) | (simp; done))) | refine Below.alloc ?_ (by first | omega | (simp; omega) | (simp; done)) _ | refine Below.setCell ?_ (by first | omega | (simp; omega) | (simp; done)) _))
  go_wp2_with fail
  go_loopw [22] (fun iv wr => ∃ (i : Nat) (qn qo : Option Addr) (kn ko : Nat) (L : List Nd) (us : List Value) (O : List (List Int)), i ≤ n ∧ iv = .int .i64 i ∧ NewRel X P N w w1 n [.slice p n cap, .slice q n k, .int .i64 mn, .int .i64 lw, .int .i64 hi] i qn qo kn ko L us O wr) (fun iv _ => n - (intOf iv).toNat)
  case atStart => exact ⟨0, none, none, 0, 0, [], [], [], Nat.zero_le _, by go_num, ST0.out, (show _ = _ by simp), (fun x hx => by cases hx), (fun j l D _ hD => by simp at hD), B0⟩
  case round =>
    obtain ⟨i, qn, qo, kn, ko, L, us, O, hiN, rfl, hR⟩ := hrel
    have HR := Lib.hid hR
    have ST := Lib.hid hR.1
    have hbel := hR.2.2.2.2
    clear hR
    clear ST0 B0
    have zr := hbel.size
    have zl : w1.heap.size < wr.heap.size := ST.out.z.lt
    have KW : Below w.heap.size w wr := K1.trans (hbel.mono z1)
    by_cases hin : i < n
    · obtain ⟨x, hx⟩ : ∃ x, P[i]? = some x := ⟨P[i]'(by rw [← HN.out]; exact hin), List.getElem?_eq_getElem _⟩
      obtain ⟨l, hl⟩ : ∃ l, N[i]? = some l := ⟨N[i]'(by rw [C4.out, ← HN.out]; exact hin), List.getElem?_eq_getElem _⟩
      obtain ⟨gp, op, rfl, _, hgp, hcx⟩ := CLl.out i x hx
      have r1 := (KW.cell (p := ⟨gp, op + i, none⟩) hgp).trans hcx
      have gr : gp < wr.heap.size := by omega
      have hxr := C3.out x (List.mem_of_getElem? hx)
      have NB := Lib.hid (new_ok x wr hxr.1 hxr.2)
      have HX1 := Lib.hid hx; have HL1 := Lib.hid hl
      clear hcx hx hl
      go_wp2_with fail
      refine NB.out.mono ?_
      rintro e w2 ⟨pb, bf, bt, rfl, hbud, ⟨g1, g2, g3⟩, hb2⟩
      have HBU := Lib.hid hbud
      have z2 := hb2.size
      have K2 : Below w.heap.size w w2 := KW.trans (hb2.mono (by omega))
      have M2 := ((M0.out.go hbel).go hb2)
      have a0 := M2.c 0 _ rfl; have a1 := M2.c 1 _ rfl; have a2 := M2.c 2 _ rfl; have a3 := M2.c 3 _ rfl; have a4 := M2.c 4 _ rfl; have al := M2.lt
      have OK' := order_ok X _ _ P N mn lw hi i l w2 (hE.below (K2.mono hB)) (HH.out.below K2) HC.out HL1.out (C5.out l (List.mem_of_getElem? HL1.out)) C4.out (by rw [← HN.out]; exact c2)
      rw [← HN.out] at OK'
      have OK2 := Lib.hid OK'
      clear NB hbud M2 OK'
      go_wp2_with fail
      refine OK2.out.mono ?_
      rintro e w3 ⟨g, cp, D, rfl, hO, hD, hg, hgc, hgm, hb3⟩
      have KR3 : Below wr.heap.size wr w3 := hb2.trans (hb3.mono z2)
      have HOD := Lib.hid hO; have HDD := Lib.hid hD
      have Z3 := Lib.hid (ST.out.z.go KR3)
      have y5 := Z3.out.c 5 _ rfl; have y6 := Z3.out.c 6 _ rfl; have yl := Z3.out.lt
      have z3 := KR3.size
      clear hO hD OK2 a0 a1 a2 a3 a4 al
      have lp : (ptrs L).length = i := by rw [ptrs_length]; exact ST.out.lL
      have lu := ST.out.lu
      have ON : Hid (∀ W, Keep [] w3 W → W.ownsRow (w1.heap.size + 1) 118 1 (.slice qn i kn) (ptrs L).length (ptrs L)) := fun W k => by rw [lp]; exact own_keep ST.out.on ((Keep.of (S := []) KR3).then k) (fun x hx => by cases hx)
      have Z4 : Hid (∀ W1 w4 W2, Keep [] w3 W1 → W1.grownBy w4 (Value.slice qn i kn).ownBlock → Keep [] w4 W2 → LocN W2 w1.heap.size [.slice (some ⟨gp, op, none⟩) n cap, .slice q n k, .int .i64 mn, .int .i64 lw, .int .i64 hi, .slice qn i kn, .slice qo i ko]) := fun W1 w4 W2 k1 hg k2 => ((Z3.out.keep k1 (by simp)).keep (app_keep hg) (fun hq => by have := ownX_ge ST.out.on hq; omega)).keep k2 (by simp)
      have OO : Hid (∀ W1 w4 W2, Keep [] w3 W1 → W1.grownBy w4 (Value.slice qn i kn).ownBlock → Keep [] w4 W2 → W2.ownsRow (w1.heap.size + 1) 22 1 (.slice qo i ko) us.length us) := fun W1 w4 W2 k1 hg k2 => by
        rw [lu]
        exact own_keep (own_keep (own_keep ST.out.oo ((Keep.of (S := []) KR3).then k1) (fun x hx => by cases hx)) (app_keep hg) (fun x hx q => ST.out.ne x hx q)) k2 (fun x hx => by cases hx)
      have Z6 : Hid (∀ W1 w4 W2 w6, Keep [] w3 W1 → W1.grownBy w4 (Value.slice qn i kn).ownBlock → Keep [] w4 W2 → W2.grownBy w6 (Value.slice qo i ko).ownBlock → LocN w6 w1.heap.size [.slice (some ⟨gp, op, none⟩) n cap, .slice q n k, .int .i64 mn, .int .i64 lw, .int .i64 hi, .slice qn i kn, .slice qo i ko]) := fun W1 w4 W2 w6 k1 hg k2 hg6 => (Z4.out W1 w4 W2 k1 hg k2).keep (app_keep hg6) (fun hq => by have := ownX_ge ST.out.oo hq; omega)
      have NOX : Hid (∀ b, w3.heap.size ≤ b → b ∉ ownX (.slice qn i kn)) := fun b hb q => by have := (ownX_ge ST.out.on q).2; omega
      have SZ : Hid (∀ W, Keep [] w3 W → w1.heap.size + 1 ≤ W.heap.size) := fun W k => by have := k.size; omega
      have E4 : Hid ((ptrs L ++ [Value.pointer (some ⟨pb, 0, none⟩)]).length = i + 1) := by show _ = _; simp [lp]
      have E6 : Hid ((us ++ [Value.slice (some ⟨g, 0, none⟩) n cp]).length = i + 1) := by show _ = _; simp [lu]
      have HLP := Lib.hid lp; have HLU := Lib.hid lu
      clear lp lu
      go_wp2_with fail
      go_region_law (first
        | (refine step_app1 (base := w1.heap.size + 1) (v := .slice qn i kn) (us := ptrs L) (ms := [.pointer (some ⟨pb, 0, none⟩)]) elNode (by rfl) (.tmp 49) (.tmp 51) (by rfl) (by rfl) 1 (by rfl) rfl (ON.out _ (by repeat (first | exact Keep.refl _ _ | refine Keep.alloc ?_ _ | refine Keep.drew ?_))) (by refine srcV_at ?_; (try simp only [World.cell?_drew]); first | (rw [World.cell?_alloc_at _ _ _ _ (by first | omega | (simp; omega) | (simp; done))]; rfl) | (rw [World.cell?_alloc_past _ _ _ (by first | omega | (simp; omega) | (simp; done))]; rw [World.cell?_alloc_at _ _ _ _ (by first | omega | (simp; omega) | (simp; done))]; rfl)) (by intro x hx; simp at hx; subst hx; rfl) (by rw [HLP.out]; simp; omega) (SZ.out _ (by repeat (first | exact Keep.refl _ _ | refine Keep.alloc ?_ _ | refine Keep.drew ?_))) ?_; intro qn' kn' w4 hown4 hg4 ho4; rw [E4.out] at hown4 ho4 ⊢; have X4 := Z4.out _ w4 w4 (by repeat (first | exact Keep.refl _ _ | refine Keep.alloc ?_ _ | refine Keep.drew ?_)) hg4 (Keep.refl _ _); have v6 := X4.c 6 _ rfl; have vl := X4.lt; clear X4)
        | (refine step_app1 (base := w1.heap.size + 1) (v := .slice qo i ko) (us := us) (ms := [.slice (some ⟨g, 0, none⟩) n cp]) elRow (by rfl) (.tmp 56) (.tmp 58) (by rfl) (by rfl) 1 (by rfl) rfl (OO.out _ w4 _ (by repeat (first | exact Keep.refl _ _ | refine Keep.alloc ?_ _ | refine Keep.drew ?_)) hg4 (by repeat (first | exact Keep.refl _ _ | refine Keep.alloc ?_ _ | refine Keep.drew ?_))) (by refine srcV_at ?_; (try simp only [World.cell?_drew]); first | (rw [World.cell?_alloc_at _ _ _ _ (by first | omega | (simp; omega) | (simp; done))]; rfl) | (refine (app_keep hg4).cell0 (by first | omega | (simp; omega) | (simp; done)) (NOX.out _ (by first | omega | (simp; omega) | (simp; done))) ?_; (try simp only [World.cell?_drew]); first | (rw [World.cell?_alloc_at _ _ _ _ (by first | omega | (simp; omega) | (simp; done))]; rfl) | (rw [World.cell?_alloc_past _ _ _ (by first | omega | (simp; omega) | (simp; done))]; rw [World.cell?_alloc_at _ _ _ _ (by first | omega | (simp; omega) | (simp; done))]; rfl))) (by intro x hx; simp at hx; subst hx; rfl) (by rw [HLU.out]; simp; omega) (by have := SZ.out _ (show Keep [] w3 _ from (by repeat (first | exact Keep.refl _ _ | refine Keep.alloc ?_ _ | refine Keep.drew ?_))); have := hg4.size; have := (show Keep [] w4 _ from (by repeat (first | exact Keep.refl _ _ | refine Keep.alloc ?_ _ | refine Keep.drew ?_))).size; simp at *; omega) ?_; intro qo' ko' w6 hown6 hg6 ho6; rw [E6.out] at hown6 ho6 ⊢; have X6 := Z6.out _ w4 _ w6 (by repeat (first | exact Keep.refl _ _ | refine Keep.alloc ?_ _ | refine Keep.drew ?_)) hg4 (by repeat (first | exact Keep.refl _ _ | refine Keep.alloc ?_ _ | refine Keep.drew ?_)) hg6; have s5 := X6.c 5 _ rfl; have s6 := X6.c 6 _ rfl; have f5 := X6.f 5 (by simp); have f6 := X6.f 6 (by simp); have sl := X6.lt; clear X6))
      all_goals
        have NX := NewRel.next HR.out KW hb2 hb3 HBU.out hxr g1 g2 g3 HDD.out hg HOD.out hgc hgm HX1.out HL1.out (by repeat (first | exact Keep.refl _ _ | refine Keep.alloc ?_ _ | refine Keep.drew ?_ | refine Keep.drewN ?_ _ | refine Keep.setCell ?_ (.inr (by first | omega | (simp; omega) | (simp; done))) _)) hg4 ho4 hown4 (by repeat (first | exact Keep.refl _ _ | refine Keep.alloc ?_ _ | refine Keep.drew ?_ | refine Keep.drewN ?_ _ | refine Keep.setCell ?_ (.inr (by first | omega | (simp; omega) | (simp; done))) _)) hg6 ho6 hown6 rfl
        clear v6 vl s5 s6 f5 f6 sl hown4 hown6 ho4 ho6 hg4 hg6
        have HNX := Lib.hid NX
        clear NX
        go_wp2
        go_roundw
        case rel => exact ⟨i + 1, qn', qo', kn', ko', _, _, _, by omega, by go_num, HNX.out⟩
        case measure => simp [intOf]; omega
    · have ei : i = n := by omega
      subst ei
      have Z := ST.out.z
      have a0 := Z.c 0 _ rfl; have a1 := Z.c 1 _ rfl; have f0 := Z.f 0 (by simp); have f1 := Z.f 1 (by simp); have al := Z.lt
      have FI := Lib.hid (NewRel.fin HR.out ⟨c6, c7, c8, hhi⟩ C4'.out)
      clear Z
      have hmap : L.map (·.n) = P := by rw [HR.out.2.1, HN.out, List.take_length]
      have KW2 : Below w.heap.size w wr := K1.trans (hbel.mono z1)
      have HM := Lib.hid hmap
      clear hmap
      go_wp2
      go_ret2
      exact ⟨w1.heap.size, O, L, rfl, FI.out, by omega, HM.out, HR.out.2.2.1, fun j l D hl hD => by rw [← HN.out]; exact HR.out.2.2.2.1 j l D hl hD, (by repeat (first | exact Below.refl _ _ | refine Below.drew ?_ | refine below_drewN ?_ _ | refine Below.trans ?_ (Below.mono (by assumption) (by first | omega | (simp; omega) | (simp; done))) | refine Below.alloc ?_ (by first | omega | (simp; omega) | (simp; done)) _ | refine Below.setCell ?_ (by first | omega | (simp; omega) | (simp; done)) _))⟩
end Go.Proofs.YtcokmiidgdmdlaaGreatDoor

namespace Go.Proofs.YtcokmiidgdmdlaaGreatDoor
open Go.RowKit Go.Maps
set_option linter.unusedSimpArgs false
set_option linter.unusedVariables false

def wideC (P : List Int) (N : List (List Int)) : Bool := decide (20 < P.length) || decide (20 < N.length) || N.any fun l => decide (20 < l.length)
def wideN (P : List Int) (N : List (List Int)) : Int := if wideC P N = true then 1 else 0

set_option maxHeartbeats 1000000 in
theorem one_ok {X : List Nat} (n : Int) (w : World) (hX : ∀ x ∈ X, x < w.heap.size) :
    Calls Tryz.prog 30 #[.int .i64 n] w fun e w' => ∃ vP vN, e = .returned (.agg #[vP, vN, .int .i64 0, .int .i64 0, .int .i64 0]) ∧ Cfg X w' vP vN [n] [[0]] ∧ Below w.heap.size w w' := by
  obtain ⟨b1, e1⟩ : ∃ b, b = w.heap.size + 1 := ⟨_, rfl⟩
  have F0 := (((LocN.mk_ w [.slice (some ⟨w.heap.size + 1, 0, none⟩) 1 1, .slice (some ⟨w.heap.size + 1 + 1 + 1, 0, none⟩) 1 1, .int .i64 0, .int .i64 0, .int .i64 0] 36 rfl).past (.cells #[.int .i64 n] 3)).past (.cells #[.int .i64 0] 3)).past (.cells #[.slice (some ⟨w.heap.size + 1 + 1, 0, none⟩) 1 1] 22)
  have F1 := ((LocN.mk_ (w.alloc (.cells [.slice (some ⟨w.heap.size + 1, 0, none⟩) 1 1, .slice (some ⟨w.heap.size + 1 + 1 + 1, 0, none⟩) 1 1, .int .i64 0, .int .i64 0, .int .i64 0].toArray 36)) [.int .i64 n] 3 (b := w.heap.size + 1) (by simp)).past (.cells #[.int .i64 0] 3)).past (.cells #[.slice (some ⟨w.heap.size + 1 + 1, 0, none⟩) 1 1] 22)
  have F2 := (LocN.mk_ ((w.alloc (.cells [.slice (some ⟨w.heap.size + 1, 0, none⟩) 1 1, .slice (some ⟨w.heap.size + 1 + 1 + 1, 0, none⟩) 1 1, .int .i64 0, .int .i64 0, .int .i64 0].toArray 36)).alloc (.cells [.int .i64 n].toArray 3)) [.int .i64 0] 3 (b := w.heap.size + 1 + 1) (by simp)).past (.cells #[.slice (some ⟨w.heap.size + 1 + 1, 0, none⟩) 1 1] 22)
  have F3 := LocN.mk_ (((w.alloc (.cells [.slice (some ⟨w.heap.size + 1, 0, none⟩) 1 1, .slice (some ⟨w.heap.size + 1 + 1 + 1, 0, none⟩) 1 1, .int .i64 0, .int .i64 0, .int .i64 0].toArray 36)).alloc (.cells [.int .i64 n].toArray 3)).alloc (.cells [.int .i64 0].toArray 3)) [.slice (some ⟨w.heap.size + 1 + 1, 0, none⟩) 1 1] 22 (b := w.heap.size + 1 + 1 + 1) (by simp)
  have H0 := Lib.hid F0; have H1 := Lib.hid F1; have H2 := Lib.hid F2; have H3 := Lib.hid F3
  clear F0 F1 F2 F3
  go_enter Tryz.func30, Tryz.ntmps30
  go_wp2
  have c0 := H0.out.c 0 _ rfl; have c1 := H0.out.c 1 _ rfl; have c2 := H0.out.c 2 _ rfl; have c3 := H0.out.c 3 _ rfl; have c4 := H0.out.c 4 _ rfl
  refine bodyPost_ret (v := .agg #[.slice (some ⟨w.heap.size + 1, 0, none⟩) 1 1, .slice (some ⟨w.heap.size + 1 + 1 + 1, 0, none⟩) 1 1, .int .i64 0, .int .i64 0, .int .i64 0]) (by simp [results, Tryz.results30, go_sem]) rfl ⟨_, _, rfl, ⟨?_, ?_⟩, (by repeat (first | exact Below.refl _ _ | refine Below.drew ?_ | refine below_drewN ?_ _ | refine Below.trans ?_ (Below.mono (by assumption) (by first | omega | (simp; omega) | (simp; done))) | refine Below.alloc ?_ (by first | omega | (simp; omega) | (simp; done)) _ | refine Below.setCell ?_ (by first | omega | (simp; omega) | (simp; done)) _))⟩
  · exact loc_row (us := ints [n]) (cap := 1) H1.out (fun q => by have := hX _ q; omega) (by simp [ints]) (by unfold maxLen; omega)
  · refine ⟨[.slice (some ⟨w.heap.size + 1 + 1, 0, none⟩) 1 1], rfl, loc_row (cap := 1) H3.out (fun q => by have := hX _ q; omega) (by simp) (by unfold maxLen; omega), fun j u xs hu hxs => ?_⟩
    cases j with
    | zero =>
      simp at hu hxs
      subst hu hxs
      exact loc_row (us := ints [0]) (cap := 1) H2.out (fun q => by have := hX _ q; omega) (by simp [ints]) (by unfold maxLen; omega)
    | succ j => simp at hu

theorem cfgE_one {n : Int} (h1 : 1 ≤ n) (h2 : n ≤ 256) : cfgE [n] [[0]] 0 0 0 = 0 := by
  have e1 : noPg n = false := by unfold noPg; simp; omega
  unfold cfgE bndC marksC sqC badC badAt badRow badB farNo
  simp [e1, noFar, lenNe]

theorem ordOne {D : List Int} (h : D.length = 1 ∧ ∀ x : Int, x ∈ D ↔ 0 ≤ x ∧ x < 1) : D = [0] := by
  match D, h with
  | [x], h =>
    have := (h.2 x).1 (by simp)
    have e : x = 0 := by omega
    rw [e]
theorem ordZ_one {O : List (List Int)} (h : OrdZ O 1) : O = [[0]] := by
  match O, h with
  | [D], h =>
    have := h.2 D (by simp)
    have e : D = [0] := ordOne (by simpa using this)
    rw [e]

/-- a new zone of one node: what New comes to -/
def OneZ (n : Int) (w : World) (e : Ending) (w' : World) : Prop :=
  ∃ (pz : Nat) (x : Nd), e = .returned (.tuple #[.pointer (some ⟨pz, 0, none⟩), .nilIface]) ∧ ZoneB w.heap.size w' pz 0 0 0 [[0]] [x] ∧ w.heap.size ≤ pz ∧ x.n = n ∧ x.F = covL 0 n ∧ x.T = [] ∧ Below w.heap.size w w'
theorem oneZone {B : Nat} {ev : Nat → Addr} (vP vN : Value) (n : Int) (w : World) (hE : ErrC B ev w) (h : Cfg [] w vP vN [n] [[0]]) (n1 : 1 ≤ n) (n2 : n ≤ 256) :
    Calls Tryz.prog 14 #[.agg #[vP, vN, .int .i64 0, .int .i64 0, .int .i64 0]] w (OneZ n w) :=
  (newZone_ok [] vP vN [n] [[0]] 0 0 0 w hE h (cfgE_one n1 n2) (by omega)).mono fun e w' hp => by
    obtain ⟨pz, O, L, h1, h2, h3, h4, h5, h6, h7⟩ := hp
    match L, h4 with
    | [x], h4 =>
      have hx : x.n = n := by simpa using h4
      obtain ⟨q1, q2⟩ := h5 x (by simp)
      have hO := ordZ_one h2.ord
      subst hO
      exact ⟨pz, x, h1, h2, h3, hx, by rw [← hx]; exact q1, q2, h7⟩

theorem ErrC.up {B B' : Nat} {ev : Nat → Addr} {w : World} (h : ErrC B ev w) (hb : B ≤ B') (hs : B' ≤ w.heap.size) : ErrC B' ev w := ⟨hs, Nat.lt_of_lt_of_le h.l2 hb, Nat.lt_of_lt_of_le h.l3 hb, Nat.lt_of_lt_of_le h.l4 hb, h.c2, h.c3, h.c4⟩
theorem ErrD.up {B B' : Nat} {ev : Nat → Addr} {w : World} (h : ErrD B ev w) (hb : B ≤ B') (hs : B' ≤ w.heap.size) : ErrD B' ev w := ⟨h.c.up hb hs, Nat.lt_of_lt_of_le h.l5 hb, h.c5⟩
theorem ErrZ.up {B B' : Nat} {ev : Nat → Addr} {w : World} (h : ErrZ B ev w) (hb : B ≤ B') (hs : B' ≤ w.heap.size) : ErrZ B' ev w := ⟨h.d.up hb hs, Nat.lt_of_lt_of_le h.l7 hb, h.c7⟩
theorem Errs.z {B : Nat} {ev : Nat → Addr} {w : World} (h : Errs B ev w) : ErrZ B ev w := ⟨h.d, h.glob 7 (by decide) (by decide), h.cell 7 (by decide) (by decide)⟩
end Go.Proofs.YtcokmiidgdmdlaaGreatDoor

namespace Go.Proofs.YtcokmiidgdmdlaaGreatDoor
open Go.RowKit
set_option linter.unusedSimpArgs false
set_option linter.unusedVariables false

end Go.Proofs.YtcokmiidgdmdlaaGreatDoor

namespace Go.Proofs.YtcokmiidgdmdlaaGreatDoor
set_option linter.unusedSimpArgs false
set_option linter.unusedVariables false

theorem sum_zero {n : Int} {F T : List (Int × Int)} (h : Inv n F T) (hs : sumL F = 0) : F = [] := by
  cases F with
  | nil => rfl
  | cons p r =>
    have h1 := sumL_nonneg r
    have h2 : sumL (p :: r) = sz p.2 + sumL r := rfl
    have h3 : 0 < sz p.2 := sz_pos _
    omega
theorem best_none {n : Int} {F T : List (Int × Int)} (h : Inv n F T) (hb : bestL 0 F = none) : sumL F = 0 := by
  cases F with
  | nil => rfl
  | cons p r =>
    have := bestL_none hb p (by simp)
    have := (h.rngF (p := p) (by simp)).2.2.1
    omega
theorem take_one {mn : Int} {O : List (List Int)} {x : Nd} (hO : OrdZ O 1) (hI : Inv x.n x.F x.T) :
    (sumL x.F = 0 → takeZ mn O [x] 0 0 true = ([x], 5, (0, 0, 0))) ∧
    (0 < sumL x.F → ∃ b, bestL 0 x.F = some b ∧ getL x.T b.1 = none ∧ takeZ mn O [x] 0 0 true = ([tookN 0 b x], 0, (0, b.1, 0))) := by
  obtain ⟨D, hD, hl, hm, hc⟩ := takeZ_cases (mn := mn) (u := true) (k := 0) (L := [x]) (v := 0) (by simpa using hO) (by simp)
  have h0 : (0 : Int) ∈ D := (hm 0).2 (by simp)
  rcases hc with ⟨hp, e⟩ | ⟨j, y, b, hp, j0, j1, hx, hk, hb, e⟩
  · have hn : okAt mn 0 true [x] 0 = false := by
      have := List.find?_eq_none.1 hp 0 h0
      simpa using this
    have hb : bestL 0 x.F = none := by
      simp only [okAt, okN, mayN, Int.toNat_zero, List.getElem?_cons_zero, Bool.true_or, Bool.true_and] at hn
      cases hq : bestL 0 x.F with
      | none => rfl
      | some b => rw [hq] at hn; cases hn
    have hs := best_none hI hb
    have hF := sum_zero hI hs
    refine ⟨fun _ => ?_, fun q => by omega⟩
    rw [e]
    have : lowZ 0 [x] = 5 := by unfold lowZ someN; simp [hF]
    rw [this]
  · obtain rfl : j = 0 := by simp at j1; omega
    simp at hx
    subst hx
    refine ⟨fun q => ?_, fun _ => ⟨b, hb, fresh_page hI (bestL_some hb).1, by rw [e]; rfl⟩⟩
    have := sum_zero hI q
    have h2 := (bestL_some hb).1
    rw [this] at h2; cases h2

theorem sum_ins (f : Sl → Nat) (C : List Sl) (s : Sl) : ((insS C s).map f).sum = (C.map f).sum + f s := by
  have : ((C.take (posS s.nd s.pg C)).map f).sum + ((C.drop (posS s.nd s.pg C)).map f).sum = (C.map f).sum := by
    rw [← List.sum_append, ← List.map_append, List.take_append_drop]
  unfold insS
  simp only [List.map_append, List.map_cons, List.sum_append, List.sum_cons]
  omega
theorem sum_set (f : Sl → Nat) : ∀ (C : List Sl) (i : Nat) (s t : Sl), C[i]? = some s → ((C.set i t).map f).sum + f s = (C.map f).sum + f t
  | [], i, s, t, h => by simp at h
  | c :: C, 0, s, t, h => by simp at h; subst h; simp; omega
  | c :: C, i + 1, s, t, h => by
    have := sum_set f C i s t (by simpa using h)
    simp only [List.set_cons_succ, List.map_cons, List.sum_cons]; omega
theorem sum_all (f : Sl → Nat) (r : Nat) : ∀ (C : List Sl), (∀ s ∈ C, f s = r) → (C.map f).sum = C.length * r
  | [], h => by simp
  | c :: C, h => by
    have := sum_all f r C fun s q => h s (List.mem_cons_of_mem _ q)
    have h1 := h c (by simp)
    simp [this, h1, Nat.succ_mul]; omega
/-- a cache on a zone of one node, with so many objects taken -/
structure FullI (pages : Nat) (e i : Nat) (c : Ca) : Prop where
  inv : InvC e c
  one : ∃ x, c.L = [x] ∧ sumL x.F = pages - (c.C.length : Int)
  tk : takenN c.C = i
section
variable {mn : Int} {O : List (List Int)} {pages e i : Nat} {c : Ca}
theorem FullI.nd (h : FullI pages e i c) {s : Sl} (hs : s ∈ c.C) : s.nd = 0 := by
  obtain ⟨x, hx, _⟩ := h.one
  have := (h.inv.tk s hs).rng h.inv.zi
  rw [hx] at this; simp at this; omega
theorem FullI.none_ (h : FullI pages e i c) (hb : bestS 0 c.C c.C.length = none) : i = c.C.length * roomE e := by
  rw [← h.tk]
  refine sum_all _ _ _ fun s hs => ?_
  obtain ⟨j, hj, hg⟩ := List.mem_iff_getElem.1 hs
  have h1 := bestS_none hb j s hj (List.getElem?_eq_some_iff.2 ⟨hj, hg⟩) (h.nd hs)
  have h2 : manyS s ≤ s.T.length := manyT_le _
  rw [← h.inv.len s hs]; omega
theorem FullI.take (h : FullI pages e i c) (hO : OrdZ O 1) (hi : i < pages * roomE e) :
    (takeC mn O e c 0 true).2.1 = 0 ∧ (takeC mn O e c 0 true).2.2.1 = 0 ∧ FullI pages e (i + 1) (takeC mn O e c 0 true).1 := by
  have hI := takeC_inv (mn := mn) (O := O) (v := 0) (u := true) (by obtain ⟨x, hx, _⟩ := h.one; rw [hx]; exact hO) h.inv
  obtain ⟨x, hx, hs⟩ := h.one
  have hv : ¬ ((0 : Int) < 0 ∨ (c.L.length : Int) ≤ 0) := by rw [hx]; simp
  revert hI
  unfold takeC
  rw [if_neg hv]
  cases hb : bestS 0 c.C c.C.length with
  | some k =>
    obtain ⟨_, s, hk, hn, hm⟩ := bestS_some hb
    simp only [hk]
    intro hI
    refine ⟨trivial, by rw [obOf]; exact hn, hI, ⟨x, hx, by simpa using hs⟩, ?_⟩
    obtain ⟨f1, f2, _⟩ := freeAt_spec hm
    have h1 := manyT_set f2 true
    have h2 := sum_set manyS c.C k s (useS s (freeAt s.T) true) hk
    have h3 := h.tk
    have h4 : manyS (useS s (freeAt s.T) true) = manyT (s.T.set (freeAt s.T) true) := rfl
    have h5 : manyS s = manyT s.T := rfl
    show ((c.C.set k (useS s (freeAt s.T) true)).map manyS).sum = i + 1
    have h6 : (c.C.map manyS).sum = i := h3
    simp only [if_true, Bool.false_eq_true, if_false] at h1
    omega
  | none =>
    have hfull := h.none_ hb
    have hlt : c.C.length < pages := by
      rcases Nat.lt_or_ge c.C.length pages with q | q
      · exact q
      · have := Nat.mul_le_mul_right (roomE e) q
        omega
    obtain ⟨b, hbb, hf, et⟩ := (take_one (mn := mn) hO (h.inv.zi x (by rw [hx]; simp))).2 (by omega)
    simp only [hx, et, if_true]
    intro hI
    refine ⟨trivial, trivial, hI, ⟨tookN 0 b x, rfl, ?_⟩, ?_⟩
    · rw [insS_length]
      show sumL (takeF 0 b x.F) = _
      rw [(h.inv.zi x (by rw [hx]; simp)).sum_take (by omega) hbb, hs]
      have : sz 0 = 1 := rfl
      push_cast; omega
    · have h1 := sum_ins manyS c.C (useS ⟨0, b.1, noneT e⟩ 0 true)
      have h3 : (c.C.map manyS).sum = i := h.tk
      have h4 := roomE_pos h.inv.e1 h.inv.e2
      have h5 := manyT_set (T := noneT e) (k := 0) (b := false) (by unfold noneT; simp [List.getElem?_replicate]; omega) true
      have h6 := manyT_none e
      have h7 : manyS (useS ⟨0, b.1, noneT e⟩ 0 true) = manyT ((noneT e).set 0 true) := rfl
      show ((insS c.C (useS ⟨0, b.1, noneT e⟩ 0 true)).map manyS).sum = i + 1
      simp only [if_true, Bool.false_eq_true, if_false] at h5
      omega
end
end Go.Proofs.YtcokmiidgdmdlaaGreatDoor

namespace Go.Proofs.YtcokmiidgdmdlaaGreatDoor
open Go.RowKit Go.Maps
set_option linter.unusedSimpArgs false
set_option linter.unusedVariables false
attribute [local go_sem ↓] Go.wp_at_zero Go.wp_at_succ

theorem eqO (a k b m : Int) (w : World) : (binOp .eql 72 (.agg #[.int .i64 a, .int .i64 k]) (.agg #[.int .i64 b, .int .i64 m])).run Tryz.prog w = .ok (.bool (a == b && k == m)) w := by
  have u3 := Tryz.underlying3
  have a3 := Tryz.isAgg3
  have z3 := Tryz.sizeOf3
  have hS : Tryz.prog.underlying 72 = some (.struct (Tryz.prog.fieldsOf 72)) := by kernel_rfl
  have hp : Tryz.prog.stoodInHeld 72 = false := by kernel_rfl
  rw [run_eql_struct, show (10000 : Nat) = 9999 + 1 from rfl, run_equalIn_agg w 9999 72 _ _ hS hp]
  simp only [Program.fieldsOf, Tryz.underlying72]
  go_simp
  by_cases h1 : a = b <;> by_cases h2 : k = m <;> simp [h1, h2]
theorem guardO : Tryz.prog.eqGuardType Tryz.prog.depth 72 = false := by kernel_rfl
theorem cov_sum {n : Int} (n0 : 0 ≤ n) : sumL (covL 0 n) = n := by
  have := chain_sum (covL_chain n.toNat 0 n (Nat.le_refl _) n0)
  omega
theorem FullI.start {pages e : Nat} {x : Nd} (hI : Inv x.n x.F x.T) (e1 : 1 ≤ e) (e2 : e ≤ 64) (hF : x.F = covL 0 pages) : FullI pages e 0 ⟨[x], []⟩ :=
  ⟨⟨e1, e2, fun y hy => by simp at hy; subst hy; exact hI, by simp, List.Pairwise.nil, fun s hs => (by cases hs), fun s hs => (by cases hs)⟩, ⟨x, rfl, by rw [hF, cov_sum (by omega)]; simp⟩, rfl⟩
theorem roomN_le : ∀ {C : List Sl}, (∀ s ∈ C, s.T.length ≤ 64) → takenN C ≤ roomN C ∧ roomN C ≤ 64 * C.length
  | [], _ => ⟨Nat.le_refl _, Nat.le_refl _⟩
  | s :: C, h => by
    obtain ⟨h1, h2⟩ := roomN_le (C := C) fun x hx => h x (List.mem_cons_of_mem _ hx)
    have h3 := h s (by simp)
    have h4 : manyS s ≤ s.T.length := manyT_le _
    unfold takenN roomN at *
    simp only [List.map_cons, List.sum_cons, List.length_cons]
    omega
theorem takenN_snoc {C : List Sl} {i : Nat} {s : Sl} (h : C[i]? = some s) : takenN (C.take (i + 1)) = takenN (C.take i) + manyS s ∧ roomN (C.take (i + 1)) = roomN (C.take i) + s.T.length := by
  rw [List.take_add_one, h]
  unfold takenN roomN
  simp

section
variable {B : Nat} {ev : Nat → Addr} {pc pz e : Nat} {mn lw hi : Int} {O : List (List Int)} {X : List Nat} {vs : Value} {A : SA} {c : Ca} {w : World}
theorem stake_any (v : Int) (u : Bool) (hE : ErrZ B ev w) (h : CS B w pc pz mn lw hi O e X vs A c) (hI : InvC e c) :
    Calls Tryz.prog 36 #[.pointer (some ⟨pc, 0, none⟩), .int .i64 v, .bool u] w (StkPost B ev pc pz mn lw hi O e X vs A c w (takeC mn O e c v u)) := by
  by_cases hv : v < 0 ∨ (c.L.length : Int) ≤ v
  · exact stake_bad v u hE h hv
  · obtain ⟨n, rfl⟩ : ∃ n : Nat, v = n := ⟨v.toNat, by omega⟩
    exact stake_main n u hE h hI hE.size (by omega)
theorem CS.new {L : List Nd} (h : ZoneB B w pz mn lw hi O L) (hL : 0 < L.length) (hB : B ≤ w.heap.size) (e : Nat) :
    CS B (w.alloc (.cells #[.pointer (some ⟨pz, 0, none⟩), .int .i64 e, .slice none 0 0] 149)) w.heap.size pz mn lw hi O e (w.heap.size :: ys L) (.slice none 0 0) [] ⟨L, []⟩ := by
  have b : Below w.heap.size w (w.alloc (.cells #[.pointer (some ⟨pz, 0, none⟩), .int .i64 e, .slice none 0 0] 149)) := (by repeat (first | exact Below.refl _ _ | refine Below.drew ?_ | refine below_drewN ?_ _ | refine Below.trans ?_ (Below.mono (by assumption) (by first | omega | (simp; omega) | (simp; done))) | refine Below.alloc ?_ (by first | omega | (simp; omega) | (simp; done)) _ | refine Below.setCell ?_ (by first | omega | (simp; omega) | (simp; done)) _))
  have hc : cay w.heap.size (.slice none 0 0) [] = [w.heap.size] := rfl
  refine ⟨(h.toX.more (fun x hx => List.mem_cons_of_mem _ hx) (fun y hy => ?_)).below b, ⟨LocN.mk_ w [.pointer (some ⟨pz, 0, none⟩), .int .i64 e, .slice none 0 0] 149 rfl, ⟨rfl, .inl ⟨rfl, rfl⟩⟩, rfl, fun i p s hp => by simp at hp, fun y hy => ?_, ?_, fun y hy => ?_⟩, fun y hy q => ?_, hL⟩
  · rcases List.mem_cons.1 hy with rfl | q
    · exact .inr (Nat.le_refl _)
    · exact .inl q
  · rw [hc] at hy; simp at hy; subst hy; exact List.mem_cons_self ..
  · rw [hc]; simp
  · rw [hc] at hy; simp at hy; subst hy; simp; exact hB
  · rw [hc] at hy; simp at hy; subst hy
    have := (h.b.lim _ q).2; omega

set_option maxHeartbeats 2000000 in
theorem count_ok (h : CS B w pc pz mn lw hi O e X vs A c) (hI : InvC e c) :
    Calls Tryz.prog 37 #[.pointer (some ⟨pc, 0, none⟩)] w fun r w' => r = .returned (.tuple #[.int .i64 (takenN c.C), .int .i64 (roomN c.C)]) ∧ Below w.heap.size w w' := by
  obtain ⟨qv, kv, evs, kv1, kv2, hrow⟩ := h.ch.form
  subst evs
  have hl64 : Hid (∀ s ∈ c.C, s.T.length ≤ 64) := fun s hs => by rw [hI.len s hs]; unfold roomE; exact Nat.div_le_self _ _
  have few := hI.few
  have c2 := h.ch.c.c 2 _ rfl; have cl := h.ch.c.lt
  have HROW := Lib.hid hrow; have HC := Lib.hid h.ch
  have BD : Hid (∀ i, takenN (c.C.take i) ≤ 65536 ∧ roomN (c.C.take i) ≤ 65536) := fun i => by
    obtain ⟨h1, h2⟩ := roomN_le (C := c.C.take i) fun s hs => hl64.out s (List.mem_of_mem_take hs)
    have h3 : (c.C.take i).length ≤ 1024 := by rw [List.length_take]; omega
    omega
  have ALL : Hid (c.C.take c.C.length = c.C) := by show _ = _; simp
  obtain ⟨n, hn⟩ : ∃ n, n = c.C.length := ⟨_, rfl⟩
  have EN := Lib.hid hn
  rw [← hn] at c2 few kv1 ALL
  unfold maxLen at kv2
  clear h hI hrow hn
  go_enter Tryz.func37, Tryz.ntmps37
  go_wp2_with fail
  go_loopw [2, 3, 11] (fun tv rv iv wr => ∃ i : Nat, i ≤ n ∧ tv = .int .i64 (takenN (c.C.take i)) ∧ rv = .int .i64 (roomN (c.C.take i)) ∧ iv = .int .i64 i ∧ Below w.heap.size w wr) (fun _ _ iv _ => n - (intOf iv).toNat)
  case atStart => exact ⟨0, by omega, rfl, rfl, by go_num, (by repeat (first | exact Below.refl _ _ | refine Below.drew ?_ | refine below_drewN ?_ _ | refine Below.trans ?_ (Below.mono (by assumption) (by first | omega | (simp; omega) | (simp; done))) | refine Below.alloc ?_ (by first | omega | (simp; omega) | (simp; done)) _ | refine Below.setCell ?_ (by first | omega | (simp; omega) | (simp; done)) _))⟩
  case round =>
    obtain ⟨i, hile, rfl, rfl, rfl, hbel⟩ := hrel
    have BW : Hid (∀ W, Below wr.heap.size wr W → Below w.heap.size w W) := fun W b => hbel.trans (b.mono hbel.size)
    by_cases hin : i < n
    · obtain ⟨s, hs⟩ : ∃ s, c.C[i]? = some s := ⟨c.C[i]'(by rw [← EN.out]; exact hin), List.getElem?_eq_getElem _⟩
      obtain ⟨p, hp, hsl, _⟩ := (HC.out.below hbel).at hs
      obtain ⟨g, rfl, hg, hc0⟩ := HROW.out i p hp
      have ck : wr.cell? ⟨g, i, none⟩ = some (.pointer (some ⟨p.1, 0, none⟩)) := (hbel.cell (p := ⟨g, i, none⟩) hg).trans hc0
      have gl : g < wr.heap.size := Nat.lt_of_lt_of_le hg hbel.size
      have hik : i < kv := by omega
      obtain ⟨d0, d1, _, d3, d4, dl, _⟩ := hsl.cells
      obtain ⟨t1, t2⟩ := BD.out i
      have s1 := hl64.out s (List.mem_of_getElem? hs)
      have s2 : manyS s ≤ s.T.length := manyT_le _
      obtain ⟨n1, n2⟩ := takenN_snoc hs
      have N1 := Lib.hid n1; have N2 := Lib.hid n2
      clear hc0 hsl hs hp n1 n2
      generalize manyS s = a at *
      generalize s.T.length = l at *
      generalize takenN (c.C.take i) = ta at *
      generalize roomN (c.C.take i) = ro at *
      go_wp2_with fail
      go_quiet (fail)
      go_wp2
      go_round
      case rel => exact ⟨i + 1, by omega, by rw [N1.out]; go_num, by rw [N2.out]; go_num, by go_num, BW.out _ (by repeat (first | exact Below.refl _ _ | refine Below.drew ?_ | refine below_drewN ?_ _ | refine Below.trans ?_ (Below.mono (by assumption) (by first | omega | (simp; omega) | (simp; done))) | refine Below.alloc ?_ (by first | omega | (simp; omega) | (simp; done)) _ | refine Below.setCell ?_ (by first | omega | (simp; omega) | (simp; done)) _))⟩
      case measure => simp [intOf]; omega
    · obtain rfl : i = n := by omega
      rw [ALL.out]
      go_wp2
      go_ret2
      exact ⟨rfl, hbel⟩
end
end Go.Proofs.YtcokmiidgdmdlaaGreatDoor

namespace Go.Proofs.YtcokmiidgdmdlaaGreatDoor
open Go.RowKit Go.Lib
set_option linter.unusedSimpArgs false
set_option linter.unusedVariables false
attribute [local go_sem ↓] Go.wp_at_zero Go.wp_at_succ

/-- what Delete comes to -/
def DelPost (B : Nat) (g k i : Nat) (us : List Value) (w : World) (e : Ending) (w' : World) : Prop :=
  e = .returned (.slice (some ⟨g, 0, none⟩) (us.length - 1) k) ∧ w'.ownsRow B 160 1 (.slice (some ⟨g, 0, none⟩) (us.length - 1) k) (us.length - 1) (us.eraseIdx i) ∧ Keep [g] w w'
end Go.Proofs.YtcokmiidgdmdlaaGreatDoor

namespace Go.Proofs.YtcokmiidgdmdlaaGreatDoor
open Go.RowKit Go.Maps
set_option linter.unusedSimpArgs false
set_option linter.unusedVariables false
attribute [local go_sem ↓] Go.wp_at_zero Go.wp_at_succ

section
variable {B : Nat} {ev : Nat → Addr} {pc pz e : Nat} {mn lw hi : Int} {O : List (List Int)} {X : List Nat} {vs : Value} {A : SA} {c : Ca} {w w1 w' : World}
end
end Go.Proofs.YtcokmiidgdmdlaaGreatDoor

namespace Go.Proofs.YtcokmiidgdmdlaaGreatDoor
open Go.RowKit Go.Maps
set_option linter.unusedSimpArgs false
set_option linter.unusedVariables false
attribute [local go_sem ↓] Go.wp_at_zero Go.wp_at_succ

/-- an element type of so many cells -/
structure ElS (T E : TypeId) (z : Value) (s b : Nat) : Prop where
  und : Tryz.prog.underlying T = some (.slice E)
  info : (Tryz.prog.info? E).map (fun i => (i.zero, i.size, i.bytes)) = some (some z, s, b)
  one : z.cells.size = s
  pos : 0 < s
  few : b ≤ 64
theorem elObj : ElS 70 72 (.agg #[.int .i64 0, .int .i64 0]) 2 16 := ⟨Tryz.underlying70, by kernel_rfl, rfl, by omega, by omega⟩
/-- of a slab: the first k objects' taken ones -/
def obsK (e : Nat) (s : Sl) (k : Nat) : List Ob := (List.range k).filterMap fun k => if s.T[k]? = some true then some (obOf e s k) else none
/-- a slice of objects of the call's own -/
def OwnO (w w' : World) (v : Value) (l : List Ob) : Prop := w'.ownsRow w.heap.size 72 2 v l.length (encB l) ∧ Below w.heap.size w w'

section
variable {B : Nat} {ev : Nat → Addr} {pc pz e : Nat} {mn lw hi : Int} {O : List (List Int)} {X : List Nat} {vs : Value} {A : SA} {c : Ca} {w : World}
/-- places as cells -/
def encP (l : List Pl) : List Value := l.flatMap fun p => [.int .i64 p.1, .int .i64 p.2.1, .int .i64 p.2.2]
end
end Go.Proofs.YtcokmiidgdmdlaaGreatDoor

namespace Go.Proofs.YtcokmiidgdmdlaaGreatDoor
set_option linter.unusedSimpArgs false
set_option linter.unusedVariables false

/-- the next object lies behind -/
def behindO (e : Nat) (a b : Ob) : Prop := a.1 < b.1 ∨ a.1 = b.1 ∧ a.2 + e ≤ b.2
theorem obsS_mem {e : Nat} {s : Sl} {o : Ob} : o ∈ obsS e s ↔ ∃ k, s.T[k]? = some true ∧ o = obOf e s k := by
  unfold obsS
  rw [List.mem_filterMap]
  constructor
  · rintro ⟨k, _, h⟩
    split at h
    · rename_i hk
      exact ⟨k, hk, (Option.some.inj h).symm⟩
    · cases h
  · rintro ⟨k, hk, rfl⟩
    exact ⟨k, List.mem_range.2 (List.getElem?_eq_some_iff.1 hk).1, by rw [if_pos hk]⟩
theorem obsC_mem {e : Nat} {C : List Sl} {o : Ob} : o ∈ obsC e C ↔ ∃ s ∈ C, ∃ k, s.T[k]? = some true ∧ o = obOf e s k := by
  unfold obsC
  simp only [List.mem_flatMap, obsS_mem]
theorem obsS_sorted (e : Nat) (s : Sl) : (obsS e s).Pairwise (behindO e) := by
  unfold obsS
  rw [List.pairwise_filterMap]
  refine List.pairwise_lt_range.imp fun {a b} hab o ho o' ho' => ?_
  split at ho
  · split at ho'
    · obtain rfl := Option.some.inj ho
      obtain rfl := Option.some.inj ho'
      refine .inr ⟨rfl, ?_⟩
      show s.pg * 64 + (a : Int) * e + e ≤ s.pg * 64 + (b : Int) * e
      have : ((a : Int) + 1) * e ≤ (b : Int) * e := Int.mul_le_mul_of_nonneg_right (by omega) (by omega)
      rw [Int.add_mul, Int.one_mul] at this
      omega
    · cases ho'
  · cases ho
theorem ob_page {e : Nat} (e1 : 1 ≤ e) {s : Sl} (hl : s.T.length = roomE e) {k : Nat} (hk : s.T[k]? = some true) : s.pg * 64 ≤ (obOf e s k).2 ∧ (obOf e s k).2 + e ≤ s.pg * 64 + 64 ∧ (obOf e s k).1 = s.nd := by
  have hlt := (List.getElem?_eq_some_iff.1 hk).1
  rw [hl] at hlt
  have h1 : (k + 1) * e ≤ 64 := Nat.le_trans (Nat.mul_le_mul_right e (show k + 1 ≤ roomE e by omega)) (Nat.div_mul_le_self 64 e)
  have h2 : ((k : Int) + 1) * e ≤ 64 := by exact_mod_cast h1
  have h3 : 0 ≤ (k : Int) * e := Int.mul_nonneg (by omega) (by omega)
  rw [Int.add_mul, Int.one_mul] at h2
  refine ⟨?_, ?_, rfl⟩
  · show s.pg * 64 ≤ s.pg * 64 + (k : Int) * e
    omega
  · show s.pg * 64 + (k : Int) * e + e ≤ _
    omega
theorem obsC_sorted {e : Nat} {c : Ca} (h : InvC e c) : (obsC e c.C).Pairwise (behindO e) := by
  unfold obsC
  rw [List.pairwise_flatMap]
  refine ⟨fun s _ => obsS_sorted e s, h.srt.imp_of_mem fun {s t} hs ht hst o ho o' ho' => ?_⟩
  obtain ⟨k, hk, rfl⟩ := obsS_mem.1 ho
  obtain ⟨k', hk', rfl⟩ := obsS_mem.1 ho'
  have h1 := ob_page h.e1 (h.len s hs) hk
  have h2 := ob_page h.e1 (h.len t ht) hk'
  unfold behindO
  unfold ltS ltP at hst
  rw [h1.2.2, h2.2.2]
  omega
theorem ob_one {e : Nat} {c : Ca} (h : InvC e c) {o : Ob} (ho : o ∈ obsC e c.C) : 0 ≤ o.2 ∧ o.2 < 16384 ∧ o.2 / 64 = (o.2 + e - 1) / 64 := by
  obtain ⟨s, hs, k, hk, rfl⟩ := obsC_mem.1 ho
  have h1 := ob_page h.e1 (h.len s hs) hk
  have h2 := h.rng hs
  have h3 := h.e1
  omega
theorem give_has {e : Nat} {c : Ca} (h : InvC e c) {o : Ob} (ho : o ∈ obsC e c.C) : (giveC e c o).2 = 0 := by
  obtain ⟨s, hs, k, hk, rfl⟩ := obsC_mem.1 ho
  unfold giveC
  cases hf : findS e (obOf e s k) c.C with
  | none =>
    have h1 := findS_none hf s hs
    have h2 : hasS e (obOf e s k) s = true := (hasS_iff h.e1).2 ⟨by rw [kOf_uniq h.e1 rfl]; exact hk, by rw [kOf_uniq h.e1 rfl]⟩
    rw [h1] at h2; cases h2
  | some i =>
    obtain ⟨z, hz, _⟩ := findS_some hf
    simp only [hz]
/-- each page that is taken is a slab's -/
def OnlyP (c : Ca) : Prop := ∀ (i : Nat) (x : Nd), c.L[i]? = some x → ∀ p ∈ x.T, ∃ s ∈ c.C, s.nd = i ∧ s.pg = p.1
/-- how many slabs are of a node -/
def cntN (v : Int) (C : List Sl) : Nat := C.countP fun s => decide (s.nd = v)
end Go.Proofs.YtcokmiidgdmdlaaGreatDoor
