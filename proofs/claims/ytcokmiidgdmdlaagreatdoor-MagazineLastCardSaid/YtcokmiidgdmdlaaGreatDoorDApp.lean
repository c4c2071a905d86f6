/- A law's own slice of objects beside a depot: an append to it. -/
import Derived.Test.YtcokmiidgdmdlaaGreatDoorDNew
namespace Go.Proofs.YtcokmiidgdmdlaaGreatDoor
open Go.RowKit Go.Maps
set_option linter.unusedSimpArgs false
set_option linter.unusedVariables false

section
variable {X Y S F G : List Nat} {B : Nat} {ev : Nat → Addr} {w w' w0 w1 : World} {pd pc pz gh e : Nat} {mn lw hi : Int} {O : List (List Int)} {v vp : Value} {A : SA} {V : HV} {U : List Value} {d d' : De} {c : Ca}
/-- append of one struct: where the new row lies -/
theorem run_appS2 {T E : TypeId} {z : Value} {s b : Nat} (hE : ElS T E z s b) {w : World} (ty : TypeId) {base : Nat} {v : Value} {n : Nat} {xs ms : List Value} (hown : w.ownsRow base E s v n xs) {a : Addr} {c : Nat} (hm : ms.length = s) (hc : ∀ (j : Nat) (u : Value), ms[j]? = some u → w.cell? (a.add j) = some u) (h1 : ∀ u ∈ ms, u.oneCell' = true)
    (hl : n ≤ 70000) (hb : base ≤ w.heap.size) :
    ∃ q k w', (Builtin.append_ #[T, T] ty #[v, .slice (some a) 1 c]).run Tryz.prog w = .ok (.slice q (n + 1) k) w' ∧ w'.ownsRow base E s (.slice q (n + 1) k) (n + 1) (xs ++ ms) ∧ w.grownBy w' v.ownBlock ∧ ((Value.slice q (n + 1) k).ownBlock = v.ownBlock ∨ (Value.slice q (n + 1) k).ownBlock = some w.heap.size) := by
  obtain ⟨i0, hi, hz0, hz1, hz2⟩ := info_parts hE.info
  have hfew := hE.few
  obtain ⟨v', w', hrun, h2, h3, _, h5⟩ := run_append_own_at (P := Tryz.prog) w base T ty E i0 z s b hE.und hi hz0 hz1 hz2 hE.one hE.pos v n xs hown a 1 c ms
    (by omega) hc h1 (by unfold maxLen; omega) (by
      have : (n + 1) * b ≤ 70001 * 64 := Nat.mul_le_mul (by omega) hfew
      omega) hb
  have hf : ∃ q k, v' = .slice q (n + 1) k := by
    rcases h2.2 with ⟨e, e2⟩ | ⟨g', cap', cur, e, _⟩
    · exact ⟨none, 0, by rw [e, e2]⟩
    · exact ⟨_, _, e⟩
  obtain ⟨q, k, rfl⟩ := hf
  exact ⟨q, k, w', hrun, h2, h3, h5⟩
theorem step_appS2 {T E : TypeId} {z : Value} {s b : Nat} (hE : ElS T E z s b) {base : Nat} {v : Value} {n : Nat} {xs ms : List Value} {w : World} {ad : Addr} {c : Nat} {ops : Array Oper} {o : Oper} {a : Act} {K : Act → World → Prop} {Q : Exit → Act → World → Prop} {F : Prop} (hgd : o.guard = none) (sl x : Operand)
    (ho : o.op = .call { callee := .builtin .append, args := #[sl, x], argTypes := #[T, T] }) (hv : a.eval sl = v) (hx : a.eval x = .slice (some ad) 1 c)
    (hown : w.ownsRow base E s v n xs) (hm : ms.length = s) (hc : ∀ (j : Nat) (u : Value), ms[j]? = some u → w.cell? (ad.add j) = some u) (h1 : ∀ u ∈ ms, u.oneCell' = true) (hl : n ≤ 70000) (hb : base ≤ w.heap.size)
    (h : ∀ q k w', w'.ownsRow base E s (.slice q (n + 1) k) (n + 1) (xs ++ ms) → w.grownBy w' v.ownBlock → ((Value.slice q (n + 1) k).ownBlock = v.ownBlock ∨ (Value.slice q (n + 1) k).ownBlock = some w.heap.size) → K (a.put o.dst (.slice q (n + 1) k)) w') :
    if Region.wanted o (yielded ops a.tmps) = true then Oper.wp Tryz.prog o a w K Q else F := by
  have hw : Region.wanted o (yielded ops a.tmps) = true := by simp [Region.wanted, hgd]
  rw [if_pos hw]
  obtain ⟨q, k, w', hrun, h2, h3, h5⟩ := run_appS2 hE (w := w) o.type hown hm hc h1 hl hb (c := c)
  unfold Oper.wp execOp
  simp only [ho, resolve, invoke, builtin, Sem.run_bind, Sem.run_pure, Result.andThen_ok, List.map_toArray, List.map_cons, List.map_nil, hv, hx, hrun]
  exact h q k w' h2 h3 h5
theorem wpList_appS2 {T E : TypeId} {z : Value} {s b : Nat} (hE : ElS T E z s b) {base : Nat} {v : Value} {n : Nat} {xs ms : List Value} {w : World} {ad : Addr} {c : Nat} {ops : Array Oper} {rest : List Oper} {o : Oper} {a : Act} {Q : Exit → Act → World → Prop} (hgd : o.guard = none) (sl x : Operand)
    (ho : o.op = .call { callee := .builtin .append, args := #[sl, x], argTypes := #[T, T] }) (hv : a.eval sl = v) (hx : a.eval x = .slice (some ad) 1 c)
    (hown : w.ownsRow base E s v n xs) (hm : ms.length = s) (hc : ∀ (j : Nat) (u : Value), ms[j]? = some u → w.cell? (ad.add j) = some u) (h1 : ∀ u ∈ ms, u.oneCell' = true) (hl : n ≤ 70000) (hb : base ≤ w.heap.size)
    (h : ∀ q k w', w'.ownsRow base E s (.slice q (n + 1) k) (n + 1) (xs ++ ms) → w.grownBy w' v.ownBlock → ((Value.slice q (n + 1) k).ownBlock = v.ownBlock ∨ (Value.slice q (n + 1) k).ownBlock = some w.heap.size) → wpList Tryz.prog ops Q rest (a.put o.dst (.slice q (n + 1) k)) w') : wpList Tryz.prog ops Q (o :: rest) a w := by
  refine wpList_plain hgd fun K hK => ?_
  obtain ⟨q, k, w', hrun, h2, h3, h5⟩ := run_appS2 hE (w := w) o.type hown hm hc h1 hl hb (c := c)
  unfold Oper.wp execOp
  simp only [ho, resolve, invoke, builtin, Sem.run_bind, Sem.run_pure, Result.andThen_ok, List.map_toArray, List.map_cons, List.map_nil, hv, hx, hrun]
  exact hK _ _ (h q k w' h2 h3 h5)
/-- blocks of X that are no depot's were written, and new ones may be from now on -/
theorem CD.addK (h : CD B w X pd pc pz gh mn lw hi O e v A V vp U d) (k : Keep S w w1) (hs : ∀ s ∈ S, (s ∈ X ∨ w.heap.size ≤ s) ∧ s ∉ xd pc v A d.c.L pd gh vp) (hY : ∀ y ∈ Y, w.heap.size ≤ y ∧ y < w1.heap.size) (hB : B ≤ w.heap.size) : CD B w1 (Y ++ X) pd pc pz gh mn lw hi O e v A V vp U d := by
  have hm : ∀ y ∈ Y ++ X, y ∈ X ∨ w.heap.size ≤ y := fun y hy => by
    rcases List.mem_append.1 hy with q | q
    · exact .inr (hY y q).1
    · exact .inl q
  have f1 : ∀ s ∈ S, s ∉ day pd gh vp := fun s q r => (hs s q).2 (List.mem_append_left _ r)
  have f2 : ∀ s ∈ S, s ∉ cay pc v A := fun s q r => (hs s q).2 (List.mem_append_right _ (List.mem_append_left _ r))
  have f3 : ∀ s ∈ S, s ∉ ys d.c.L := fun s q r => (hs s q).2 (List.mem_append_right _ (List.mem_append_right _ r))
  refine ⟨fun y hy => List.mem_append_right _ (h.x y hy), fun y hy => ?_, (h.cs.more (fun x hx => List.mem_append_right _ hx) hm).keep k (fun s q => ⟨f2 s q, (hs s q).1.imp (fun r => ⟨List.mem_append_right _ r, f3 s q⟩) id⟩), (h.de.more hm (fun y hy => List.mem_append_right _ (h.de.mem y hy))).keep k (fun s q => ⟨f1 s q, (hs s q).1.imp (fun r => List.mem_append_right _ r) id⟩), h.ne⟩
  rcases List.mem_append.1 hy with q | q
  · exact ⟨Nat.le_trans hB (hY y q).1, (hY y q).2⟩
  · exact ⟨(h.lim y q).1, Nat.lt_of_lt_of_le (h.lim y q).2 k.size⟩
theorem DpS.addK (h : DpS B w0 pd pc pz gh mn lw hi O e X F d w) (hB : B ≤ w.heap.size) (k : Keep S w w1) (hs : ∀ s ∈ S, s ∈ F) (hG : ∀ g ∈ G, w.heap.size ≤ g ∧ g < w1.heap.size) : DpS B w0 pd pc pz gh mn lw hi O e (G ++ X) (G ++ F) d w1 := by
  obtain ⟨v, A, V, vp, U, q, hf⟩ := h.cd
  refine ⟨⟨v, A, V, vp, U, q.addK k (fun s hs' => ⟨.inl (hf s (hs s hs')).1, (hf s (hs s hs')).2⟩) hG hB, fun f hff => ?_⟩, h.inv, h.bel.trans (k.below hB fun s hs' => (q.lim s (hf s (hs s hs')).1).1)⟩
  rcases List.mem_append.1 hff with r | r
  · exact ⟨List.mem_append_left _ r, fun t => by have := (q.lim f (q.x f t)).2; have := (hG f r).1; omega⟩
  · exact ⟨List.mem_append_right _ (hf f r).1, (hf f r).2⟩
theorem DpS.subF (h : DpS B w0 pd pc pz gh mn lw hi O e X F d w) (hG : ∀ g ∈ G, g ∈ F) : DpS B w0 pd pc pz gh mn lw hi O e X G d w := by
  obtain ⟨v, A, V, vp, U, q, hf⟩ := h.cd
  exact ⟨⟨v, A, V, vp, U, q, fun f hff => hf f (hG f hff)⟩, h.inv, h.bel⟩
theorem DpS.lim (h : DpS B w0 pd pc pz gh mn lw hi O e X F d w) : ∀ x ∈ X, B ≤ x ∧ x < w.heap.size := h.cd.lim
theorem DpS.memF (h : DpS B w0 pd pc pz gh mn lw hi O e X F d w) : ∀ f ∈ F, f ∈ X := by
  obtain ⟨v, A, V, vp, U, q, hf⟩ := h.cd
  exact fun f hff => (hf f hff).1
/-- an append to a law's own slice -/
theorem DpS.app {z z' : Value} (h : DpS B w0 pd pc pz gh mn lw hi O e X (ownX z ++ F) d w) (hB : B ≤ w.heap.size) (hg : w.grownBy w1 z.ownBlock) (hz : z'.ownBlock = z.ownBlock ∨ z'.ownBlock = some w.heap.size) (hlt : ∀ g, z'.ownBlock = some g → g < w1.heap.size) :
    ∃ X', (∀ x ∈ X, x ∈ X') ∧ (∀ x ∈ X', x ∈ X ∨ w.heap.size ≤ x) ∧ DpS B w0 pd pc pz gh mn lw hi O e X' (ownX z' ++ F) d w1 := by
  have k := app_keep hg
  rcases hz with hz | hz
  · have ez : ownX z' = ownX z := by unfold ownX; rw [hz]
    rw [ez]
    exact ⟨X, fun _ q => q, fun _ q => .inl q, h.other hB k (fun s q => List.mem_append_left _ q)⟩
  · have ez : ownX z' = [w.heap.size] := by unfold ownX; rw [hz]; rfl
    rw [ez]
    have := hlt _ hz
    refine ⟨[w.heap.size] ++ X, fun x q => List.mem_append_right _ q, fun x q => ?_, (h.addK (G := [w.heap.size]) hB k (fun s q => List.mem_append_left _ q) (fun g q => by simp at q; subst q; omega)).subF (fun g q => ?_)⟩
    · rcases List.mem_append.1 q with r | r
      · simp at r; exact .inr (by omega)
      · exact .inl r
    · rcases List.mem_append.1 q with r | r
      · exact List.mem_append_left _ r
      · exact List.mem_append_right _ (List.mem_append_right _ r)
end
end Go.Proofs.YtcokmiidgdmdlaaGreatDoor
