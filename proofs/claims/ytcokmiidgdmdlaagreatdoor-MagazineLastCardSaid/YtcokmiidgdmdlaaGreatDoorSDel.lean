/- slices.Delete of one slab by its contract. -/
import Derived.Test.YtcokmiidgdmdlaaGreatDoorSIns
namespace Go.Proofs.YtcokmiidgdmdlaaGreatDoor
open Go.RowKit Go.Lib
set_option linter.unusedSimpArgs false
set_option linter.unusedVariables false
attribute [local go_sem ↓] Go.wp_at_zero Go.wp_at_succ

theorem run_clearP (w : World) (ty : TypeId) (b o c : Nat) (hc : (w.cell? ⟨b, o, none⟩).isSome = true) (hf : w.frozen? ⟨b, o, none⟩ = false) :
    (Builtin.clear_ #[147] ty #[.slice (some ⟨b, o, none⟩) 1 c]).run Tryz.prog w = .ok (.tuple #[]) (w.setCells b o [.pointer none]) := by
  have hst := run_storeCells_cells (P := Tryz.prog) b o [.pointer none] 0 w (by intro j hj; simp at hj; subst hj; simpa using hc) (by intro j hj; simp at hj; subst hj; simpa using hf) (by intro v hv; simp at hv; subst hv; rfl)
  simp only [Nat.add_zero] at hst
  have hz : (Value.pointer none).cells = #[.pointer none] := rfl
  have hzz : (zeroValue 160).run Tryz.prog w = .ok (.pointer none) w := by kernel_rfl
  simp [Builtin.clear_, run_underlying Tryz.underlying147, hzz, hz]
  have e1 : (Builtin.zeroCells #[Value.pointer none] 1).toList = [.pointer none] := by simp [Builtin.zeroCells]
  rw [e1, hst]
  rfl
theorem erase_list {α : Type} {us rest : List α} {z : α} {i : Nat} (hi : i < us.length) :
    ((((us ++ rest).take i ++ us.drop (i + 1) ++ (us ++ rest).drop (i + (us.drop (i + 1)).length)).take (us.length - 1) ++ [z] ++ ((us ++ rest).take i ++ us.drop (i + 1) ++ (us ++ rest).drop (i + (us.drop (i + 1)).length)).drop (us.length - 1 + 1)).take (us.length - 1)) = us.eraseIdx i := by
  have e1 : ((us ++ rest).take i ++ us.drop (i + 1) ++ (us ++ rest).drop (i + (us.drop (i + 1)).length)).take (us.length - 1) = us.eraseIdx i := by
    rw [List.take_append_of_le_length (by simp; omega), List.take_of_length_le (by simp; omega), List.take_append_of_le_length (by omega), List.eraseIdx_eq_take_drop_succ]
  rw [List.append_assoc, List.take_append_of_le_length (by rw [e1, List.length_eraseIdx]; split <;> omega), e1]
  rw [List.take_of_length_le (by rw [List.length_eraseIdx]; split <;> omega)]

/-- what Delete comes to -/
def DelPost (B : Nat) (g k i : Nat) (us : List Value) (w : World) (e : Ending) (w' : World) : Prop :=
  e = .returned (.slice (some ⟨g, 0, none⟩) (us.length - 1) k) ∧ w'.ownsRow B 160 1 (.slice (some ⟨g, 0, none⟩) (us.length - 1) k) (us.length - 1) (us.eraseIdx i) ∧ Keep [g] w w'
set_option maxHeartbeats 4000000 in
set_option maxRecDepth 100000 in
/-- slices.Delete of one -/
theorem sdel_ok {B : Nat} (g k i : Nat) (us rest : List Value) (w : World) (hR : Row1 w g 160 (us ++ rest)) (hk : (us ++ rest).length = k) (hm : k ≤ maxLen) (hBg : B ≤ g) (hi : i < us.length) (h1 : ∀ x ∈ us, x.oneCell' = true) (hl : us.length ≤ 2000) :
    Calls Tryz.prog 93 #[.slice (some ⟨g, 0, none⟩) us.length k, .int .i64 i, .int .i64 ((i : Int) + 1)] w (DelPost B g k i us w) := by
  obtain ⟨n, hn⟩ : ∃ n, n = us.length := ⟨_, rfl⟩
  have hrk : n ≤ k := by rw [← hk, hn]; simp
  have hdl : (us.drop (i + 1)).length = n - (i + 1) := by rw [List.length_drop, hn]
  have LR := hR.loc
  have hsp : ∀ (W : World), W = w.drew → ∀ j, j < (us.drop (i + 1)).length → (W.cell? ⟨g, 0 + i * 1 + j, none⟩).isSome = true ∧ W.frozen? ⟨g, 0 + i * 1 + j, none⟩ = false := fun W hW j hj => by
    subst hW
    rw [hdl] at hj
    obtain ⟨x, hx⟩ : ∃ x, (us ++ rest)[0 + i * 1 + j]? = some x := ⟨(us ++ rest)[0 + i * 1 + j]'(by omega), List.getElem?_eq_getElem _⟩
    exact ⟨by show (w.cell? _).isSome = true; rw [LR.c _ x hx]; rfl, LR.f _ (by omega)⟩
  have hsrc : ∀ (W : World), W = w.drew → ∀ (c : Nat) (j : Nat) (u : Value), (us.drop (i + 1))[j]? = some u → W.cell? (Addr.add ⟨g, i + 1, none⟩ j) = some u := fun W hW c j u hj => by
    subst hW
    rw [addr_add]
    rw [List.getElem?_drop] at hj
    exact LR.c (i + 1 + j) u (by rw [List.getElem?_append_left (List.getElem?_eq_some_iff.1 hj).1]; exact hj)
  obtain ⟨W1, hW1⟩ : ∃ W1, W1 = w.drew.setCells g i (us.drop (i + 1)) := ⟨_, rfl⟩
  have R1 := hR.drew.sets (us.drop (i + 1)) i (by rw [hdl, hk]; omega)
  rw [← hW1] at R1
  have L1 := R1.loc
  have l1 : ((us ++ rest).take i ++ us.drop (i + 1) ++ (us ++ rest).drop (i + (us.drop (i + 1)).length)).length = k := by simp only [List.length_append, List.length_take, List.length_drop] at hk ⊢; omega
  have hcl := fun ty c => run_clearP W1 ty g (n - 1) c (by
    obtain ⟨x, hx⟩ : ∃ x, ((us ++ rest).take i ++ us.drop (i + 1) ++ (us ++ rest).drop (i + (us.drop (i + 1)).length))[n - 1]? = some x := ⟨_, List.getElem?_eq_getElem (by rw [l1]; omega)⟩
    rw [L1.c _ x hx]; rfl) (L1.f _ (by rw [l1]; omega))
  have FIN : Hid (DelPost B g k i us w (.returned (.slice (some ⟨g, 0, none⟩) (n - 1) k)) (W1.setCells g (n - 1) [.pointer none])) := by
    have R2 := R1.sets [.pointer none] (n - 1) (by rw [l1]; simp; omega)
    have hlen : (((us ++ rest).take i ++ us.drop (i + 1) ++ (us ++ rest).drop (i + (us.drop (i + 1)).length)).take (n - 1) ++ [Value.pointer none] ++ ((us ++ rest).take i ++ us.drop (i + 1) ++ (us ++ rest).drop (i + (us.drop (i + 1)).length)).drop (n - 1 + [Value.pointer none].length)).length = k := by simp only [List.length_append, List.length_take, List.length_drop, List.length_singleton] at l1 ⊢; omega
    have ow := R2.own hBg (n := n - 1) (by rw [hlen]; omega) (by rw [hlen]; exact hm)
    rw [hlen] at ow
    have e2 := erase_list (rest := rest) (z := Value.pointer none) hi
    rw [← hn] at e2
    rw [List.length_singleton] at ow
    rw [e2] at ow
    refine ⟨by rw [hn], by rw [← hn]; exact ow, ?_⟩
    rw [hW1]
    exact keep_sets _ _ (keep_sets _ _ (Keep.refl _ _).drew (.inl (by simp))) (.inl (by simp))
  have hz2 : ¬ ((i : Int) = (i : Int) + 1) := by omega
  have htn : ((i : Int) + 1).toNat = i + 1 := by omega
  have hb1 : (0 : Int) ≤ (i : Int) + 1 := by omega
  have hi0 : (0 : Int) ≤ (i : Int) := by omega
  have hb3 : (i : Int) ≤ (i : Int) + 1 := by omega
  have hb4 : (i : Int) + 1 ≤ (n : Int) := by omega
  have hb5 : (i : Int) + 1 ≤ (k : Int) := by omega
  have hb6 : (i : Int) ≤ (k : Int) := by omega
  have hw2 : ((n - 1 : Nat) : Int) ≤ (n : Int) := by omega
  have hnk : (n : Int) ≤ (k : Int) := by omega
  have hn1 : n - (n - 1) = 1 := by omega
  have hki : ¬ (k = i) := by omega
  have hkn : ¬ (k = n - 1) := by omega
  have hl' : n ≤ 2000 := by omega
  have hin : i + (n - (i + 1)) = n - 1 := by omega
  rw [← hn]
  unfold maxLen at hm
  have ml := Tryz.underlying147
  obtain ⟨i0, hi0', hz0, hzs, hzb⟩ := info_parts (P := Tryz.prog) (e := 160) (z := .pointer none) (size := 1) (bytes := 8) (by kernel_rfl)
  have hone : ∀ u ∈ us.drop (i + 1), u.oneCell' = true := fun u hu => h1 u (List.mem_of_mem_drop hu)
  clear hR LR R1 L1 l1 hk hn hi hl h1
  go_enter Tryz.func93, Tryz.ntmps93
  by_cases hc : k = i + 1
  · obtain rfl : n = i + 1 := by omega
    subst hc
    have hd0 : us.drop (i + 1) = [] := List.length_eq_zero_iff.1 (by omega)
    rw [hd0] at hW1
    simp only [World.setCells] at hW1
    go_wp2
    go_region_law (refine step_append_room rfl (.tmp 22) (.tmp 25) 147 rfl 160 i0 1 Tryz.underlying147 hi0' hzs g 0 i (i + 1) (by simp [Act.eval, Act.put]) ⟨g, 0, none⟩ 0 0 [] (by simp [Act.eval, Act.put]) (by simp) (by simp) (by simp) (by omega) (by simp) ?_)
    subst hW1
    simp only [World.setCells]
    simp only [Nat.add_sub_cancel] at hcl FIN
    go_wp2
    go_ret
    exact FIN.out
  · go_wp2
    go_region_law (refine step_append_room rfl (.tmp 22) (.tmp 25) 147 rfl 160 i0 1 Tryz.underlying147 hi0' hzs g 0 i k (by simp [Act.eval, Act.put]) ⟨g, i + 1, none⟩ (n - (i + 1)) (k - (i + 1)) (us.drop (i + 1)) (by simp [Act.eval, Act.put]) (by rw [hdl]; omega) (hsrc _ rfl 0) hone (by omega) (hsp _ rfl) ?_)
    rw [← hW1]
    clear hW1
    go_wp2
    go_ret
    exact FIN.out
end Go.Proofs.YtcokmiidgdmdlaaGreatDoor
