/- slices.Insert of one slab, slices.Delete of one slab, by their contracts. -/
import Derived.Test.YtcokmiidgdmdlaaGreatDoorSB
import Derived.Test.YtcokmiidgdmdlaaGreatDoorSRow
import Derived.Deep.RegionLaw
import Derived.Laws.Externs
namespace Go.Proofs.YtcokmiidgdmdlaaGreatDoor
open Go.RowKit Go.Lib
set_option linter.unusedSimpArgs false
set_option linter.unusedVariables false

theorem srcV_of {w : World} {b : Nat} {u : Value} (h : LocN w b [u]) : SrcV w (some ⟨b, 0, none⟩) [u] :=
  .inr ⟨_, rfl, fun j x hj => by
    rw [addr_add]
    cases j with
    | zero => simp at hj; subst hj; exact h.c 0 _ rfl
    | succ j => simp at hj⟩
/-- what Insert comes to -/
def InsPost (B : Nat) (v : Value) (us : List Value) (i : Nat) (u : Value) (w : World) (e : Ending) (w' : World) : Prop :=
  ∃ q k, e = .returned (.slice q (us.length + 1) k) ∧ w'.ownsRow B 160 1 (.slice q (us.length + 1) k) (us.length + 1) (us.take i ++ u :: us.drop i) ∧ Keep (ownX v) w w' ∧ ∀ y ∈ ownX (.slice q (us.length + 1) k), y ∈ ownX v ∨ w.heap.size ≤ y
theorem slab_size : (Tryz.prog.info? 160).map (·.size) = some 1 := by kernel_rfl

set_option maxHeartbeats 4000000 in
set_option maxRecDepth 100000 in
/-- Insert at the end -/
theorem ins_end {B : Nat} (v : Value) (us : List Value) (u : Value) (vb : Nat) (w : World) (hown : w.ownsRow B 160 1 v us.length us) (hu1 : u.oneCell' = true) (hl : us.length ≤ 2000) (hv : LocN w vb [u]) (hB : B ≤ w.heap.size) :
    Calls Tryz.prog 141 #[v, .int .i64 us.length, .slice (some ⟨vb, 0, none⟩) 1 1] w (InsPost B v us us.length u w) := by
  have hsrc : SrcV w (some ⟨vb, 0, none⟩) [u] := srcV_of hv
  have HS := Lib.hid hsrc; have HO := Lib.hid hown; have HU := Lib.hid hu1
  have FIN : Hid (∀ q k w', w'.ownsRow B 160 1 (.slice q (us ++ [u]).length k) (us ++ [u]).length (us ++ [u]) → w.grownBy w' v.ownBlock → ((Value.slice q (us ++ [u]).length k).ownBlock = v.ownBlock ∨ (Value.slice q (us ++ [u]).length k).ownBlock = some w.heap.size) → InsPost B v us us.length u w (.returned (.slice q (us.length + 1) k)) w') := fun q k w' h1 h2 h3 => by
    have e1 : (us ++ [u]).length = us.length + 1 := by simp
    rw [e1] at h1 h3
    refine ⟨q, k, rfl, by simpa using h1, app_keep h2, app_own h3⟩
  obtain ⟨p, n, k, rfl, hpn⟩ : ∃ p n k, v = .slice p n k ∧ (n = us.length ∧ n ≤ k ∧ k ≤ maxLen) := by
    rcases hown.2 with ⟨rfl, h3⟩ | ⟨g, cap, cur, rfl, hg, hh, hcap, hmax, _⟩
    · exact ⟨none, 0, 0, rfl, h3.symm, Nat.le_refl _, by unfold maxLen; omega⟩
    · exact ⟨_, _, _, rfl, rfl, hcap, hmax⟩
  obtain ⟨rfl, hk, hm⟩ := hpn
  unfold maxLen at hm
  clear hsrc hown hu1 hv
  have n0 : (0 : Int) ≤ (us.length : Int) := by omega
  obtain ⟨r, hr⟩ : ∃ r : Value, r = .slice p us.length k := ⟨_, rfl⟩
  go_enter Tryz.func141, Tryz.ntmps141
  go_wp2_with (first | (at_builtin; refine wpList_app1 (base := B) (v := .slice p us.length k) (us := us) (ms := [u]) (p := some ⟨vb, 0, none⟩) elSlab rfl (.tmp 23) (.tmp 24) (by rfl) (by rfl) 1 (by rfl) rfl HO.out HS.out (by intro x hx; simp at hx; subst hx; exact HU.out) (by simp; omega) hB ?_; intro q2 k2 w2 hown2 hg2 ho2))
  all_goals
    have HF := Lib.hid (FIN.out q2 k2 w2 hown2 hg2 ho2)
    clear hown2 hg2 ho2 FIN
    go_wp2
    go_ret
    first
    | (simpa using HF.out; done)
    | (have hkk : k = us.length := by assumption
       subst hkk
       simpa using HF.out)

theorem ins_list1 {α : Type} {rl us : List α} {u : α} {i : Nat} (hi : i ≤ us.length) (hl : us.length + 1 ≤ rl.length) (ht : rl.take i = us.take i) :
    ((((rl.take i ++ [u] ++ rl.drop (i + 1)).take (i + 1) ++ us.drop i ++ (rl.take i ++ [u] ++ rl.drop (i + 1)).drop (i + 1 + (us.drop i).length))).take (us.length + 1)) = us.take i ++ u :: us.drop i := by
  have e1 : (rl.take i ++ [u] ++ rl.drop (i + 1)).take (i + 1) = us.take i ++ [u] := by
    rw [List.take_append_of_le_length (by simp; omega), List.take_of_length_le (by simp; omega), ht]
  rw [e1]
  rw [List.take_append_of_le_length (by simp; omega), List.take_of_length_le (by simp; omega)]
  simp
theorem ins_list2 {α : Type} {us rest : List α} {u : α} {i : Nat} (hi : i ≤ us.length) (hl : 1 ≤ rest.length) :
    (((((us ++ rest).take (i + 1) ++ us.drop i ++ (us ++ rest).drop (i + 1 + (us.drop i).length)).take i ++ [u] ++ ((us ++ rest).take (i + 1) ++ us.drop i ++ (us ++ rest).drop (i + 1 + (us.drop i).length)).drop (i + [u].length))).take (us.length + 1)) = us.take i ++ u :: us.drop i := by
  have e1 : ((us ++ rest).take (i + 1) ++ us.drop i ++ (us ++ rest).drop (i + 1 + (us.drop i).length)).take i = us.take i := by
    rw [List.append_assoc, List.take_append_of_le_length (by simp; omega), List.take_take, Nat.min_eq_left (by omega), List.take_append_of_le_length hi]
  have e2 : ((us ++ rest).take (i + 1) ++ us.drop i ++ (us ++ rest).drop (i + 1 + (us.drop i).length)).drop (i + [u].length) = us.drop i ++ (us ++ rest).drop (i + 1 + (us.drop i).length) := by
    rw [List.append_assoc, List.drop_append_of_le_length (by simp; omega), List.drop_eq_nil_of_le (by simp; omega)]
    simp
  rw [e1, e2]
  rw [← List.append_assoc, List.take_append_of_le_length (by simp; omega), List.take_of_length_le (by simp; omega)]
  simp

set_option maxHeartbeats 8000000 in
set_option maxRecDepth 100000 in
/-- Insert where there is room -/
theorem ins_room {B : Nat} (g k i : Nat) (us rest : List Value) (u : Value) (vb : Nat) (w : World) (hR : Row1 w g 160 (us ++ rest)) (hk : (us ++ rest).length = k) (hm : k ≤ maxLen) (hBg : B ≤ g) (hr1 : 1 ≤ rest.length) (hi : i < us.length) (h1 : ∀ x ∈ us, x.oneCell' = true) (hu1 : u.oneCell' = true) (hl : us.length ≤ 2000) (hv : Row1 w vb 160 [u]) (hne : vb ≠ g) :
    Calls Tryz.prog 141 #[.slice (some ⟨g, 0, none⟩) us.length k, .int .i64 i, .slice (some ⟨vb, 0, none⟩) 1 1] w (InsPost B (.slice (some ⟨g, 0, none⟩) us.length k) us i u w) := by
  obtain ⟨n, hn⟩ : ∃ n, n = us.length := ⟨_, rfl⟩
  have hrk : n + 1 ≤ k := by rw [← hk, hn]; simp; omega
  have hdl : (us.drop i).length = n - i := by rw [List.length_drop, hn]
  have LR := hR.loc
  have hsp : ∀ j, j < n + 1 → (w.cell? ⟨g, j, none⟩).isSome = true := fun j hj => by
    obtain ⟨x, hx⟩ : ∃ x, (us ++ rest)[j]? = some x := ⟨(us ++ rest)[j]'(by omega), List.getElem?_eq_getElem _⟩
    rw [LR.c j x hx]; rfl
  have hfz : ∀ j, j < n + 1 → w.frozen? ⟨g, j, none⟩ = false := fun j hj => LR.f j (by omega)
  have hov : ∀ lb cb, (callFunc 162 #[.slice (some ⟨vb, 0, none⟩) 1 1, .slice (some ⟨g, i + 1, none⟩) lb cb]).run Tryz.prog w = .ok (.value (.bool false)) w := fun lb cb => by
    obtain ⟨cv, hv1, hv2⟩ := hv
    obtain ⟨cg, hg1, hg2⟩ := hR
    have kg : cg.size ≠ 0 := by have : cg.toList.length = k := by rw [hg2]; exact hk
                                simp at this; omega
    rw [run_callFunc_extern Tryz.func162 (by kernel_rfl) (by kernel_rfl) (by kernel_rfl) (e := Extern.SlicesOverlaps.overlaps #[147, 147] #[4]) (by kernel_rfl),
      Lib.run_overlaps_apart w 147 4 160 Tryz.underlying147 1 (fun _ => by kernel_rfl) ⟨vb, 0, none⟩ ⟨g, i + 1, none⟩ 1 1 lb cb hne 160 160 cv.size cg.size (by simp only [World.shape?, hv1]) (by simp only [World.shape?, hg1]) kg (by simp only [World.frozen?, hv1]; simp) (by simp only [World.frozen?, hv1]; simp)]
    rfl
  have hcp1 : ∀ ty dc sc, (Builtin.copy_ #[147, 147] ty #[.slice (some ⟨g, i + 1, none⟩) (n - i) dc, .slice (some ⟨g, i, none⟩) (n + 1 - i) sc]).run Tryz.prog w.drew = .ok (goInt (us.drop i).length) (w.drew.setCells g (i + 1) (us.drop i)) := fun ty dc sc =>
    run_copy_cells w.drew _ _ ty 160 g (i + 1) (n - i) dc ⟨g, i, none⟩ (n + 1 - i) sc (us.drop i) Tryz.underlying147 slab_size (by rw [hdl]; simp only [Nat.min_def]; split <;> omega)
      (fun j v hj => by
        rw [addr_add]
        rw [List.getElem?_drop] at hj
        exact LR.c (i + j) v (by rw [List.getElem?_append_left (List.getElem?_eq_some_iff.1 hj).1]; exact hj))
      (fun j hj => by rw [hdl] at hj; exact hsp _ (by omega)) (fun j hj => by rw [hdl] at hj; exact hfz _ (by omega)) (fun v hv => h1 v (List.mem_of_mem_drop hv))
  obtain ⟨W1, hW1⟩ : ∃ W1, W1 = w.drew.setCells g (i + 1) (us.drop i) := ⟨_, rfl⟩
  have R1 := hR.drew.sets (us.drop i) (i + 1) (by rw [hdl, hk]; omega)
  rw [← hW1] at R1
  have L1 := R1.loc
  have l1 : ((us ++ rest).take (i + 1) ++ us.drop i ++ (us ++ rest).drop (i + 1 + (us.drop i).length)).length = k := by simp only [List.length_append, List.length_take, List.length_drop] at hk ⊢; omega
  have V1 : Row1 W1 vb 160 [u] := by rw [hW1]; exact hv.drew.keep (keep_sets (g := g) (S := [g]) _ _ (Keep.refl _ _) (.inl (by simp))) (by simpa using hne)
  have hcp2 : ∀ ty dc, (Builtin.copy_ #[147, 147] ty #[.slice (some ⟨g, i, none⟩) (n + 1 - i) dc, .slice (some ⟨vb, 0, none⟩) 1 1]).run Tryz.prog W1 = .ok (goInt [u].length) (W1.setCells g i [u]) := fun ty dc =>
    run_copy_cells W1 _ _ ty 160 g i (n + 1 - i) dc ⟨vb, 0, none⟩ 1 1 [u] Tryz.underlying147 slab_size (by simp only [Nat.min_def, List.length_singleton]; split <;> omega)
      (fun j v hj => by rw [addr_add, Nat.zero_add]; exact V1.loc.c j v hj)
      (fun j hj => by
        simp at hj; subst hj
        obtain ⟨x, hx⟩ : ∃ x, ((us ++ rest).take (i + 1) ++ us.drop i ++ (us ++ rest).drop (i + 1 + (us.drop i).length))[i + 0]? = some x := ⟨_, List.getElem?_eq_getElem (by rw [l1]; omega)⟩
        rw [L1.c _ x hx]; rfl) (fun j hj => by simp at hj; subst hj; exact L1.f _ (by rw [l1]; omega)) (fun v hv => by simp at hv; subst hv; exact hu1)
  have FIN : Hid (InsPost B (.slice (some ⟨g, 0, none⟩) n k) us i u w (.returned (.slice (some ⟨g, 0, none⟩) (n + 1) k)) (W1.setCells g i [u])) := by
    have R2 := R1.sets [u] i (by rw [l1]; simp; omega)
    have hlen : (((us ++ rest).take (i + 1) ++ us.drop i ++ (us ++ rest).drop (i + 1 + (us.drop i).length)).take i ++ [u] ++ ((us ++ rest).take (i + 1) ++ us.drop i ++ (us ++ rest).drop (i + 1 + (us.drop i).length)).drop (i + [u].length)).length = k := by simp only [List.length_append, List.length_take, List.length_drop, List.length_singleton] at l1 ⊢; omega
    have ow := R2.own hBg (n := n + 1) (by rw [hlen]; omega) (by rw [hlen]; exact hm)
    rw [hlen] at ow
    have e2 := ins_list2 (u := u) (Nat.le_of_lt hi) hr1
    rw [← hn] at e2
    rw [e2] at ow
    refine ⟨some ⟨g, 0, none⟩, k, by rw [hn], by rw [← hn]; exact ow, ?_, fun y hy => .inl (by simpa [ownX, Value.ownBlock] using hy)⟩
    rw [hW1]
    exact keep_sets _ _ (keep_sets _ _ (Keep.refl _ _).drew (.inl (by simp [ownX, Value.ownBlock]))) (.inl (by simp [ownX, Value.ownBlock]))
  have hin : (i : Int) < (n : Int) := by omega
  have hi0 : (0 : Int) ≤ (i : Int) := by omega
  have hz2 : ¬ ((i : Int) = (n : Int)) := by omega
  have hroom : ¬ ((k : Int) < (n : Int) + 1) := by omega
  have hw1 : IntKind.i64.wrap ((i : Int) + 1) = (i : Int) + 1 := IntWalk.i64_in _ (by omega)
  have htn : ((i : Int) + 1).toNat = i + 1 := by omega
  have hb1 : (0 : Int) ≤ (i : Int) + 1 := by omega
  have hb2 : ¬ (k = i + 1) := by omega
  have hb3 : ¬ (k = i) := by omega
  have hb4 : (i : Int) + 1 ≤ (n : Int) + 1 := by omega
  have hb5 : (i : Int) ≤ (n : Int) + 1 := by omega
  have hl' : n ≤ 2000 := by omega
  have hi' : i ≤ n := by omega
  have HN := Lib.hid hn
  rw [← hn]
  unfold maxLen at hm
  have mixed : Tryz.prog.follows .mixedOrders = true := by kernel_rfl
  clear hR LR R1 L1 V1 hsp hfz hv hdl l1 hk hn hi hl
  rw [← hW1] at hcp1
  clear hW1
  go_enter Tryz.func141, Tryz.ntmps141
  go_wp2_with (simp only [hov])
  go_region_law (refine step_copy_runI rfl _ _ 147 147 rfl _ _ (by simp [Act.eval, Act.put]) (by simp [Act.eval, Act.put]) (hcp1 _ _ _) ?_)
  go_wp2_with (at_builtin; refine wpList_copy_runI _ rfl _ _ 147 147 rfl _ _ rfl rfl (hcp2 _ _) ?_)
  go_ret
  exact FIN.out

set_option maxHeartbeats 8000000 in
set_option maxRecDepth 100000 in
/-- Insert where there is no room -/
theorem ins_grow {B : Nat} (g i : Nat) (us : List Value) (u : Value) (vb : Nat) (w : World) (hR : Row1 w g 160 us) (hB : B ≤ w.heap.size) (hi : i < us.length) (h1 : ∀ x ∈ us, x.oneCell' = true) (hu1 : u.oneCell' = true) (hl : us.length ≤ 2000) (hv : Row1 w vb 160 [u]) (hne : vb ≠ g) :
    Calls Tryz.prog 141 #[.slice (some ⟨g, 0, none⟩) us.length us.length, .int .i64 i, .slice (some ⟨vb, 0, none⟩) 1 1] w (InsPost B (.slice (some ⟨g, 0, none⟩) us.length us.length) us i u w) := by
  obtain ⟨n, hn⟩ : ∃ n, n = us.length := ⟨_, rfl⟩
  have hdl : (us.drop i).length = n - i := by rw [List.length_drop, hn]
  have htl : (us.take i).length = i := by rw [List.length_take]; omega
  have LR := hR.loc
  have hbw : g < w.heap.size := hR.lt
  have hvw : vb < w.heap.size := hv.lt
  obtain ⟨i0, hi0, hz0, hzs, hzb⟩ := info_parts (P := Tryz.prog) (e := 160) (z := .pointer none) (size := 1) (bytes := 8) (by kernel_rfl)
  have hkk : (n : Int) + 1 - (i : Int) = ((n + 1 - i : Nat) : Int) := by omega
  have hik : i + (n + 1 - i) = n + 1 := by omega
  have hold : (Builtin.firstCells i0.size i (.slice (some ⟨g, 0, none⟩) i n)).run Tryz.prog w.drew = .ok (us.take i).toArray w.drew := by
    rw [hzs]
    exact run_firstCells_some w.drew 1 i ⟨g, 0, none⟩ i n (us.take i) (by rw [htl]; omega) (fun j v hj => by
      rw [addr_add, Nat.zero_add]
      rw [List.getElem?_take] at hj
      split at hj
      · exact LR.c j v hj
      · cases hj)
  have hrz : ∀ ty, (Builtin.append_ #[147, 3] ty #[.slice (some ⟨g, 0, none⟩) i n, .int .i64 ((n : Int) + 1 - (i : Int))]).run Tryz.prog w =
      .ok (.slice (some ⟨w.heap.size, 0, none⟩) (n + 1) (grownCap w (n + 1) n 160)) (w.drew.alloc (.cells ((us.take i).toArray ++ Builtin.zeroCells (Value.pointer none).cells (n + 1 - i) ++ Builtin.zeroCells (Value.pointer none).cells (grownCap w (n + 1) n 160 - (n + 1))) 160)) := fun ty => by
    have h := Lib.run_append_grow_zeros w 147 3 ty 160 i0 _ .i64 .i64 Tryz.underlying147 Tryz.underlying3 hi0 hz0 (some ⟨g, 0, none⟩) i n (us.take i) hold (n + 1 - i) (by omega) (by omega) (by omega) (by omega) (by rw [hzb]; omega) (by rw [hzb, hik]; exact growslice_fits (by omega) (by omega))
    rw [hik] at h
    rw [hkk]
    exact h
  obtain ⟨G, hG⟩ : ∃ G, G = grownCap w (n + 1) n 160 := ⟨_, rfl⟩
  obtain ⟨ROW, hROW⟩ : ∃ ROW : Array Value, ROW = (us.take i).toArray ++ Builtin.zeroCells (Value.pointer none).cells (n + 1 - i) ++ Builtin.zeroCells (Value.pointer none).cells (G - (n + 1)) := ⟨_, rfl⟩
  rw [← hG] at hrz
  rw [← hROW] at hrz
  have hGn : n + 1 ≤ G := by rw [hG]; exact grownCap_ge w _ _ _
  have hGm : G ≤ maxLen := by rw [hG]; exact grownCap_le_maxLen w (n + 1) n 160 (by unfold maxLen; omega)
  have hRl : ROW.toList.length = G := by
    rw [hROW]
    simp [Builtin.zeroCells, Value.cells]
    omega
  have hRt : ROW.toList.take i = us.take i := by
    rw [hROW]
    simp only [Array.toList_append, List.append_assoc]
    rw [List.take_append_of_le_length (by rw [List.length_take]; omega)]
    simp [List.take_take]
  obtain ⟨W1, hW1⟩ : ∃ W1, W1 = w.drew.alloc (.cells ROW 160) := ⟨_, rfl⟩
  rw [← hW1] at hrz
  have R1 : Row1 W1 w.heap.size 160 ROW.toList := ⟨ROW, by rw [hW1]; exact World.alloc_heap_new w.drew _, rfl⟩
  have K1 : Keep [] w W1 := by rw [hW1]; exact (Keep.refl [] w).drew.alloc _
  have V1 : Row1 W1 vb 160 [u] := hv.keep K1 (by simp)
  have Q1 : Row1 W1 g 160 us := hR.keep K1 (by simp)
  have D1 : ∀ (W : World) (b : Nat) (cs : List Value), W.heap = W1.heap → Row1 W1 b 160 cs → Row1 W b 160 cs := fun W b cs e h => by
    obtain ⟨cur, h1, h2⟩ := h
    exact ⟨cur, by rw [e]; exact h1, h2⟩
  have hcpA : ∀ (W : World), W.heap = W1.heap → ∀ ty dc, (Builtin.copy_ #[147, 147] ty #[.slice (some ⟨w.heap.size, i, none⟩) (n + 1 - i) dc, .slice (some ⟨vb, 0, none⟩) 1 1]).run Tryz.prog W = .ok (goInt [u].length) (W.setCells w.heap.size i [u]) := fun W hW ty dc =>
    run_copy_cells W _ _ ty 160 w.heap.size i (n + 1 - i) dc ⟨vb, 0, none⟩ 1 1 [u] Tryz.underlying147 slab_size (by simp only [Nat.min_def, List.length_singleton]; split <;> omega)
      (fun j v hj => by rw [addr_add, Nat.zero_add]; exact (D1 W _ _ hW V1).loc.c j v hj)
      (fun j hj => by
        simp at hj; subst hj
        obtain ⟨x, hx⟩ : ∃ x, ROW.toList[i + 0]? = some x := ⟨_, List.getElem?_eq_getElem (by rw [hRl]; omega)⟩
        rw [(D1 W _ _ hW R1).loc.c _ x hx]; rfl) (fun j hj => by simp at hj; subst hj; exact (D1 W _ _ hW R1).loc.f _ (by rw [hRl]; omega)) (fun v hv => by simp at hv; subst hv; exact hu1)
  obtain ⟨W2, hW2⟩ : ∃ W2, W2 = W1.drew.setCells w.heap.size i [u] := ⟨_, rfl⟩
  have R2 := R1.drew.sets [u] i (by rw [hRl]; simp; omega)
  rw [← hW2] at R2
  have l2 : (ROW.toList.take i ++ [u] ++ ROW.toList.drop (i + [u].length)).length = G := by simp only [List.length_append, List.length_take, List.length_drop, List.length_singleton]; omega
  have Q2 : Row1 W2 g 160 us := by rw [hW2]; exact Q1.drew.keep (keep_sets (g := w.heap.size) (S := [w.heap.size]) _ _ (Keep.refl _ _) (.inl (by simp))) (by simp; omega)
  have D2 : ∀ (W : World) (b : Nat) (cs : List Value), W.heap = W2.heap → Row1 W2 b 160 cs → Row1 W b 160 cs := fun W b cs e h => by
    obtain ⟨cur, h1, h2⟩ := h
    exact ⟨cur, by rw [e]; exact h1, h2⟩
  have hcpB : ∀ (W : World), W.heap = W2.heap → ∀ ty dc sc, (Builtin.copy_ #[147, 147] ty #[.slice (some ⟨w.heap.size, i + 1, none⟩) (n - i) dc, .slice (some ⟨g, i, none⟩) (n - i) sc]).run Tryz.prog W = .ok (goInt (us.drop i).length) (W.setCells w.heap.size (i + 1) (us.drop i)) := fun W hW ty dc sc =>
    run_copy_cells W _ _ ty 160 w.heap.size (i + 1) (n - i) dc ⟨g, i, none⟩ (n - i) sc (us.drop i) Tryz.underlying147 slab_size (by rw [hdl]; simp only [Nat.min_def]; split <;> omega)
      (fun j v hj => by
        rw [addr_add]
        exact (D2 W _ _ hW Q2).loc.c (i + j) v (by rwa [List.getElem?_drop] at hj))
      (fun j hj => by
        rw [hdl] at hj
        obtain ⟨x, hx⟩ : ∃ x, (ROW.toList.take i ++ [u] ++ ROW.toList.drop (i + [u].length))[i + 1 + j]? = some x := ⟨_, List.getElem?_eq_getElem (by rw [l2]; omega)⟩
        rw [(D2 W _ _ hW R2).loc.c _ x hx]; rfl)
      (fun j hj => (D2 W _ _ hW R2).loc.f _ (by rw [hdl] at hj; rw [l2]; omega)) (fun v hv => h1 v (List.mem_of_mem_drop hv))
  have K2 : Keep [] w W2 := by rw [hW2]; exact keep_sets _ _ K1.drew (.inr (Nat.le_refl _))
  have FIN : Hid (∀ W : World, W.heap = W2.heap → Keep [] w W → InsPost B (.slice (some ⟨g, 0, none⟩) n n) us i u w (.returned (.slice (some ⟨w.heap.size, 0, none⟩) (n + 1) G)) (W.setCells w.heap.size (i + 1) (us.drop i))) := fun W hW hWK => by
    have R3 := (D2 W _ _ hW R2).sets (us.drop i) (i + 1) (by rw [hdl, l2]; omega)
    have hlen : ((ROW.toList.take i ++ [u] ++ ROW.toList.drop (i + [u].length)).take (i + 1) ++ us.drop i ++ (ROW.toList.take i ++ [u] ++ ROW.toList.drop (i + [u].length)).drop (i + 1 + (us.drop i).length)).length = G := by simp only [List.length_append, List.length_take, List.length_drop, List.length_singleton] at l2 hdl ⊢; omega
    have ow := R3.own hB (n := n + 1) (by rw [hlen]; exact hGn) (by rw [hlen]; exact hGm)
    rw [hlen] at ow
    have e2 := ins_list1 (u := u) (rl := ROW.toList) (Nat.le_of_lt hi) (by rw [hRl, ← hn]; exact hGn) hRt
    rw [← hn] at e2
    rw [show (ROW.toList.take i ++ [u] ++ ROW.toList.drop (i + [u].length)) = (ROW.toList.take i ++ [u] ++ ROW.toList.drop (i + 1)) from rfl] at ow
    rw [e2] at ow
    have K3 : Keep [] w (W.setCells w.heap.size (i + 1) (us.drop i)) := keep_sets _ _ hWK (.inr (Nat.le_refl _))
    refine ⟨some ⟨w.heap.size, 0, none⟩, G, by rw [← hn], by rw [← hn]; exact ow, K3.wide, fun y hy => .inr (by simp [ownX, Value.ownBlock] at hy; omega)⟩
  have HW2 := Lib.hid hW2; have HK2 := Lib.hid K2
  have mixed : Tryz.prog.follows .mixedOrders = true := by kernel_rfl
  have hin : (i : Int) < (n : Int) := by omega
  have hi0 : (0 : Int) ≤ (i : Int) := by omega
  have hz2 : ¬ ((i : Int) = (n : Int)) := by omega
  have hroom : (n : Int) < (n : Int) + 1 := by omega
  have hw1 : IntKind.i64.wrap ((i : Int) + 1) = (i : Int) + 1 := IntWalk.i64_in _ (by omega)
  have htn : ((i : Int) + 1).toNat = i + 1 := by omega
  have hb1 : (0 : Int) ≤ (i : Int) + 1 := by omega
  have hGi : ¬ (G = i) := by omega
  have hGim : ¬ (G = i + 1) := by omega
  have hci : ¬ (n = i) := by omega
  have hb3 : (i : Int) ≤ (n : Int) := by omega
  have hG63 : G ≤ 9223372036854775807 := by unfold maxLen at hGm; omega
  have hl' : n ≤ 2000 := by omega
  have hi' : i ≤ n := by omega
  rw [← hn]
  clear hR hkk hik hold hROW hG hRl hRt R1 K1 V1 Q1 D1 R2 l2 Q2 D2 K2 hW2 hW1 hGm hdl htl LR hv hn hi hl
  go_enter Tryz.func141, Tryz.ntmps141
  go_wp2_with (first
    | (at_builtin; refine Lib.wpList_append_run _ rfl _ _ _ _ rfl _ _ rfl rfl _ _ (hrz _) ?_)
    | (at_builtin; refine wpList_copy_runI _ rfl _ _ 147 147 rfl _ _ rfl rfl (hcpA _ rfl _ _) ?_)
    | (at_builtin; refine wpList_copy_runI _ rfl _ _ 147 147 rfl _ _ rfl rfl (hcpB _ (by rw [HW2.out]; rfl) _ _ _) ?_))
  go_region_law (refine step_copy_runI rfl _ _ 147 147 rfl (.slice (some ⟨w.heap.size, i + 1, none⟩) (n - i) (G - (i + 1))) (.slice (some ⟨g, i, none⟩) (n - i) (n - i)) (by simp [Act.eval, Act.put]) (by simp [Act.eval, Act.put]) (hcpB _ (by rw [HW2.out]; rfl) 3 (G - (i + 1)) (n - i)) ?_)
  go_wp2
  go_ret
  exact FIN.out _ (by rw [HW2.out]; rfl) (by have q := HK2.out; rw [HW2.out] at q; first | exact q | exact q.drew)

/-- Insert of one slab, wherever -/
theorem sins_ok {B : Nat} (v : Value) (i : Nat) (us : List Value) (u : Value) (vb : Nat) (w : World) (hown : w.ownsRow B 160 1 v us.length us) (hi : i ≤ us.length) (h1 : ∀ x ∈ us, x.oneCell' = true) (hu1 : u.oneCell' = true) (hl : us.length ≤ 2000) (hv : Row1 w vb 160 [u]) (hne : vb ∉ ownX v) (hB : B ≤ w.heap.size) :
    Calls Tryz.prog 141 #[v, .int .i64 i, .slice (some ⟨vb, 0, none⟩) 1 1] w (InsPost B v us i u w) := by
  by_cases e : i = us.length
  · subst e
    exact ins_end v us u vb w hown hu1 hl hv.loc hB
  · have ho := hown
    rcases hown.2 with ⟨rfl, h3⟩ | ⟨g, cap, cur, rfl, hg, hh, hcap, hmax, _⟩
    · omega
    · obtain ⟨rest, R, r1, r2, r3, r4, r5⟩ := own_row1 ho
      have hne' : vb ≠ g := fun q => hne (by rw [ownX_mem, q]; rfl)
      cases rest with
      | nil =>
        rw [List.append_nil] at R r1
        obtain rfl : cap = us.length := r1.symm
        exact ins_grow g i us u vb w R hB (by omega) h1 hu1 hl hv hne'
      | cons r rs => exact ins_room g cap i us (r :: rs) u vb w R r1 r4 r5 (by simp) (by omega) h1 hu1 hl hv hne'
end Go.Proofs.YtcokmiidgdmdlaaGreatDoor
