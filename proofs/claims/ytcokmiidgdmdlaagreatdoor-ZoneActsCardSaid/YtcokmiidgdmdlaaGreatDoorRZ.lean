/- The document's zone in memory: what reads it; giving back. The document's zone: Give and Take by their contracts. The document's zone: Take by its contract. -/
import Derived.Test.YtcokmiidgdmdlaaGreatDoorRefM
import Derived.Test.YtcokmiidgdmdlaaGreatDoorZLaw
import Derived.Deep.RegionHeld3
import Derived.Deep.DrawnRows
import Derived.Test.YtcokmiidgdmdlaaGreatDoorZTake
namespace Go.Proofs.YtcokmiidgdmdlaaGreatDoor
open Go.RowKit
set_option linter.unusedSimpArgs false
set_option linter.unusedVariables false
attribute [local go_sem ↓] Go.wp_at_zero Go.wp_at_succ

def mptrs (M : List Nat) : List Value := M.map fun m => .pointer (some ⟨m, 0, none⟩)
theorem mptrs_length (M : List Nat) : (mptrs M).length = M.length := by simp [mptrs]
theorem mptrs_get {M : List Nat} {j m : Nat} (h : M[j]? = some m) : (mptrs M)[j]? = some (.pointer (some ⟨m, 0, none⟩)) := by simp [mptrs, h]

/-- block pm is a zone of the document, its nodes in block gN; X: blocks that its slices do not lie in -/
structure RZ (X : List Nat) (w : World) (pm gN : Nat) (mn lw hi : Int) (O : List (List Int)) (M : List Nat) (L : List Nd) : Prop where
  z : ∃ (vP vN : Value) (kn ko : Nat) (qo : Option Addr), LocN w pm [vP, vN, .int .i64 mn, .int .i64 lw, .int .i64 hi, .slice (some ⟨gN, 0, none⟩) L.length kn, .slice qo L.length ko] ∧ L.length ≤ kn ∧ kn ≤ maxLen ∧ RowR X w (.slice qo L.length ko) O
  nodes : LocN w gN (mptrs M)
  len : M.length = L.length
  bud : ∀ (i m : Nat) (x : Nd), M[i]? = some m → L[i]? = some x → ∃ vF vT, RBud X w m x.n vF vT x.F x.T
  inv : ∀ x ∈ L, Inv x.n x.F x.T
  mem : pm ∈ X ∧ gN ∈ X
  ne : pm ≠ gN ∧ pm ∉ M ∧ gN ∉ M ∧ M.Nodup
  ord : OrdZ O L.length
  m0 : 0 ≤ mn ∧ mn ≤ lw ∧ lw ≤ hi ∧ hi ≤ 9223372036854775807
theorem RZ.keep {X S : List Nat} {w w' : World} {pm gN : Nat} {mn lw hi : Int} {O : List (List Int)} {M : List Nat} {L : List Nd} (h : RZ X w pm gN mn lw hi O M L) (k : Keep S w w') (hs : ∀ s ∈ S, (s ∈ X ∧ s ≠ pm ∧ s ≠ gN ∧ s ∉ M) ∨ w.heap.size ≤ s) : RZ X w' pm gN mn lw hi O M L := by
  obtain ⟨vP, vN, kn, ko, qo, h1, h2, h3, h4⟩ := h.z
  have np : pm ∉ S := fun q => by rcases hs pm q with r | r; (· exact r.2.1 rfl); (· have := h1.lt; omega)
  have ng : gN ∉ S := fun q => by rcases hs gN q with r | r; (· exact r.2.2.1 rfl); (· have := h.nodes.lt; omega)
  have hX : ∀ s ∈ S, s ∈ X ∨ w.heap.size ≤ s := fun s q => (hs s q).imp (fun r => r.1) id
  refine ⟨⟨vP, vN, kn, ko, qo, h1.keep k np, h2, h3, h4.keep k hX⟩, h.nodes.keep k ng, h.len, fun i m x hm hx => ?_, h.inv, h.mem, h.ne, h.ord, h.m0⟩
  obtain ⟨vF, vT, hb⟩ := h.bud i m x hm hx
  exact ⟨vF, vT, hb.keep k fun s q => (hs s q).imp (fun r => ⟨r.1, fun e => r.2.2.2 (e ▸ List.mem_of_getElem? hm)⟩) id⟩
theorem RZ.below {X : List Nat} {w w' : World} {pm gN : Nat} {mn lw hi : Int} {O : List (List Int)} {M : List Nat} {L : List Nd} (h : RZ X w pm gN mn lw hi O M L) (k : Below w.heap.size w w') : RZ X w' pm gN mn lw hi O M L := h.keep (Keep.of (S := []) k) (fun s q => by cases q)
theorem RZ.more {X Y : List Nat} {w : World} {pm gN : Nat} {mn lw hi : Int} {O : List (List Int)} {M : List Nat} {L : List Nd} (h : RZ X w pm gN mn lw hi O M L) (hX : ∀ x ∈ X, x ∈ Y) (hY : ∀ y ∈ Y, y ∈ X ∨ w.heap.size ≤ y) : RZ Y w pm gN mn lw hi O M L := by
  obtain ⟨vP, vN, kn, ko, qo, h1, h2, h3, h4⟩ := h.z
  refine ⟨⟨vP, vN, kn, ko, qo, h1, h2, h3, h4.more hY⟩, h.nodes, h.len, fun i m x hm hx => ?_, h.inv, ⟨hX _ h.mem.1, hX _ h.mem.2⟩, h.ne, h.ord, h.m0⟩
  obtain ⟨vF, vT, hb⟩ := h.bud i m x hm hx
  exact ⟨vF, vT, hb.more (hX _ hb.mem) hY⟩
theorem RZ.lt {X : List Nat} {w : World} {pm gN : Nat} {mn lw hi : Int} {O : List (List Int)} {M : List Nat} {L : List Nd} (h : RZ X w pm gN mn lw hi O M L) {m : Nat} (hm : m ∈ M) : m < w.heap.size := by
  obtain ⟨i, hi⟩ := List.getElem?_of_mem hm
  have hl := (List.getElem?_eq_some_iff.1 hi).1
  obtain ⟨vF, vT, hb⟩ := h.bud i m _ hi (List.getElem?_eq_getElem (show i < L.length by rw [← h.len]; exact hl))
  exact hb.lt
/-- one node's buddy turned, in place -/
theorem RZ.act {X : List Nat} {w w' : World} {pm gN : Nat} {mn lw hi : Int} {O : List (List Int)} {M : List Nat} {L : List Nd} (h : RZ X w pm gN mn lw hi O M L) {i m : Nat} {x : Nd} (hm : M[i]? = some m) (hx : L[i]? = some x) {F T : List (Int × Int)} {vF vT : Value} (hb : RBud X w' m x.n vF vT F T) (hI : Inv x.n F T) (k : Keep [m] w w') :
    RZ X w' pm gN mn lw hi O M (L.set i ⟨x.pb, x.bf, x.bt, x.n, F, T⟩) := by
  obtain ⟨vP, vN, kn, ko, qo, h1, h2, h3, h4⟩ := h.z
  obtain ⟨n1, n2, n3, n4⟩ := h.ne
  have hmM := List.mem_of_getElem? hm
  have mX : m ∈ X := hb.mem
  have np : pm ∉ [m] := fun q => by simp at q; exact n2 (q ▸ hmM)
  have ng : gN ∉ [m] := fun q => by simp at q; exact n3 (q ▸ hmM)
  have hX : ∀ s ∈ [m], s ∈ X ∨ w.heap.size ≤ s := fun s q => by simp at q; exact .inl (q ▸ mX)
  have il := (List.getElem?_eq_some_iff.1 hx).1
  refine ⟨⟨vP, vN, kn, ko, qo, by rw [List.length_set]; exact h1.keep k np, by rw [List.length_set]; exact h2, h3, by rw [List.length_set]; exact h4.keep k hX⟩, h.nodes.keep k ng, by rw [List.length_set]; exact h.len, fun j m' y hm' hy => ?_, fun y hy => ?_, h.mem, h.ne, by rw [List.length_set]; exact h.ord, h.m0⟩
  · by_cases e : i = j
    · subst e
      rw [hm] at hm'; obtain rfl := Option.some.inj hm'
      rw [List.getElem?_set_self il] at hy; obtain rfl := Option.some.inj hy
      exact ⟨vF, vT, hb⟩
    · rw [List.getElem?_set_ne e] at hy
      obtain ⟨vF', vT', hb'⟩ := h.bud j m' y hm' hy
      have hne : m' ≠ m := fun q => by
        subst q
        have a := (List.getElem?_eq_some_iff.1 hm); have b := (List.getElem?_eq_some_iff.1 hm')
        exact e ((List.getElem_inj n4).1 (a.2.trans b.2.symm))
      exact ⟨vF', vT', hb'.keep k fun s q => by simp at q; subst q; exact .inl ⟨mX, fun r => hne r.symm⟩⟩
  · rcases List.mem_or_eq_of_mem_set hy with q | q
    · exact h.inv y q
    · subst q; exact hI

set_option maxHeartbeats 1000000 in
theorem isNode_any {X : List Nat} (pm gN : Nat) (mn lw hi : Int) (O : List (List Int)) (M : List Nat) (L : List Nd) (v : Int) (w : World) (h : RZ X w pm gN mn lw hi O M L) :
    Calls Tryz.prog 44 #[.pointer (some ⟨pm, 0, none⟩), .int .i64 v] w fun e w' => e = .returned (.bool (decide (0 ≤ v ∧ v < L.length))) ∧ Below w.heap.size w w' := by
  obtain ⟨vP, vN, kn, ko, qo, h1, h2, h3, h4⟩ := h.z
  have c5 := h1.c 5 _ rfl; have cl := h1.lt
  unfold maxLen at h3
  clear h h1 h4
  by_cases v0 : 0 ≤ v
  · by_cases v1 : v < L.length
    · rw [decide_eq_true (show 0 ≤ v ∧ v < L.length from ⟨v0, v1⟩)]
      have d0 : decide (0 ≤ v) = true := decide_eq_true v0
      have d1 : decide (v < (L.length : Int)) = true := decide_eq_true v1
      go_enter Tryz.func44, Tryz.ntmps44
      go_wp2
      go_ret
      exact ⟨rfl, (by repeat (first | exact Below.refl _ _ | refine Below.drew ?_ | refine below_drewN ?_ _ | refine Below.trans ?_ (Below.mono (by assumption) (by first | omega | (simp; omega) | (simp; done))) | refine Below.alloc ?_ (by first | omega | (simp; omega) | (simp; done)) _ | refine Below.setCell ?_ (by first | omega | (simp; omega) | (simp; done)) _))⟩
    · rw [decide_eq_false (show ¬ (0 ≤ v ∧ v < L.length) from fun q => v1 q.2)]
      have d0 : decide (0 ≤ v) = true := decide_eq_true v0
      have d1 : decide (v < (L.length : Int)) = false := decide_eq_false v1
      go_enter Tryz.func44, Tryz.ntmps44
      go_wp2
      go_ret
      exact ⟨rfl, (by repeat (first | exact Below.refl _ _ | refine Below.drew ?_ | refine below_drewN ?_ _ | refine Below.trans ?_ (Below.mono (by assumption) (by first | omega | (simp; omega) | (simp; done))) | refine Below.alloc ?_ (by first | omega | (simp; omega) | (simp; done)) _ | refine Below.setCell ?_ (by first | omega | (simp; omega) | (simp; done)) _))⟩
  · rw [decide_eq_false (show ¬ (0 ≤ v ∧ v < L.length) from fun q => v0 q.1)]
    have d0 : decide (0 ≤ v) = false := decide_eq_false v0
    go_enter Tryz.func44, Tryz.ntmps44
    go_wp2
    go_ret
    exact ⟨rfl, (by repeat (first | exact Below.refl _ _ | refine Below.drew ?_ | refine below_drewN ?_ _ | refine Below.trans ?_ (Below.mono (by assumption) (by first | omega | (simp; omega) | (simp; done))) | refine Below.alloc ?_ (by first | omega | (simp; omega) | (simp; done)) _ | refine Below.setCell ?_ (by first | omega | (simp; omega) | (simp; done)) _))⟩

set_option maxHeartbeats 2000000 in
theorem rlack_ok {X : List Nat} (pm gN : Nat) (mn lw hi : Int) (O : List (List Int)) (M : List Nat) (L : List Nd) (v : Nat) (x : Nd) (w : World) (h : RZ X w pm gN mn lw hi O M L) (hx : L[v]? = some x) :
    Calls Tryz.prog 82 #[.pointer (some ⟨pm, 0, none⟩), .int .i64 v] w fun e w' => e = .returned (.int .i64 (lackN hi x)) ∧ Below w.heap.size w w' := by
  obtain ⟨vP, vN, kn, ko, qo, h1, h2, h3, h4⟩ := h.z
  have c4 := h1.c 4 _ rfl; have c5 := h1.c 5 _ rfl; have cl := h1.lt
  have hl := (List.getElem?_eq_some_iff.1 hx).1
  obtain ⟨m, hm⟩ : ∃ m, M[v]? = some m := ⟨M[v]'(by rw [h.len]; exact hl), List.getElem?_eq_getElem _⟩
  have n0 := h.nodes.c v _ (mptrs_get hm); have nl := h.nodes.lt
  obtain ⟨vF, vT, hb⟩ := h.bud v m x hm hx
  have hI := h.inv x (List.mem_of_getElem? hx)
  have FP := Lib.hid (fun (p : Behind w) => freePages_ok m x.n vF vT x.F x.T p.w' (hb.below p.h) hI)
  have s1 := hI.sumF.1
  have s2 : sumL x.F ≤ 256 := by have := hI.sumF.2; have := hI.n2; omega
  obtain ⟨m1, m2, m3, m4⟩ := h.m0
  have h0 : 0 ≤ hi := by omega
  have e0 : lackN hi x = if hi - sumL x.F < 0 then 0 else hi - sumL x.F := rfl
  rw [e0]
  generalize sumL x.F = s at *
  have ws : IntKind.i64.wrap (hi - s) = hi - s := IntWalk.i64_in _ (by omega)
  have v0 : (0 : Int) ≤ (v : Int) := by omega
  have v1 : (v : Int) < (L.length : Int) := by omega
  unfold maxLen at h3
  clear h h1 h4 hx hm hb hI e0 m1 m2 m3
  by_cases q : hi - s < 0
  · have q' : decide (hi - s < 0) = true := decide_eq_true q
    rw [if_pos q]
    clear q
    go_enter Tryz.func82, Tryz.ntmps82
    go_wp2_with fail
    refine wp_region_behind (by kernel_rfl) (by kernel_rfl) ?_
    repeat (go_big_quiet_step (((go_at_call 78; exact Calls.behind (FP.out _)))))
    refine wpQuiet_nil ?_
    intro w1 hw'
    have hb1 := behind_out hw'
    clear hw'
    obtain ⟨c1, f1⟩ := bcell hb1; have z1 := hb1.size; try simp at z1 c1 f1
    go_wp2
    go_ret
    exact ⟨rfl, hb1⟩
  · have q' : decide (hi - s < 0) = false := decide_eq_false q
    rw [if_neg q]
    clear q
    go_enter Tryz.func82, Tryz.ntmps82
    go_wp2_with fail
    refine wp_region_behind (by kernel_rfl) (by kernel_rfl) ?_
    repeat (go_big_quiet_step (((go_at_call 78; exact Calls.behind (FP.out _)))))
    refine wpQuiet_nil ?_
    intro w1 hw'
    have hb1 := behind_out hw'
    clear hw'
    obtain ⟨c1, f1⟩ := bcell hb1; have z1 := hb1.size; try simp at z1 c1 f1
    go_wp2
    go_ret
    exact ⟨rfl, hb1⟩
end Go.Proofs.YtcokmiidgdmdlaaGreatDoor

namespace Go.Proofs.YtcokmiidgdmdlaaGreatDoor
open Go.RowKit
set_option linter.unusedSimpArgs false
set_option linter.unusedVariables false
attribute [local go_sem ↓] Go.wp_at_zero Go.wp_at_succ

def RGivePost (X : List Nat) (pm gN : Nat) (mn lw hi : Int) (O : List (List Int)) (M : List Nat) (w : World) (r : List Nd × Nat) (e : Ending) (w' : World) : Prop :=
  e = .returned (.int .i64 r.2) ∧ RZ X w' pm gN mn lw hi O M r.1 ∧ Keep M w w'

set_option maxHeartbeats 2000000 in
set_option maxRecDepth 100000 in
theorem rgiveZ {X : List Nat} (pm gN : Nat) (mn lw hi : Int) (O : List (List Int)) (M : List Nat) (L : List Nd) (v a k : Int) (w : World) (h : RZ X w pm gN mn lw hi O M L) (hX : ∀ x ∈ X, x < w.heap.size) :
    Calls Tryz.prog 26 #[.pointer (some ⟨pm, 0, none⟩), .agg #[.int .i64 v, .int .i64 a, .int .i64 k]] w (RGivePost X pm gN mn lw hi O M w (giveZ L v a k)) := by
  have b0 : Below w.heap.size w (w.alloc (.cells [.int .i64 v, .int .i64 a, .int .i64 k].toArray 41)) := (by repeat (first | exact Below.refl _ _ | refine Below.drew ?_ | refine below_drewN ?_ _ | refine Below.trans ?_ (Below.mono (by assumption) (by first | omega | (simp; omega) | (simp; done))) | refine Below.alloc ?_ (by first | omega | (simp; omega) | (simp; done)) _ | refine Below.setCell ?_ (by first | omega | (simp; omega) | (simp; done)) _))
  have L0 := Lib.hid (LocN.mk_ w [.int .i64 v, .int .i64 a, .int .i64 k] 41 rfl)
  have NO := Lib.hid (isNode_any pm gN mn lw hi O M L v _ (h.below b0))
  have HH := Lib.hid h; have HB0 := Lib.hid b0
  by_cases hv : 0 ≤ v ∧ v < L.length
  · rw [decide_eq_true hv] at NO
    obtain ⟨vn, rfl⟩ : ∃ n : Nat, v = n := ⟨v.toNat, by omega⟩
    have hvl : vn < L.length := by omega
    obtain ⟨x, hx⟩ : ∃ x, L[vn]? = some x := ⟨L[vn], List.getElem?_eq_getElem hvl⟩
    obtain ⟨m, hm⟩ : ∃ m, M[vn]? = some m := ⟨M[vn]'(by rw [h.len]; exact hvl), List.getElem?_eq_getElem _⟩
    obtain ⟨vF, vT, hb⟩ := h.bud vn m x hm hx
    have hI := h.inv x (List.mem_of_getElem? hx)
    have HM := Lib.hid hm; have HX := Lib.hid hx
    have v0 : (0 : Int) ≤ (vn : Int) := by omega
    have v1 : (vn : Int) < (L.length : Int) := by omega
    have hmM := List.mem_of_getElem? hm
    have tail : ∀ (r : List Nd × Nat) (Q : World → Ending → World → Prop),
        (∀ W, Below w.heap.size w W → Calls Tryz.prog 74 #[.pointer (some ⟨m, 0, none⟩), .agg #[.int .i64 a, .int .i64 k]] W (Q W)) →
        (∀ W e W', Below w.heap.size w W → Q W e W' → e = .returned (.int .i64 r.2) ∧ RZ X W' pm gN mn lw hi O M r.1 ∧ Keep M w W') →
        Calls Tryz.prog 26 #[.pointer (some ⟨pm, 0, none⟩), .agg #[.int .i64 vn, .int .i64 a, .int .i64 k]] w (RGivePost X pm gN mn lw hi O M w r) := by
      intro r Q hQ hR
      have GI := Lib.hid hQ; have GR := Lib.hid hR
      unfold RGivePost
      clear h b0 hx hm hb hI hv hQ hR
      go_enter Tryz.func26, Tryz.ntmps26
      go_wp2_with fail
      refine NO.out.mono ?_
      rintro e w1 ⟨rfl, hb1⟩
      have K1 : Below w.heap.size w w1 := HB0.out.trans (hb1.mono (by simp))
      have h1 := HH.out.below K1
      obtain ⟨vP, vN, kn, ko, qo, hz, hk1, hk2, _⟩ := h1.z
      have c5 := hz.c 5 _ rfl; have cl := hz.lt
      have r0 := h1.nodes.c vn _ (mptrs_get HM.out); have gl := h1.nodes.lt
      have P := L0.out.go hb1
      have p0 := P.c 0 _ rfl; have p1 := P.c 1 _ rfl; have p2 := P.c 2 _ rfl; have pl := P.lt
      unfold maxLen at hk2
      have KK := Lib.hid K1
      clear hz h1 P NO hb1 K1
      go_wp2_with fail
      refine wp_tail 10 (by kernel_rfl) (by kernel_rfl) ?_
      simp only [List.take_succ_cons, List.take_zero, List.drop_succ_cons, List.drop_zero]
      repeat still_step
      refine wpStill_nil ?_
      go_wp2_with fail
      refine (GI.out _ KK.out.drew).mono ?_
      intro e w2 hq
      obtain ⟨rfl, hr⟩ := GR.out _ _ _ KK.out.drew hq
      have HR := Lib.hid hr
      clear hq hr GI
      go_wp2
      go_ret
      exact ⟨rfl, HR.out.1, HR.out.2⟩
    by_cases hg : getL x.T a = some k
    · rw [giveZ_yes hx hg]
      refine tail _ (fun W e W' => ∃ vF' vT', e = .returned (.int .i64 0) ∧ RBud X W' m x.n vF' vT' (giveF a k x.F) (delL a x.T) ∧ Keep [m] W W') (fun W hbw => rgive_yes m x.n vF vT x.F x.T a k W (hb.below hbw) (fun y hy => Nat.lt_of_lt_of_le (hX y hy) hbw.size) hI (getL_mem hg)) ?_
      rintro W e W' hbw ⟨vF', vT', rfl, hb', hk⟩
      have k2 : Keep [m] w W' := (Keep.of hbw).then hk
      exact ⟨rfl, h.act hm hx hb' (hI.give (getL_mem hg)) k2, k2.mono (fun s hs => by simp at hs; subst hs; exact hmM)⟩
    · rw [giveZ_no hx hg]
      refine tail _ (fun W e W' => e = .returned (.int .i64 4) ∧ Below W.heap.size W W') (fun W hbw => rgive_none m x.n vF vT x.F x.T a k W (hb.below hbw) hI.lenT (fun q => hg (mem_getL hI.ta q))) ?_
      rintro W e W' hbw ⟨rfl, hb2⟩
      have K2 : Below w.heap.size w W' := hbw.trans (hb2.mono hbw.size)
      exact ⟨rfl, h.below K2, Keep.of K2⟩
  · rw [decide_eq_false hv] at NO
    rw [giveZ_bad (by omega)]
    unfold RGivePost
    simp only
    clear h hv b0
    go_enter Tryz.func26, Tryz.ntmps26
    go_wp2_with fail
    refine NO.out.mono ?_
    rintro e w1 ⟨rfl, hb1⟩
    have K1 : Below w.heap.size w w1 := HB0.out.trans (hb1.mono (by simp))
    go_wp2
    go_ret
    exact ⟨rfl, HH.out.below K1, Keep.of K1⟩
theorem mptrs_set (M : List Nat) (j m : Nat) : mptrs (M.set j m) = (mptrs M).set j (.pointer (some ⟨m, 0, none⟩)) := by simp [mptrs, List.map_set]
theorem nodup_set : ∀ {M : List Nat} {j m : Nat}, M.Nodup → m ∉ M → (M.set j m).Nodup
  | [], j, m, _, _ => by simp
  | a :: M, 0, m, h, hm => by
    simp at hm h ⊢
    exact ⟨hm.2, h.2⟩
  | a :: M, j + 1, m, h, hm => by
    simp only [List.set_cons_succ, List.nodup_cons] at h ⊢
    refine ⟨fun q => ?_, nodup_set h.2 (fun q => hm (List.mem_cons_of_mem _ q))⟩
    rcases List.mem_or_eq_of_mem_set q with r | r
    · exact h.1 r
    · exact hm (r ▸ List.mem_cons_self ..)
/-- one node's buddy in the place of another -/
theorem RZ.swap {X : List Nat} {w w' : World} {pm gN : Nat} {mn lw hi : Int} {O : List (List Int)} {M : List Nat} {L : List Nd} (h : RZ X w pm gN mn lw hi O M L) {j m' : Nat} {x : Nd} (hx : L[j]? = some x) (hm' : w.heap.size ≤ m') {F T : List (Int × Int)} {vF vT : Value} (hb : RBud (m' :: X) w' m' x.n vF vT F T) (hI : Inv x.n F T) (k : Keep [gN] w w') (hg : LocN w' gN ((mptrs M).set j (.pointer (some ⟨m', 0, none⟩)))) :
    RZ (m' :: X) w' pm gN mn lw hi O (M.set j m') (L.set j ⟨x.pb, x.bf, x.bt, x.n, F, T⟩) := by
  have il := (List.getElem?_eq_some_iff.1 hx).1
  have nlt := h.nodes.lt
  have h' := h.more (Y := m' :: X) (fun y hy => List.mem_cons_of_mem _ hy) (fun y hy => by simp at hy; rcases hy with rfl | hy; (· exact .inr hm'); (· exact .inl hy))
  obtain ⟨vP, vN, kn, ko, qo, h1, h2, h3, h4⟩ := h'.z
  obtain ⟨n1, n2, n3, n4⟩ := h.ne
  have nM : m' ∉ M := fun q => by have := h.lt q; omega
  have np : m' ≠ pm := fun q => by have := h1.lt; omega
  have ng : m' ≠ gN := fun q => by omega
  refine ⟨⟨vP, vN, kn, ko, qo, by rw [List.length_set]; exact h1.keep k (by simpa using n1), by rw [List.length_set]; exact h2, h3, by rw [List.length_set]; exact h4.keep k (fun s q => by simp at q; subst q; exact .inl h'.mem.2)⟩, by rw [mptrs_set]; exact hg, by simp [h.len], fun i m y hm hy => ?_, fun y hy => ?_, h'.mem, ⟨n1, ?_, ?_, ?_⟩, by rw [List.length_set]; exact h.ord, h.m0⟩
  · by_cases e : j = i
    · subst e
      rw [List.getElem?_set_self (by rw [h.len]; exact il)] at hm; obtain rfl := Option.some.inj hm
      rw [List.getElem?_set_self il] at hy; obtain rfl := Option.some.inj hy
      exact ⟨vF, vT, hb⟩
    · rw [List.getElem?_set_ne e] at hm hy
      obtain ⟨vF', vT', hb'⟩ := h'.bud i m y hm hy
      have hmg : m ≠ gN := fun q => n3 (q ▸ List.mem_of_getElem? hm)
      exact ⟨vF', vT', hb'.keep k fun s q => by simp at q; subst q; exact .inl ⟨h'.mem.2, fun r => hmg r.symm⟩⟩
  · rcases List.mem_or_eq_of_mem_set hy with q | q
    · exact h.inv y q
    · subst q; exact hI
  · intro q; rcases List.mem_or_eq_of_mem_set q with r | r; (· exact n2 r); (· exact np r.symm)
  · intro q; rcases List.mem_or_eq_of_mem_set q with r | r; (· exact n3 r); (· exact ng r.symm)
  · exact nodup_set n4 nM

def RTakeZPost (X : List Nat) (pm gN : Nat) (mn lw hi : Int) (O : List (List Int)) (M : List Nat) (w : World) (r : List Nd × Nat × Pl) (e : Ending) (w' : World) : Prop :=
  e = .returned (.tuple #[plV r.2.2, .int .i64 r.2.1]) ∧ (∃ X' M', RZ X' w' pm gN mn lw hi O M' r.1 ∧ (∀ x ∈ X, x ∈ X') ∧ (∀ x ∈ X', x ∈ X ∨ w.heap.size ≤ x) ∧ (∀ x ∈ X', x < w'.heap.size) ∧ ∀ m ∈ M', m ∈ M ∨ w.heap.size ≤ m) ∧ Keep [gN] w w'
theorem rtakeZ_same {X : List Nat} {pm gN : Nat} {mn lw hi : Int} {O : List (List Int)} {M : List Nat} {L : List Nd} {w w' : World} (h : RZ X w pm gN mn lw hi O M L) (hX : ∀ x ∈ X, x < w.heap.size) (hb : Below w.heap.size w w') {r : List Nd × Nat × Pl} (hr : r.1 = L) {e : Ending} (he : e = .returned (.tuple #[plV r.2.2, .int .i64 r.2.1])) : RTakeZPost X pm gN mn lw hi O M w r e w' :=
  ⟨he, ⟨X, M, by rw [hr]; exact h.below hb, fun _ h => h, fun _ h => .inl h, fun x hx => Nat.lt_of_lt_of_le (hX x hx) hb.size, fun _ h => .inl h⟩, Keep.of hb⟩

set_option maxHeartbeats 2000000 in
set_option maxRecDepth 100000 in
theorem rtakeZ_bad {X : List Nat} (pm gN : Nat) (mn lw hi : Int) (O : List (List Int)) (M : List Nat) (L : List Nd) (v k : Int) (u : Bool) (w : World) (h : RZ X w pm gN mn lw hi O M L) (hX : ∀ x ∈ X, x < w.heap.size) (hv : v < 0 ∨ (L.length : Int) ≤ v ∨ k < 0 ∨ 6 < k) :
    Calls Tryz.prog 27 #[.pointer (some ⟨pm, 0, none⟩), .int .i64 v, .int .i64 k, .bool u] w (RTakeZPost X pm gN mn lw hi O M w (takeZ mn O L v k u)) := by
  have b0 : Below w.heap.size w (w.alloc (.cells [.int .i64 0, .int .i64 0, .int .i64 0].toArray 41)) := (by repeat (first | exact Below.refl _ _ | refine Below.drew ?_ | refine below_drewN ?_ _ | refine Below.trans ?_ (Below.mono (by assumption) (by first | omega | (simp; omega) | (simp; done))) | refine Below.alloc ?_ (by first | omega | (simp; omega) | (simp; done)) _ | refine Below.setCell ?_ (by first | omega | (simp; omega) | (simp; done)) _))
  have L0 := Lib.hid (LocN.mk_ w [.int .i64 0, .int .i64 0, .int .i64 0] 41 rfl)
  have NO := Lib.hid (isNode_any pm gN mn lw hi O M L v _ (h.below b0))
  have HH := Lib.hid h; have HX := Lib.hid hX; have HB0 := Lib.hid b0
  have HT := Lib.hid (takeZ_bad (mn := mn) (O := O) (u := u) hv)
  have hcase : (0 ≤ v ∧ v < L.length) → (0 ≤ k ∧ k ≤ 6) → False := by omega
  clear h hX hv b0
  by_cases hv : 0 ≤ v ∧ v < L.length
  all_goals by_cases hk : 0 ≤ k ∧ k ≤ 6
  · exact absurd hk (fun q => hcase hv q)
  all_goals
    first | rw [decide_eq_true hv] at NO | rw [decide_eq_false hv] at NO
    have OD : Hid (∀ W, Calls Tryz.prog 75 #[.int .i64 k] W fun e w' => e = .returned (.bool (decide (0 ≤ k ∧ k ≤ 6))) ∧ W = w') := fun W => isOrder_any k W
    first | rw [decide_eq_true hk] at OD | rw [decide_eq_false hk] at OD
    clear hcase hv hk
    go_enter Tryz.func27, Tryz.ntmps27
    go_wp2_with fail
    refine NO.out.mono ?_
    rintro e w1 ⟨rfl, hb1⟩
    have K1 : Below w.heap.size w w1 := HB0.out.trans (hb1.mono (by simp))
    have P := L0.out.go hb1
    have p0 := P.c 0 _ rfl; have p1 := P.c 1 _ rfl; have p2 := P.c 2 _ rfl; have f0 := P.f 0 (by simp); have f1 := P.f 1 (by simp); have f2 := P.f 2 (by simp); have pl := P.lt
    have LF := Lib.hid (P.store3 (.int .i64 0) (.int .i64 0) (.int .i64 0))
    clear P
    go_wp2_with fail
    refine (OD.out _).mono ?_
    rintro e w2 ⟨rfl, rfl⟩
    go_wp2
    have e0 := LF.out.c 0 _ rfl; have e1 := LF.out.c 1 _ rfl; have e2 := LF.out.c 2 _ rfl
    exact bodyPost_ret (v := .tuple #[plV (0, 0, 0), .int .i64 2]) (by simp [e0, e1, e2, results, Tryz.results27, go_sem, plV]) rfl (rtakeZ_same HH.out HX.out (Keep.belowN (by repeat (first | exact Keep.of K1 | refine Keep.alloc ?_ _ | refine Keep.drew ?_ | refine Keep.drewN ?_ _ | refine Keep.setCell ?_ (.inr (by first | omega | (simp; omega) | (simp; done))) _))) (by rw [HT.out]) (by rw [HT.out]; rfl))
end Go.Proofs.YtcokmiidgdmdlaaGreatDoor

namespace Go.Proofs.YtcokmiidgdmdlaaGreatDoor
open Go.RowKit
set_option linter.unusedSimpArgs false
set_option linter.unusedVariables false
attribute [local go_sem ↓] Go.wp_at_zero Go.wp_at_succ

def hasAt (k : Int) (L : List Nd) (j : Int) : Bool := match L[j.toNat]? with | some x => someN k x | none => false
theorem any_all {k : Int} {L : List Nd} {D : List Int} (h : ∀ x : Int, x ∈ D ↔ 0 ≤ x ∧ x < L.length) : D.any (hasAt k L) = L.any (someN k) := by
  rw [Bool.eq_iff_iff, List.any_eq_true, List.any_eq_true]
  constructor
  · rintro ⟨j, hj, hh⟩
    unfold hasAt at hh
    split at hh
    · rename_i x hx
      exact ⟨x, List.mem_of_getElem? hx, hh⟩
    · cases hh
  · rintro ⟨x, hx, hh⟩
    obtain ⟨i, hi⟩ := List.getElem?_of_mem hx
    have := (List.getElem?_eq_some_iff.1 hi).1
    refine ⟨(i : Int), (h _).2 ⟨by omega, by omega⟩, ?_⟩
    unfold hasAt
    rw [Int.toNat_natCast, hi]
    exact hh
theorem any_snocD {α : Type} {p : α → Bool} {D : List α} {t : Nat} {z : α} (hz : D[t]? = some z) : (D.take (t + 1)).any p = ((D.take t).any p || p z) := any_snoc hz
theorem someN_best {k : Int} {x : Nd} : someN k x = (bestL k x.F).isSome := by unfold someN; rw [bestL_isSome]

/-- a take that found a block -/
theorem rhit {X : List Nat} {pm gN : Nat} {mn lw hi : Int} {O : List (List Int)} {M : List Nat} {L : List Nd} {w w3 w6 w7 : World} {r : List Nd × Nat × Pl} {k : Int} {zn m' : Nat} {x : Nd} {b : Int × Int} {vF vT : Value} (hr : r = (L.set (zn : Int).toNat (tookN k b x), 0, ((zn : Int), b.1, k)))
    (h : RZ X w pm gN mn lw hi O M L) (hX : ∀ y ∈ X, y < w.heap.size) (hx : L[zn]? = some x) (hm : w.heap.size < m') (hb : RBud (m' :: w.heap.size :: X) w3 m' x.n vF vT (takeF k b x.F) (putL b.1 k x.T)) (hI : Inv x.n (takeF k b x.F) (putL b.1 k x.T)) (B06 : Below w.heap.size w w6) (B36 : Below w3.heap.size w3 w6) (hN : LocN w6 gN (mptrs M))
    (e7 : w7 = (((w6.setCell ⟨gN, zn, none⟩ (.pointer (some ⟨m', 0, none⟩))).setCell ⟨w.heap.size, 0, none⟩ (.int .i64 zn)).setCell ⟨w.heap.size, 1, none⟩ (.int .i64 b.1)).setCell ⟨w.heap.size, 2, none⟩ (.int .i64 k)) :
    RTakeZPost X pm gN mn lw hi O M w r (.returned (.tuple #[plV ((zn : Int), b.1, k), .int .i64 0])) w7 := by
  have il := (List.getElem?_eq_some_iff.1 hx).1
  have gw : gN < w.heap.size := h.nodes.lt
  have k67 : Keep [gN, w.heap.size] w6 w7 := by
    rw [e7]
    exact ((((Keep.refl _ _).setCell (p := ⟨gN, zn, none⟩) (.inl (by simp)) _).setCell (p := ⟨w.heap.size, 0, none⟩) (.inl (by simp)) _).setCell (p := ⟨w.heap.size, 1, none⟩) (.inl (by simp)) _).setCell (p := ⟨w.heap.size, 2, none⟩) (.inl (by simp)) _
  have kw7 : Keep [gN] w w7 := by
    rw [e7]
    exact ((((Keep.of B06).setCell (p := ⟨gN, zn, none⟩) (.inl (by simp)) _).setCell (p := ⟨w.heap.size, 0, none⟩) (.inr (Nat.le_refl _)) _).setCell (p := ⟨w.heap.size, 1, none⟩) (.inr (Nat.le_refl _)) _).setCell (p := ⟨w.heap.size, 2, none⟩) (.inr (Nat.le_refl _)) _
  have hN7 : LocN w7 gN ((mptrs M).set zn (.pointer (some ⟨m', 0, none⟩))) := by
    rw [e7]
    exact (((hN.store zn (.pointer (some ⟨m', 0, none⟩)) (by rw [mptrs_length, h.len]; exact il)).far (by omega) 0 _).far (by omega) 1 _).far (by omega) 2 _
  have mlt := hb.lt
  have hmw : m' ≠ w.heap.size := by omega
  have hb7 : RBud (m' :: w.heap.size :: X) w7 m' x.n vF vT (takeF k b x.F) (putL b.1 k x.T) := (hb.below B36).keep k67 (fun s hs => by
    simp at hs
    rcases hs with rfl | rfl
    · exact .inl ⟨by simp [h.mem.2], by omega⟩
    · exact .inl ⟨by simp, fun q => hmw q.symm⟩)
  have hb8 : RBud (m' :: X) w7 m' x.n vF vT (takeF k b x.F) (putL b.1 k x.T) := hb7.sub (by simp) (fun y hy => by simp at hy ⊢; rcases hy with rfl | hy; (· exact .inl rfl); (· exact .inr (.inr hy)))
  subst hr
  refine ⟨rfl, ⟨m' :: X, M.set zn m', ?_, fun y hy => List.mem_cons_of_mem _ hy, fun y hy => ?_, fun y hy => ?_, fun y hy => ?_⟩, kw7⟩
  · rw [Int.toNat_natCast]
    exact h.swap hx (by omega) hb8 hI kw7 hN7
  · simp at hy; rcases hy with rfl | hy
    · exact .inr (by omega)
    · exact .inl hy
  · simp at hy; rcases hy with rfl | hy
    · exact hb8.lt
    · exact Nat.lt_of_lt_of_le (hX y hy) kw7.size
  · rcases List.mem_or_eq_of_mem_set hy with q | q
    · exact .inl q
    · subst q; exact .inr (by omega)

set_option maxHeartbeats 8000000 in
set_option maxRecDepth 100000 in
theorem rtakeZ_main {X : List Nat} (pm gN : Nat) (mn lw hi : Int) (O : List (List Int)) (M : List Nat) (L : List Nd) (v : Nat) (k : Int) (u : Bool) (w : World) (h : RZ X w pm gN mn lw hi O M L) (hX : ∀ x ∈ X, x < w.heap.size) (hv : v < L.length) (k0 : 0 ≤ k) (k6 : k ≤ 6) :
    Calls Tryz.prog 27 #[.pointer (some ⟨pm, 0, none⟩), .int .i64 v, .int .i64 k, .bool u] w (RTakeZPost X pm gN mn lw hi O M w (takeZ mn O L v k u)) := by
  obtain ⟨D, hD, hDl, hDm⟩ := h.ord.get hv
  have hnn : ¬ ((v : Int) < 0 ∨ (L.length : Int) ≤ (v : Int) ∨ k < 0 ∨ 6 < k) := by omega
  have TNO : Hid (pickZ mn k u L D = none → takeZ mn O L v k u = (L, lowZ k L, (0, 0, 0))) := fun hp => takeZ_no hnn (by simpa using hD) hp
  have TYES : Hid (∀ (j : Int) (x : Nd) (b : Int × Int), pickZ mn k u L D = some j → L[j.toNat]? = some x → bestL k x.F = some b → takeZ mn O L v k u = (L.set j.toNat (tookN k b x), 0, (j, b.1, k))) := fun j x b hp hx hb => takeZ_yes hnn (by simpa using hD) hp hx hb
  have b0 : Below w.heap.size w (w.alloc (.cells [.int .i64 0, .int .i64 0, .int .i64 0].toArray 41)) := (by repeat (first | exact Below.refl _ _ | refine Below.drew ?_ | refine below_drewN ?_ _ | refine Below.trans ?_ (Below.mono (by assumption) (by first | omega | (simp; omega) | (simp; done))) | refine Below.alloc ?_ (by first | omega | (simp; omega) | (simp; done)) _ | refine Below.setCell ?_ (by first | omega | (simp; omega) | (simp; done)) _))
  have L0 := Lib.hid (LocN.mk_ w [.int .i64 0, .int .i64 0, .int .i64 0] 41 rfl)
  have NO := isNode_any pm gN mn lw hi O M L v _ (h.below b0)
  rw [decide_eq_true (show 0 ≤ (v : Int) ∧ (v : Int) < L.length by omega)] at NO
  have NO := Lib.hid NO
  have HH := Lib.hid h; have HX := Lib.hid hX; have HB0 := Lib.hid b0; have HD := Lib.hid hD; have HDM := Lib.hid hDm; have HDL := Lib.hid hDl
  obtain ⟨vP, vN, kn, ko, qo, hz, hk1, hk2, hrr⟩ := h.z
  obtain ⟨p, cap, ep, hc1, hc2, hcn⟩ := hrr.form
  rw [h.ord.1] at ep hc1
  injection ep with ep1 ep2 ep3
  subst ep1 ep3
  obtain ⟨gO, oO, uD, rfl, _, hgO, hcu, hu⟩ := hcn v D hD
  obtain ⟨pD, kD, rfl, hkD, hmD, hcD⟩ := hu.int
  obtain ⟨gD, oD, rfl, _, hgD, hz0⟩ := hcD 0 _ (List.getElem?_eq_getElem (by omega))
  clear hz0
  have HCD : Hid (∀ t z, D[t]? = some z → w.cell? ⟨gD, oD + t, none⟩ = some (.int .i64 z)) := fun t z hz => by
    obtain ⟨g', o', e, _, _, q⟩ := hcD t z hz
    injection e with e; injection e with ea eb
    subst ea eb
    exact q
  have HZ := Lib.hid hz; have HCU := Lib.hid hcu
  have zl := hz.lt
  have v0 : (0 : Int) ≤ (v : Int) := by omega
  have v1 : (v : Int) < (L.length : Int) := by omega
  rw [hDl] at hkD HCU
  unfold maxLen at hk2 hc2 hmD
  clear h hX b0 hD hDm hDl hnn hz hrr hcn hcu hu hcD
  go_enter Tryz.func27, Tryz.ntmps27
  go_wp2_with fail
  refine NO.out.mono ?_
  rintro e w1 ⟨rfl, hb1⟩
  have K1 : Below w.heap.size w w1 := HB0.out.trans (hb1.mono (by simp))
  have z1 := hb1.size
  simp at z1
  have P1 := Lib.hid (L0.out.go hb1)
  clear NO L0 HB0 hb1
  go_wp2_with (go_at_call 75; refine (isOrder_yes _ _ ⟨k0, k6⟩).mono ?_; rintro e w' ⟨rfl, rfl⟩)
  go_loopw [12, 13] (fun lv iv wr => ∃ t : Nat, t ≤ L.length ∧ iv = .int .i64 t ∧ lv = .bool ((D.take t).any (hasAt k L)) ∧ Hid (∀ z ∈ D.take t, okAt mn k u L z = false) ∧ Below w1.heap.size w1 wr) (fun _ iv _ => L.length - (intOf iv).toNat)
  case atStart => exact ⟨0, Nat.zero_le _, by go_num, by simp, (show ∀ z ∈ D.take 0, okAt mn k u L z = false from by simp), Below.refl _ _⟩
  case round =>
    obtain ⟨t, ht, rfl, rfl, NOK, hbel⟩ := hrel
    have zr := hbel.size
    have KR : Below w.heap.size w wr := K1.trans (hbel.mono (by omega))
    have hZr := HZ.out.go KR
    have c5 := hZr.c 5 _ rfl; have c6 := hZr.c 6 _ rfl; have cl := hZr.lt
    by_cases hlt : t < L.length
    · obtain ⟨z, hz⟩ : ∃ z, D[t]? = some z := ⟨D[t]'(by rw [HDL.out]; exact hlt), List.getElem?_eq_getElem _⟩
      have hzm := (HDM.out z).1 (List.mem_of_getElem? hz)
      obtain ⟨zn, rfl⟩ : ∃ zn : Nat, z = zn := ⟨z.toNat, by omega⟩
      obtain ⟨x, hx⟩ : ∃ x, L[zn]? = some x := ⟨L[zn]'(by omega), List.getElem?_eq_getElem _⟩
      obtain ⟨m, hm⟩ : ∃ m, M[zn]? = some m := ⟨M[zn]'(by rw [HH.out.len]; omega), List.getElem?_eq_getElem _⟩
      have r0 := (KR.cell (p := ⟨gO, oO + v, none⟩) hgO).trans HCU.out
      have r1 := (KR.cell (p := ⟨gD, oD + t, none⟩) hgD).trans (HCD.out t _ hz)
      have n0 := (HH.out.nodes.go KR).c zn _ (mptrs_get hm); have nl := (HH.out.nodes.go KR).lt
      have zO : gO < wr.heap.size := by omega
      have zD : gD < wr.heap.size := by omega
      have t0 : (0 : Int) ≤ (t : Int) := by omega
      have t1 : (t : Int) < (L.length : Int) := by omega
      have y0 : (0 : Int) ≤ (zn : Int) := by omega
      have y1 : (zn : Int) < (L.length : Int) := by omega
      obtain ⟨vF, vT, hbud0⟩ := HH.out.bud zn m x hm hx
      have hbud := (hbud0.more (Y := w.heap.size :: X) (List.mem_cons_of_mem _ hbud0.mem) (fun y hy => by simp at hy; rcases hy with rfl | hy; (· exact .inr (Nat.le_refl _)); (· exact .inl hy))).below KR
      have hI := HH.out.inv x (List.mem_of_getElem? hx)
      have hXr : ∀ y ∈ w.heap.size :: X, y < wr.heap.size := fun y hy => by simp at hy; rcases hy with rfl | hy; (· omega); (· exact Nat.lt_of_lt_of_le (HX.out y hy) KR.size)
      have OW := Lib.hid (own_ok m x.n vF vT x.F x.T wr hbud hXr hI.lenF hI.lenT)
      have HI := Lib.hid hI; have HXr := Lib.hid hXr; have HX1 := Lib.hid hx; have HM1 := Lib.hid hm; have HZ1 := Lib.hid hz
      clear hx hm hbud hbud0 hI hXr hz hZr
      go_wp2_with fail
      refine OW.out.mono ?_
      rintro e w2 ⟨m', vF', vT', rfl, hb', hm', hb2⟩
      have z2 := hb2.size
      have RT := Lib.hid (rtake_walk (X := m' :: w.heap.size :: X) m' x.n vF' vT' x.F x.T k w2 hb' (fun y hy => by rcases List.mem_cons.1 hy with rfl | hy; (· exact hb'.lt); (· exact Nat.lt_of_lt_of_le (HXr.out y hy) z2)) HI.out k0)
      have HB' := Lib.hid hb'
      clear OW hb' r0 r1 n0
      go_wp2_with fail
      refine RT.out.mono ?_
      rintro e w3 (⟨hbn, rfl, hb3⟩ | ⟨b, vF2, vT2, hbb, rfl, hr3, hk3⟩)
      · have hs : someN k x = false := by rw [someN_best, hbn]; rfl
        have hha : hasAt k L (zn : Int) = false := by unfold hasAt; rw [Int.toNat_natCast, HX1.out]; exact hs
        have hno : okAt mn k u L (zn : Int) = false := by unfold okAt; rw [Int.toNat_natCast, HX1.out]; simp [okN, hbn]
        have NOK2 := Lib.hid (take_snoc NOK.out HZ1.out hno)
        have AN := Lib.hid (any_snocD (p := hasAt k L) HZ1.out)
        rw [hha, Bool.or_false] at AN
        have K3 : Below w1.heap.size w1 w3 := hbel.trans ((hb2.trans (hb3.mono z2)).mono zr)
        have z3 := K3.size
        clear hs hha hno hbn RT
        go_wp2
        go_roundw
        case rel => exact ⟨t + 1, by omega, by go_num, by rw [AN.out], NOK2, (by repeat (first | exact Below.refl _ _ | refine Below.drew ?_ | refine below_drewN ?_ _ | refine Below.trans ?_ (Below.mono (by assumption) (by first | omega | (simp; omega) | (simp; done))) | refine Below.alloc ?_ (by first | omega | (simp; omega) | (simp; done)) _ | refine Below.setCell ?_ (by first | omega | (simp; omega) | (simp; done)) _))⟩
        case measure => simp [intOf]; omega
      · have hs : someN k x = true := by rw [someN_best, hbb]; rfl
        have hha : hasAt k L (zn : Int) = true := by unfold hasAt; rw [Int.toNat_natCast, HX1.out]; exact hs
        have AN := Lib.hid (any_snocD (p := hasAt k L) HZ1.out)
        rw [hha, Bool.or_true] at AN
        have hsum := HI.out.sum_take k0 hbb
        have hI2 := HI.out.take k0 hbb
        have s0 := HI.out.sumF.1; have s1 : sumL x.F ≤ 256 := by have := HI.out.sumF.2; have := HI.out.n2; omega
        have s2 := (sz_bd k0 k6)
        have K3 : Below w.heap.size w w3 := (KR.trans (hb2.mono KR.size)).trans (hk3.below (by have := KR.size; omega) (fun s hs => by simp at hs; omega))
        have B13 : Below w1.heap.size w1 w3 := (hbel.trans (hb2.mono zr)).trans (hk3.below (by omega) (fun s hs => by simp at hs; omega))
        have z3 := B13.size
        have hmay : mayN mn k u x = (u || decide (mn ≤ sumL x.F - sz k)) := rfl
        have FP := Lib.hid (fun (p : Behind (w3.alloc (.cells [.int .i64 b.1, .int .i64 k].toArray 39))) => freePages_ok m' x.n vF2 vT2 (takeF k b x.F) (putL b.1 k x.T) p.w' ((hr3.below ((Below.refl _ _).alloc (Nat.le_refl _) _)).below p.h) hI2)
        rw [hsum] at FP
        have HR3 := Lib.hid hr3
        have HBB := Lib.hid hbb
        have OKD : Hid (mayN mn k u x = true → okAt mn k u L (zn : Int) = true) := fun q => by unfold okAt; rw [Int.toNat_natCast, HX1.out]; simp [okN, q, HBB.out]
        have OKN : Hid (mayN mn k u x = false → okAt mn k u L (zn : Int) = false) := fun q => by unfold okAt; rw [Int.toNat_natCast, HX1.out]; simp [okN, q]
        have hZ3 := HZ.out.go K3
        have d2 := hZ3.c 2 _ rfl; have d3l := hZ3.lt
        obtain ⟨b1, b2⟩ := b
        simp only at FP
        have b61 : Below w3.heap.size w3 (w3.alloc (.cells [.int .i64 b1, .int .i64 k].toArray 39)) := (by repeat (first | exact Below.refl _ _ | refine Below.drew ?_ | refine below_drewN ?_ _ | refine Below.trans ?_ (Below.mono (by assumption) (by first | omega | (simp; omega) | (simp; done))) | refine Below.alloc ?_ (by first | omega | (simp; omega) | (simp; done)) _ | refine Below.setCell ?_ (by first | omega | (simp; omega) | (simp; done)) _))
        rw [hmay] at OKD OKN
        clear hs hha hsum hI2 hr3 hbb hZ3 hmay RT hk3 c5 c6
        cases u with
        | true =>
          have OKA := Lib.hid (OKD.out rfl)
          go_wp2_with fail
          go_quiet (fail)
          · obtain ⟨w6, hw6⟩ : ∃ w6, w6 = (w3.alloc (.cells #[.int .i64 b1, .int .i64 k] 39)).drewN nq := ⟨_, rfl⟩
            rw [← hw6]
            have B6 : Below (w3.alloc (.cells [.int .i64 b1, .int .i64 k].toArray 39)).heap.size (w3.alloc (.cells [.int .i64 b1, .int .i64 k].toArray 39)) w6 := by rw [hw6]; exact below_drewN (Below.refl _ _) _
            clear hw6
            have B06 : Below w.heap.size w w6 := K3.trans ((b61.trans (B6.mono (by simp))).mono K3.size)
            have B16 : Below w1.heap.size w1 w6 := B13.trans ((b61.trans (B6.mono (by simp))).mono B13.size)
            have B36 : Below w3.heap.size w3 w6 := b61.trans (B6.mono (by simp))
            have z36 := B36.size
            have hZ6 := HZ.out.go B06
            have d5 := hZ6.c 5 _ rfl; have dl := hZ6.lt
            have N6 := HH.out.nodes.go B06
            have n0 := N6.c zn _ (mptrs_get HM1.out); have nf := N6.f zn (by rw [mptrs_length, HH.out.len]; omega); have nl6 := N6.lt
            have T6 := (LocN.mk_ w3 [.int .i64 b1, .int .i64 k] 39 rfl).go B6
            have t60 := T6.c 0 _ rfl; have t61 := T6.c 1 _ rfl; have t6l := T6.lt
            have P6 := P1.out.go B16
            have p0 := P6.c 0 _ rfl; have p1 := P6.c 1 _ rfl; have p2 := P6.c 2 _ rfl; have f0 := P6.f 0 (by simp); have f1 := P6.f 1 (by simp); have f2 := P6.f 2 (by simp); have pl := P6.lt
            have gw : gN < w.heap.size := HH.out.nodes.lt
            have ne1 : ¬ (gN = w.heap.size) := by omega
            have ne2 : ¬ (w.heap.size = gN) := by omega
            have ne3 : ¬ (w3.heap.size = gN) := by omega
            have ne4 : ¬ (gN = w3.heap.size) := by omega
            have ne5 : ¬ (w3.heap.size = w.heap.size) := by omega
            have ne6 : ¬ (w.heap.size = w3.heap.size) := by omega
            have HN6 := Lib.hid N6; have HP6 := Lib.hid P6; have HB06 := Lib.hid B06; have HB36 := Lib.hid B36
            clear hZ6 N6 T6 P6 B06 B16 B36 B6 b61
            go_wp2
            have LF := (HP6.out.far ne1 zn (.pointer (some ⟨m', 0, none⟩))).store3 (.int .i64 zn) (.int .i64 b1) (.int .i64 k)
            have e0 := LF.c 0 _ rfl; have e1 := LF.c 1 _ rfl; have e2 := LF.c 2 _ rfl
            refine bodyPost_ret (v := .tuple #[plV (zn, b1, k), .int .i64 0]) (by simp [e0, e1, e2, results, Tryz.results27, go_sem, plV]) rfl ?_
            exact rhit (TYES.out _ x (b1, b2) (find_at NOK.out HZ1.out OKA.out) (by rw [Int.toNat_natCast]; exact HX1.out) HBB.out) HH.out HX.out HX1.out (by omega) HR3.out (HI.out.take k0 HBB.out) HB06.out HB36.out HN6.out rfl
        | false =>
          by_cases hmn : mn ≤ sumL x.F - sz k
          · have hlt' : decide (sumL x.F - sz k < mn) = false := decide_eq_false (by omega)
            have OKA := Lib.hid (OKD.out (by simp [hmn]))
            go_wp2_with fail
            refine wp_region_behind (by kernel_rfl) (by kernel_rfl) ?_
            repeat (go_big_quiet_step (((go_at_call 78; exact Calls.behind (FP.out _)))))
            refine wpQuiet_nil ?_
            intro w6 hw'
            have hb6 := behind_out hw'
            clear hw'
            have z6 := hb6.size; try simp at z6
            have B6 := hb6
            have B06 : Below w.heap.size w w6 := K3.trans ((b61.trans (B6.mono (by simp))).mono K3.size)
            have B16 : Below w1.heap.size w1 w6 := B13.trans ((b61.trans (B6.mono (by simp))).mono B13.size)
            have B36 : Below w3.heap.size w3 w6 := b61.trans (B6.mono (by simp))
            have z36 := B36.size
            have hZ6 := HZ.out.go B06
            have d5 := hZ6.c 5 _ rfl; have dl := hZ6.lt
            have N6 := HH.out.nodes.go B06
            have n0 := N6.c zn _ (mptrs_get HM1.out); have nf := N6.f zn (by rw [mptrs_length, HH.out.len]; omega); have nl6 := N6.lt
            have T6 := (LocN.mk_ w3 [.int .i64 b1, .int .i64 k] 39 rfl).go B6
            have t60 := T6.c 0 _ rfl; have t61 := T6.c 1 _ rfl; have t6l := T6.lt
            have P6 := P1.out.go B16
            have p0 := P6.c 0 _ rfl; have p1 := P6.c 1 _ rfl; have p2 := P6.c 2 _ rfl; have f0 := P6.f 0 (by simp); have f1 := P6.f 1 (by simp); have f2 := P6.f 2 (by simp); have pl := P6.lt
            have gw : gN < w.heap.size := HH.out.nodes.lt
            have ne1 : ¬ (gN = w.heap.size) := by omega
            have ne2 : ¬ (w.heap.size = gN) := by omega
            have ne3 : ¬ (w3.heap.size = gN) := by omega
            have ne4 : ¬ (gN = w3.heap.size) := by omega
            have ne5 : ¬ (w3.heap.size = w.heap.size) := by omega
            have ne6 : ¬ (w.heap.size = w3.heap.size) := by omega
            have HN6 := Lib.hid N6; have HP6 := Lib.hid P6; have HB06 := Lib.hid B06; have HB36 := Lib.hid B36
            clear hZ6 N6 T6 P6 B06 B16 B36 B6 b61
            go_wp2
            have LF := (HP6.out.far ne1 zn (.pointer (some ⟨m', 0, none⟩))).store3 (.int .i64 zn) (.int .i64 b1) (.int .i64 k)
            have e0 := LF.c 0 _ rfl; have e1 := LF.c 1 _ rfl; have e2 := LF.c 2 _ rfl
            refine bodyPost_ret (v := .tuple #[plV (zn, b1, k), .int .i64 0]) (by simp [e0, e1, e2, results, Tryz.results27, go_sem, plV]) rfl ?_
            exact rhit (TYES.out _ x (b1, b2) (find_at NOK.out HZ1.out OKA.out) (by rw [Int.toNat_natCast]; exact HX1.out) HBB.out) HH.out HX.out HX1.out (by omega) HR3.out (HI.out.take k0 HBB.out) HB06.out HB36.out HN6.out rfl
          · have hlt' : decide (sumL x.F - sz k < mn) = true := decide_eq_true (by omega)
            have NOK2 := Lib.hid (take_snoc NOK.out HZ1.out (OKN.out (by simp [hmn])))
            go_wp2_with fail
            refine wp_region_behind (by kernel_rfl) (by kernel_rfl) ?_
            repeat (go_big_quiet_step (((go_at_call 78; exact Calls.behind (FP.out _)))))
            refine wpQuiet_nil ?_
            intro w6 hw'
            have hb6 := behind_out hw'
            clear hw'
            have z6 := hb6.size; try simp at z6
            go_wp2
            go_roundw
            case rel => exact ⟨t + 1, by omega, by go_num, by rw [AN.out], NOK2, B13.trans ((b61.trans (hb6.mono (by simp))).mono B13.size)⟩
            case measure => simp [intOf]; omega
    · have et : t = D.length := by have := HDL.out; omega
      have hp : pickZ mn k u L D = none := find_no (fun z hz => NOK.out z (by rw [et, List.take_length]; exact hz))
      have TT := Lib.hid (TNO.out hp)
      have hany : (D.take t).any (hasAt k L) = L.any (someN k) := by rw [et, List.take_length]; exact any_all HDM.out
      have P := P1.out.go hbel
      have p0 := P.c 0 _ rfl; have p1 := P.c 1 _ rfl; have p2 := P.c 2 _ rfl; have f0 := P.f 0 (by simp); have f1 := P.f 1 (by simp); have f2 := P.f 2 (by simp); have pl := P.lt
      have LF := Lib.hid (P.store3 (.int .i64 0) (.int .i64 0) (.int .i64 0))
      rw [hany]
      clear hp et hany P
      cases hl : L.any (someN k) with
      | true =>
        have hlow : lowZ k L = 7 := by unfold lowZ; rw [if_pos hl]
        have HLO := Lib.hid hlow
        clear hl hlow
        go_wp2
        have e0 := LF.out.c 0 _ rfl; have e1 := LF.out.c 1 _ rfl; have e2 := LF.out.c 2 _ rfl
        exact bodyPost_ret (v := .tuple #[plV (0, 0, 0), .int .i64 7]) (by simp [e0, e1, e2, results, Tryz.results27, go_sem, plV]) rfl (rtakeZ_same HH.out HX.out (Keep.belowN (by repeat (first | exact Keep.of KR | refine Keep.alloc ?_ _ | refine Keep.drew ?_ | refine Keep.drewN ?_ _ | refine Keep.setCell ?_ (.inr (by first | omega | (simp; omega) | (simp; done))) _))) (by rw [TT.out]) (by rw [TT.out, HLO.out]; rfl))
      | false =>
        have hlow : lowZ k L = 5 := by unfold lowZ; rw [hl]; rfl
        have HLO := Lib.hid hlow
        clear hl hlow
        go_wp2
        have e0 := LF.out.c 0 _ rfl; have e1 := LF.out.c 1 _ rfl; have e2 := LF.out.c 2 _ rfl
        exact bodyPost_ret (v := .tuple #[plV (0, 0, 0), .int .i64 5]) (by simp [e0, e1, e2, results, Tryz.results27, go_sem, plV]) rfl (rtakeZ_same HH.out HX.out (Keep.belowN (by repeat (first | exact Keep.of KR | refine Keep.alloc ?_ _ | refine Keep.drew ?_ | refine Keep.drewN ?_ _ | refine Keep.setCell ?_ (.inr (by first | omega | (simp; omega) | (simp; done))) _))) (by rw [TT.out]) (by rw [TT.out, HLO.out]; rfl))

theorem rtakeZ_any {X : List Nat} (pm gN : Nat) (mn lw hi : Int) (O : List (List Int)) (M : List Nat) (L : List Nd) (v k : Int) (u : Bool) (w : World) (h : RZ X w pm gN mn lw hi O M L) (hX : ∀ x ∈ X, x < w.heap.size) :
    Calls Tryz.prog 27 #[.pointer (some ⟨pm, 0, none⟩), .int .i64 v, .int .i64 k, .bool u] w (RTakeZPost X pm gN mn lw hi O M w (takeZ mn O L v k u)) := by
  by_cases hv : v < 0 ∨ (L.length : Int) ≤ v ∨ k < 0 ∨ 6 < k
  · exact rtakeZ_bad pm gN mn lw hi O M L v k u w h hX hv
  · obtain ⟨n, rfl⟩ : ∃ n : Nat, v = n := ⟨v.toNat, by omega⟩
    exact rtakeZ_main pm gN mn lw hi O M L n k u w h hX (by omega) (by omega) (by omega)
end Go.Proofs.YtcokmiidgdmdlaaGreatDoor
