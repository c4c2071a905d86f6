/- Lemmas and contracts for the claim's last text: ZOps, Code. -/
import Derived.Deep.QuietTactic
import Derived.BigQuiet
import Derived.Deep.DrawnRows
import Derived.WalkKit
import Derived.LaidEql
import Derived.Stop.Asserts
import Derived.RowKitTokens
import Derived.Outline
import Derived.LoopTactic
import Derived.Test.YtcokmiidgdmdlaaGreatDoorMo02
import Derived.Test.YtcokmiidgdmdlaaGreatDoorMo03
import Derived.Test.YtcokmiidgdmdlaaGreatDoorMo04
import Derived.Test.YtcokmiidgdmdlaaGreatDoorMo05
namespace Go.Proofs.YtcokmiidgdmdlaaGreatDoor
open Go.RowKit Go.Maps
set_option linter.unusedSimpArgs false
set_option linter.unusedVariables false

def ptrs (L : List Nd) : List Value := L.map fun x => .pointer (some ⟨x.pb, 0, none⟩)
theorem ptrs_length (L : List Nd) : (ptrs L).length = L.length := by simp [ptrs]
theorem ptrs_get {L : List Nd} {j : Nat} {x : Nd} (h : L[j]? = some x) : (ptrs L)[j]? = some (.pointer (some ⟨x.pb, 0, none⟩)) := by simp [ptrs, h]
theorem ptrs_snoc (L : List Nd) (x : Nd) : ptrs (L ++ [x]) = ptrs L ++ [.pointer (some ⟨x.pb, 0, none⟩)] := by simp [ptrs]
theorem elNode : El 115 118 (.pointer none) 8 := ⟨Tryz.underlying115, by kernel_rfl, rfl, by omega⟩

/-- the buddies of the nodes -/
structure Buds (B : Nat) (w : World) (L : List Nd) : Prop where
  bud : ∀ x ∈ L, Bud w x.pb x.n x.bf x.bt x.F x.T ∧ Inv x.n x.F x.T
  nd : (ys L).Nodup
  out : ∀ x ∈ L, x.pb ∉ ys L
  lim : ∀ y ∈ ys L, B ≤ y ∧ y < w.heap.size
theorem Buds.keep {B : Nat} {S : List Nat} {w w' : World} {L : List Nd} (h : Buds B w L) (k : Keep S w w') (hs : ∀ x ∈ L, x.pb ∉ S ∧ x.bf ∉ S ∧ x.bt ∉ S) : Buds B w' L :=
  ⟨fun x hx => ⟨(h.bud x hx).1.keep k (hs x hx).1 (hs x hx).2.1 (hs x hx).2.2, (h.bud x hx).2⟩, h.nd, h.out, fun y hy => ⟨(h.lim y hy).1, Nat.lt_of_lt_of_le (h.lim y hy).2 k.size⟩⟩
theorem Buds.below {B : Nat} {w w' : World} {L : List Nd} (h : Buds B w L) (k : Below w.heap.size w w') : Buds B w' L := h.keep (Keep.of (S := []) k) (fun x _ => ⟨by simp, by simp, by simp⟩)
theorem Buds.snoc {B : Nat} {w w' : World} {L : List Nd} (h : Buds B w L) (k : Below w.heap.size w w') (x : Nd) (hb : Bud w' x.pb x.n x.bf x.bt x.F x.T) (hi : Inv x.n x.F x.T) (hB : B ≤ w.heap.size) (h1 : w.heap.size ≤ x.pb) (h2 : w.heap.size ≤ x.bf) (h3 : w.heap.size ≤ x.bt) : Buds B w' (L ++ [x]) := by
  have h' := h.below k
  have e := hb.ne
  refine ⟨fun y hy => ?_, ?_, fun y hy => ?_, fun y hy => ?_⟩
  · rcases List.mem_append.1 hy with q | q
    · exact h'.bud y q
    · simp at q; subst q; exact ⟨hb, hi⟩
  · rw [ys_snoc]
    refine List.nodup_append.2 ⟨h.nd, by simp; exact e.1, fun a ha b hb => ?_⟩
    have := (h.lim a ha).2
    simp at hb
    rcases hb with rfl | rfl <;> omega
  · rw [ys_snoc]
    intro q
    rcases List.mem_append.1 hy with p | p
    · have l1 := (h.bud y p).1.ltp
      rcases List.mem_append.1 q with q | q
      · exact h.out y p q
      · simp at q; rcases q with q | q <;> omega
    · simp at p; subst p
      rcases List.mem_append.1 q with q | q
      · have := (h.lim _ q).2; omega
      · simp at q; rcases q with q | q
        · exact e.2.1 q
        · exact e.2.2 q
  · rw [ys_snoc] at hy
    rcases List.mem_append.1 hy with q | q
    · exact h'.lim y q
    · simp at q
      rcases q with rfl | rfl
      · exact ⟨by omega, hb.ltf⟩
      · exact ⟨by omega, hb.ltt⟩
theorem Buds.act {B : Nat} {w w' : World} {L : List Nd} (h : Buds B w L) {i : Nat} {x : Nd} (hx : L[i]? = some x) {F T : List (Int × Int)} (hb : Bud w' x.pb x.n x.bf x.bt F T) (hi : Inv x.n F T) (k : Keep [x.bf, x.bt] w w') :
    Buds B w' (L.set i ⟨x.pb, x.bf, x.bt, x.n, F, T⟩) ∧ ys (L.set i ⟨x.pb, x.bf, x.bt, x.n, F, T⟩) = ys L ∧ ptrs (L.set i ⟨x.pb, x.bf, x.bt, x.n, F, T⟩) = ptrs L := by
  have hil := (List.getElem?_eq_some_iff.1 hx).1
  have hxe := (List.getElem?_eq_some_iff.1 hx).2
  have split : L = L.take i ++ x :: L.drop (i + 1) := by
    conv => lhs; rw [← List.take_append_drop i L]
    rw [List.drop_eq_getElem_cons hil, hxe]
  have setE : L.set i ⟨x.pb, x.bf, x.bt, x.n, F, T⟩ = L.take i ++ ⟨x.pb, x.bf, x.bt, x.n, F, T⟩ :: L.drop (i + 1) := by
    rw [List.set_eq_take_append_cons_drop, if_pos hil]
  have ey : ys (L.set i ⟨x.pb, x.bf, x.bt, x.n, F, T⟩) = ys L := by
    rw [setE]
    conv => rhs; rw [split]
    simp [ys]
  have ep : ptrs (L.set i ⟨x.pb, x.bf, x.bt, x.n, F, T⟩) = ptrs L := by
    rw [setE]
    conv => rhs; rw [split]
    simp [ptrs]
  have mem : ∀ z ∈ L.set i ⟨x.pb, x.bf, x.bt, x.n, F, T⟩, z = ⟨x.pb, x.bf, x.bt, x.n, F, T⟩ ∨ (z ∈ L ∧ z.bf ≠ x.bf ∧ z.bf ≠ x.bt ∧ z.bt ≠ x.bf ∧ z.bt ≠ x.bt) := by
    intro z hz
    rw [setE] at hz
    have nd := h.nd
    rw [split] at nd
    simp only [ys, List.flatMap_append, List.flatMap_cons] at nd
    obtain ⟨n1, n2, n3⟩ := List.nodup_append.1 nd
    obtain ⟨m1, m2, m3⟩ := List.nodup_append.1 n2
    rcases List.mem_append.1 hz with q | q
    · right
      refine ⟨List.mem_of_mem_take q, ?_⟩
      have zb : z.bf ∈ (L.take i).flatMap fun x => [x.bf, x.bt] := List.mem_flatMap.2 ⟨z, q, by simp⟩
      have zt : z.bt ∈ (L.take i).flatMap fun x => [x.bf, x.bt] := List.mem_flatMap.2 ⟨z, q, by simp⟩
      exact ⟨n3 _ zb _ (by simp), n3 _ zb _ (by simp), n3 _ zt _ (by simp), n3 _ zt _ (by simp)⟩
    · rcases List.mem_cons.1 q with q | q
      · exact .inl q
      · right
        refine ⟨List.mem_of_mem_drop q, ?_⟩
        have zb : z.bf ∈ (L.drop (i + 1)).flatMap fun x => [x.bf, x.bt] := List.mem_flatMap.2 ⟨z, q, by simp⟩
        have zt : z.bt ∈ (L.drop (i + 1)).flatMap fun x => [x.bf, x.bt] := List.mem_flatMap.2 ⟨z, q, by simp⟩
        exact ⟨fun e => m3 _ (by simp) _ zb e.symm, fun e => m3 _ (by simp) _ zb e.symm, fun e => m3 _ (by simp) _ zt e.symm, fun e => m3 _ (by simp) _ zt e.symm⟩
  have hxm : x ∈ L := List.mem_of_getElem? hx
  have o1 : ∀ z ∈ L, z.pb ≠ x.bf ∧ z.pb ≠ x.bt := fun z hz => ⟨fun e => h.out z hz (ys_mem.2 ⟨x, hxm, .inl e⟩), fun e => h.out z hz (ys_mem.2 ⟨x, hxm, .inr e⟩)⟩
  refine ⟨⟨fun z hz => ?_, by rw [ey]; exact h.nd, fun z hz => ?_, fun y hy => ?_⟩, ey, ep⟩
  · rcases mem z hz with rfl | ⟨q, q1, q2, q3, q4⟩
    · exact ⟨hb, hi⟩
    · exact ⟨(h.bud z q).1.keep k (by simp; exact o1 z q) (by simp; exact ⟨q1, q2⟩) (by simp; exact ⟨q3, q4⟩), (h.bud z q).2⟩
  · rw [ey]
    rcases mem z hz with rfl | ⟨q, _⟩
    · exact h.out x hxm
    · exact h.out z q
  · rw [ey] at hy
    exact ⟨(h.lim y hy).1, Nat.lt_of_lt_of_le (h.lim y hy).2 k.size⟩

/-- block pz is a zone -/
structure ZoneB (B : Nat) (w : World) (pz : Nat) (mn lw hi : Int) (O : List (List Int)) (L : List Nd) : Prop where
  z : ∃ qn kn qo ko, LocN w pz [.slice none 0 0, .slice none 0 0, .int .i64 mn, .int .i64 lw, .int .i64 hi, .slice qn L.length kn, .slice qo L.length ko] ∧ RowV (ys L) w (.slice qn L.length kn) (ptrs L) ∧ RowR (ys L) w (.slice qo L.length ko) O
  b : Buds B w L
  out : pz ∉ ys L
  ord : OrdZ O L.length
  m0 : 0 ≤ mn ∧ mn ≤ lw ∧ lw ≤ hi ∧ hi ≤ 9223372036854775807
theorem ZoneB.below {B : Nat} {w w' : World} {pz : Nat} {mn lw hi : Int} {O : List (List Int)} {L : List Nd} (h : ZoneB B w pz mn lw hi O L) (k : Below w.heap.size w w') : ZoneB B w' pz mn lw hi O L := by
  obtain ⟨qn, kn, qo, ko, h1, h2, h3⟩ := h.z
  exact ⟨⟨qn, kn, qo, ko, h1.go k, h2.below k, h3.below k⟩, h.b.below k, h.out, h.ord, h.m0⟩
theorem ZoneB.keep {B : Nat} {S : List Nat} {w w' : World} {pz : Nat} {mn lw hi : Int} {O : List (List Int)} {L : List Nd} (h : ZoneB B w pz mn lw hi O L) {i : Nat} {x : Nd} (hx : L[i]? = some x) {F T : List (Int × Int)} (hb : Bud w' x.pb x.n x.bf x.bt F T) (hv : Inv x.n F T) (k : Keep [x.bf, x.bt] w w') :
    ZoneB B w' pz mn lw hi O (L.set i ⟨x.pb, x.bf, x.bt, x.n, F, T⟩) ∧ Keep (ys L) w w' := by
  obtain ⟨qn, kn, qo, ko, h1, h2, h3⟩ := h.z
  obtain ⟨b1, b2, b3⟩ := h.b.act hx hb hv k
  have hxm := List.mem_of_getElem? hx
  have hS : ∀ s ∈ [x.bf, x.bt], s ∈ ys L := fun s hs => by
    simp at hs
    exact ys_mem.2 ⟨x, hxm, hs⟩
  have kY : Keep (ys L) w w' := k.mono hS
  refine ⟨⟨⟨qn, kn, qo, ko, ?_, ?_, ?_⟩, b1, by rw [b2]; exact h.out, by simpa using h.ord, h.m0⟩, kY⟩
  · rw [List.length_set]; exact h1.keep kY h.out
  · rw [List.length_set, b2, b3]; exact h2.keep kY (fun s hs => .inl hs)
  · rw [List.length_set, b2]; exact h3.keep kY (fun s hs => .inl hs)
end Go.Proofs.YtcokmiidgdmdlaaGreatDoor

namespace Go.Proofs.YtcokmiidgdmdlaaGreatDoor
open Go.RowKit Go.Maps
set_option linter.unusedSimpArgs false
set_option linter.unusedVariables false

theorem ZoneB.open {B : Nat} {w : World} {pz : Nat} {mn lw hi : Int} {O : List (List Int)} {L : List Nd} (h : ZoneB B w pz mn lw hi O L) (hL : 0 < L.length) :
    ∃ g off kn qo ko, LocN w pz [.slice none 0 0, .slice none 0 0, .int .i64 mn, .int .i64 lw, .int .i64 hi, .slice (some ⟨g, off, none⟩) L.length kn, .slice qo L.length ko] ∧ g ∉ ys L ∧ g < w.heap.size ∧ L.length ≤ kn ∧ kn ≤ maxLen ∧
      (∀ j y, L[j]? = some y → w.cell? ⟨g, off + j, none⟩ = some (.pointer (some ⟨y.pb, 0, none⟩))) ∧ RowR (ys L) w (.slice qo L.length ko) O := by
  obtain ⟨qn, kn, qo, ko, h1, h2, h3⟩ := h.z
  obtain ⟨p, cap, e, hc1, hc2, hc⟩ := h2
  rw [ptrs_length] at e hc1
  injection e with e1 e2 e3
  subst e1 e3
  obtain ⟨x, hx⟩ : ∃ x, L[0]? = some x := ⟨L[0], List.getElem?_eq_getElem hL⟩
  obtain ⟨g, off, rfl, hg, hgl, _⟩ := hc 0 _ (ptrs_get hx)
  refine ⟨g, off, kn, qo, ko, h1, hg, hgl, hc1, hc2, fun j y hj => ?_, h3⟩
  obtain ⟨g', off', e, _, _, q⟩ := hc j _ (ptrs_get hj)
  injection e with e; injection e with ea eb
  subst ea eb
  exact q

set_option maxHeartbeats 1000000 in
theorem node_ok {B : Nat} (pz : Nat) (mn lw hi : Int) (O : List (List Int)) (L : List Nd) (v : Nat) (w : World) (h : ZoneB B w pz mn lw hi O L) (hv : v < L.length) :
    Calls Tryz.prog 57 #[.pointer (some ⟨pz, 0, none⟩), .int .i64 v] w fun e w' => e = .returned .nilIface ∧ Below w.heap.size w w' := by
  obtain ⟨g, off, kn, qo, ko, hz, _, _, hk1, hk2, _, _⟩ := h.open (by omega)
  have c5 := hz.c 5 _ rfl; have cl := hz.lt
  unfold maxLen at hk2
  have v0 : decide ((v : Int) < 0) = false := decide_eq_false (by omega)
  have v1 : decide (L.length ≤ v) = false := decide_eq_false (by omega)
  clear h hz
  go_enter Tryz.func57, Tryz.ntmps57
  go_wp2
  go_ret
  exact ⟨rfl, (by repeat (first | exact Below.refl _ _ | refine Below.drew ?_ | refine below_drewN ?_ _ | refine Below.trans ?_ (Below.mono (by assumption) (by first | omega | (simp; omega) | (simp; done))) | refine Below.alloc ?_ (by first | omega | (simp; omega) | (simp; done)) _ | refine Below.setCell ?_ (by first | omega | (simp; omega) | (simp; done)) _))⟩
set_option maxHeartbeats 1000000 in
theorem node_err {B : Nat} {ev : Nat → Addr} (pz : Nat) (mn lw hi : Int) (O : List (List Int)) (L : List Nd) (v : Int) (w : World) (hE : ErrC B ev w) (h : ZoneB B w pz mn lw hi O L) (hL : 0 < L.length) (hv : v < 0 ∨ (L.length : Int) ≤ v) :
    Calls Tryz.prog 57 #[.pointer (some ⟨pz, 0, none⟩), .int .i64 v] w fun e w' => e = .returned (errV ev 2) ∧ Below w.heap.size w w' := by
  obtain ⟨g, off, kn, qo, ko, hz, _, _, hk1, hk2, _, _⟩ := h.open hL
  have c5 := hz.c 5 _ rfl; have cl := hz.lt
  unfold maxLen at hk2
  have r2 := hE.c2
  have e1 : errV ev 2 = .iface 291 (.pointer (some (ev 2))) := rfl
  rw [e1]
  clear h hz hE e1
  by_cases v0 : v < 0
  · have v0' : decide (v < 0) = true := decide_eq_true v0
    clear v0 hv
    go_enter Tryz.func57, Tryz.ntmps57
    go_wp2
    go_ret
    exact ⟨rfl, (by repeat (first | exact Below.refl _ _ | refine Below.drew ?_ | refine below_drewN ?_ _ | refine Below.trans ?_ (Below.mono (by assumption) (by first | omega | (simp; omega) | (simp; done))) | refine Below.alloc ?_ (by first | omega | (simp; omega) | (simp; done)) _ | refine Below.setCell ?_ (by first | omega | (simp; omega) | (simp; done)) _))⟩
  · have v1 : decide (v < 0) = false := decide_eq_false v0
    have v2 : decide ((L.length : Int) ≤ v) = true := decide_eq_true (by omega)
    clear v0 hv
    go_enter Tryz.func57, Tryz.ntmps57
    go_wp2
    go_ret
    exact ⟨rfl, (by repeat (first | exact Below.refl _ _ | refine Below.drew ?_ | refine below_drewN ?_ _ | refine Below.trans ?_ (Below.mono (by assumption) (by first | omega | (simp; omega) | (simp; done))) | refine Below.alloc ?_ (by first | omega | (simp; omega) | (simp; done)) _ | refine Below.setCell ?_ (by first | omega | (simp; omega) | (simp; done)) _))⟩

set_option maxHeartbeats 1000000 in
theorem may_any {B : Nat} (pz : Nat) (mn lw hi : Int) (O : List (List Int)) (L : List Nd) (v : Nat) (x : Nd) (k : Int) (u : Bool) (w : World) (h : ZoneB B w pz mn lw hi O L) (hx : L[v]? = some x) (k0 : 0 ≤ k) (k6 : k ≤ 6) :
    Calls Tryz.prog 59 #[.pointer (some ⟨pz, 0, none⟩), .int .i64 v, .int .i64 k, .bool u] w fun e w' => e = .returned (.bool (mayN mn k u x)) ∧ Below w.heap.size w w' := by
  have hl := (List.getElem?_eq_some_iff.1 hx).1
  obtain ⟨g, off, kn, qo, ko, hz, _, _, hk1, hk2, hc, _⟩ := h.open (by omega)
  have r1 := hc v x hx
  have c5 := hz.c 5 _ rfl; have cl := hz.lt
  unfold maxLen at hk2
  have hb := h.b.bud x (List.mem_of_getElem? hx)
  have PG := Lib.hid (pages_ok x.pb x.n x.bf x.bt x.F x.T w hb.1)
  have s1 := hb.2.sumF.1
  have s2 : sumL x.F ≤ 256 := by have := hb.2.sumF.2; have := hb.2.n2; omega
  have HZ := Lib.hid hz
  have hm := h.m0.1
  have hs := shl_sz' k0 k6
  obtain ⟨t1, t2⟩ := sz_bd k0 k6
  have em : mayN mn k u x = (u || decide (mn ≤ sumL x.F - sz k)) := rfl
  rw [em]
  generalize sumL x.F = s at *
  clear h hz hx hc hb em
  go_enter Tryz.func59, Tryz.ntmps59
  go_wp2_with fail
  refine PG.out.mono ?_
  rintro e w1 ⟨rfl, hb1⟩
  have M := HZ.out.go hb1
  have c2 := M.c 2 _ rfl; have ml := M.lt
  clear M PG
  cases u with
  | true =>
    go_wp2_with fail
    go_quiet (fail)
    go_wp2
    go_ret
    exact ⟨rfl, (by repeat (first | exact Below.refl _ _ | refine Below.drew ?_ | refine below_drewN ?_ _ | refine Below.trans ?_ (Below.mono (by assumption) (by first | omega | (simp; omega) | (simp; done))) | refine Below.alloc ?_ (by first | omega | (simp; omega) | (simp; done)) _ | refine Below.setCell ?_ (by first | omega | (simp; omega) | (simp; done)) _))⟩
  | false =>
    go_wp2_with fail
    go_quiet (fail)
    go_wp2
    go_ret
    exact ⟨rfl, (by repeat (first | exact Below.refl _ _ | refine Below.drew ?_ | refine below_drewN ?_ _ | refine Below.trans ?_ (Below.mono (by assumption) (by first | omega | (simp; omega) | (simp; done))) | refine Below.alloc ?_ (by first | omega | (simp; omega) | (simp; done)) _ | refine Below.setCell ?_ (by first | omega | (simp; omega) | (simp; done)) _))⟩

set_option maxHeartbeats 1000000 in
theorem zfree_ok {B : Nat} (pz : Nat) (mn lw hi : Int) (O : List (List Int)) (L : List Nd) (v : Nat) (x : Nd) (w : World) (h : ZoneB B w pz mn lw hi O L) (hx : L[v]? = some x) :
    Calls Tryz.prog 17 #[.pointer (some ⟨pz, 0, none⟩), .int .i64 v] w fun e w' => e = .returned (.tuple #[.int .i64 (sumL x.F), .nilIface]) ∧ Below w.heap.size w w' := by
  have hl := (List.getElem?_eq_some_iff.1 hx).1
  have NO := Lib.hid (node_ok pz mn lw hi O L v w h hl)
  have HH := Lib.hid h; have HX := Lib.hid hx
  clear h hx
  go_enter Tryz.func17, Tryz.ntmps17
  go_wp2_with fail
  refine NO.out.mono ?_
  rintro e w1 ⟨rfl, hb1⟩
  have h1 := HH.out.below hb1
  obtain ⟨g, off, kn, qo, ko, hz, _, _, hk1, hk2, hc, _⟩ := h1.open (by omega)
  have r1 := hc v x HX.out
  have c5 := hz.c 5 _ rfl; have cl := hz.lt
  unfold maxLen at hk2
  have PG := Lib.hid (pages_ok x.pb x.n x.bf x.bt x.F x.T w1 (h1.b.bud x (List.mem_of_getElem? HX.out)).1)
  clear h1 hz hc NO
  go_wp2_with fail
  refine PG.out.mono ?_
  rintro e w2 ⟨rfl, hb2⟩
  go_wp2
  go_ret2
  exact ⟨rfl, hb1.trans (hb2.mono hb1.size)⟩
set_option maxHeartbeats 1000000 in
theorem zfree_err {B : Nat} {ev : Nat → Addr} (pz : Nat) (mn lw hi : Int) (O : List (List Int)) (L : List Nd) (v : Int) (w : World) (hE : ErrC B ev w) (h : ZoneB B w pz mn lw hi O L) (hL : 0 < L.length) (hv : v < 0 ∨ (L.length : Int) ≤ v) :
    Calls Tryz.prog 17 #[.pointer (some ⟨pz, 0, none⟩), .int .i64 v] w fun e w' => e = .returned (.tuple #[.int .i64 0, errV ev 2]) ∧ Below w.heap.size w w' := by
  have NO := Lib.hid (node_err pz mn lw hi O L v w hE h hL hv)
  have e1 : errV ev 2 = .iface 291 (.pointer (some (ev 2))) := rfl
  rw [e1] at NO ⊢
  clear h hv hE e1
  go_enter Tryz.func17, Tryz.ntmps17
  go_wp2_with fail
  refine NO.out.mono ?_
  rintro e w1 ⟨rfl, hb1⟩
  go_wp2
  go_ret2
  exact ⟨rfl, hb1⟩

def lackN (hi : Int) (x : Nd) : Int := if hi - sumL x.F < 0 then 0 else hi - sumL x.F
end Go.Proofs.YtcokmiidgdmdlaaGreatDoor

namespace Go.Proofs.YtcokmiidgdmdlaaGreatDoor
open Go.RowKit Go.Extern.Stop Go.Stop Go.Extern

theorem wTypeOf (v : Value) (w : World) : (Extern.ReflectliteType.typeOf #[.iface 291 v]).run Tryz.prog w = .ok (.iface 251 (.agg #[.pointer (some ⟨11, 291, none⟩)])) w := by kernel_rfl
theorem wComparable (w : World) : ((Extern.ReflectliteType.method fun t => do Rtype.noPackHeld "Comparable" t; (fun a => Value.bool a.comparable) <$> typeInfo t) #[.agg #[.pointer (some ⟨11, 291, none⟩)]]).run Tryz.prog w = .ok (.bool true) w := by kernel_rfl
theorem wMethodComparable (v : Value) (w : World) : (Go.method 423 251 v "Comparable").run Tryz.prog w = .ok (221, v) w := by kernel_rfl
theorem wComp : (Tryz.prog.info? 291).map (·.comparable) = some true := by kernel_rfl
theorem wSize : (Tryz.prog.info? 311).map (·.size) = some 1 := by kernel_rfl
theorem wNoIs (v : Value) (xT : TypeId) (w : World) : (Instr.typeAssert (.iface 291 v) xT 262 true).run Tryz.prog w = .ok (.tuple #[.nilIface, .bool false]) w := run_typeAssert_lacksB Tryz.underlying262 (by kernel_rfl) (by kernel_rfl) v xT w
theorem wNoAs (v : Value) (xT : TypeId) (w : World) : (Instr.typeAssert (.iface 291 v) xT 255 true).run Tryz.prog w = .ok (.tuple #[.nilIface, .bool false]) w := run_typeAssert_lacksB Tryz.underlying255 (by kernel_rfl) (by kernel_rfl) v xT w
theorem wNoUnwrap (v : Value) (xT : TypeId) (w : World) : (Instr.typeAssert (.iface 291 v) xT 258 true).run Tryz.prog w = .ok (.tuple #[.nilIface, .bool false]) w := run_typeAssert_lacksB Tryz.underlying258 (by kernel_rfl) (by kernel_rfl) v xT w
theorem wNoUnwraps (v : Value) (xT : TypeId) (w : World) : (Instr.typeAssert (.iface 291 v) xT 260 true).run Tryz.prog w = .ok (.tuple #[.nilIface, .bool false]) w := run_typeAssert_lacksB Tryz.underlying260 (by kernel_rfl) (by kernel_rfl) v xT w

theorem is_same (a : Addr) (w : World) :
    Calls Tryz.prog 116 #[.iface 291 (.pointer (some a)), .iface 291 (.pointer (some a))] w fun e w' => e = .returned (.bool true) ∧ w = w' := by
  obtain ⟨i, hi, hcmp⟩ := Option.map_eq_some_iff.1 wComp
  obtain ⟨j, hj, hjs⟩ := Option.map_eq_some_iff.1 wSize
  have h8 := @run_callFunc_extern Tryz.prog 152 _ Extern.ReflectliteType.typeOf Tryz.func152 (by kernel_rfl) (by kernel_rfl) (by kernel_rfl) (by kernel_rfl)
  have h32 := @run_callFunc_extern Tryz.prog 221 _ (Extern.ReflectliteType.method fun t => do Rtype.noPackHeld "Comparable" t; pure (.bool (← typeInfo t).comparable)) Tryz.func221 (by kernel_rfl) (by kernel_rfl) (by kernel_rfl) (by kernel_rfl)
  have tT := wTypeOf
  have cT := wComparable
  have mR := wMethodComparable
  have heq := run_eql_iface_ptr_same (P := Tryz.prog) w a Tryz.underlying33 Tryz.underlying291 hi hcmp hj
  go_enter Tryz.func116, Tryz.ntmps116
  go_wp2
  refine wp_loop_rounds 1 ?_
  rw [rounds_succ]
  go_wp2
  go_ret
  exact ⟨rfl, rfl⟩

theorem is_other (a b : Addr) (ca cb : Array Value) (ta tb : TypeId) (w : World) (hne : a ≠ b) (ha : w.heap[a.block]? = some (.cells ca ta (0, 0))) (hb : w.heap[b.block]? = some (.cells cb tb (0, 0))) :
    Calls Tryz.prog 116 #[.iface 291 (.pointer (some a)), .iface 291 (.pointer (some b))] w fun e w' => e = .returned (.bool false) ∧ w = w' := by
  obtain ⟨i, hi, hcmp⟩ := Option.map_eq_some_iff.1 wComp
  obtain ⟨j, hj, hjs⟩ := Option.map_eq_some_iff.1 wSize
  have h8 := @run_callFunc_extern Tryz.prog 152 _ Extern.ReflectliteType.typeOf Tryz.func152 (by kernel_rfl) (by kernel_rfl) (by kernel_rfl) (by kernel_rfl)
  have h32 := @run_callFunc_extern Tryz.prog 221 _ (Extern.ReflectliteType.method fun t => do Rtype.noPackHeld "Comparable" t; pure (.bool (← typeInfo t).comparable)) Tryz.func221 (by kernel_rfl) (by kernel_rfl) (by kernel_rfl) (by kernel_rfl)
  have tT := wTypeOf
  have cT := wComparable
  have mR := wMethodComparable
  have nE := wNoIs
  have uE := wNoUnwrap
  have vE := wNoUnwraps
  have heq := run_eql_iface_ptr_other (P := Tryz.prog) w Tryz.underlying33 Tryz.underlying291 hi hcmp hj (by rw [hjs]; decide) hne ha hb
  go_enter Tryz.func116, Tryz.ntmps116
  go_wp2
  refine wp_loop_rounds 1 ?_
  rw [rounds_succ]
  go_wp2
  go_ret
  exact ⟨rfl, rfl⟩

theorem xValueOf (t : Addr) (w : World) : (ReflectliteValue.unpack (.iface 195 (.pointer (some t)))).run Tryz.prog w
    = .ok (.agg #[.pointer (some ⟨11, 195, none⟩), .pointer (some ⟨w.heap.size, 0, none⟩), .int .u64 150]) (w.alloc (.cells #[.pointer (some t)] 195)) := by kernel_rfl
theorem xType (a : Addr) (w : World) : (ReflectliteValue.methodAny (ReflectliteValue.valueError "reflectlite.Value.Type" 0) (fun t _ _ _ => ReflectliteType.toType t) #[.agg #[.pointer (some ⟨11, 195, none⟩), .pointer (some a), .int .u64 150]]).run Tryz.prog w
    = .ok (.iface 251 (.agg #[.pointer (some ⟨11, 195, none⟩)])) w := by kernel_rfl
theorem xMethodKind (h : Value) (w : World) : (Go.method 423 251 (.agg #[h]) "Kind").run Tryz.prog w = .ok (210, h) w := by kernel_rfl
theorem xKindPP (w : World) : ((ReflectliteType.abiMethod fun t => (fun a : Nat => Value.int IntKind.u8 (a : Int)) <$> Rtype.kind t) #[.pointer (some ⟨11, 195, none⟩)]).run Tryz.prog w = .ok (.int .u8 22) w := by kernel_rfl
theorem xKindP (w : World) : ((ReflectliteType.abiMethod fun t => (fun a : Nat => Value.int IntKind.u8 (a : Int)) <$> Rtype.kind t) #[.pointer (some ⟨11, 193, none⟩)]).run Tryz.prog w = .ok (.int .u8 22) w := by kernel_rfl
theorem xrlm (z : Sem Value) (f : TypeId → Addr → Nat → Nat → Sem Value) (v : Value) :
    ReflectliteValue.method z f #[v] = (do match ← ReflectliteValue.parts v with | none => z | some (t, a, fl) => f t a fl (fl % 32)) := rfl
theorem xParts (a : Addr) (w : World) : (ReflectliteValue.parts (.agg #[.pointer (some ⟨11, 195, none⟩), .pointer (some a), .int .u64 150])).run Tryz.prog w = .ok (some (195, a, 150)) w := by kernel_rfl
theorem xIsNil (a p : Addr) (W : World) (ha : W.cell? a = some (.pointer (some p))) :
    (ReflectliteValue.method (ReflectliteValue.valueError "reflectlite.Value.IsNil" 0) ReflectliteValue.isNil #[.agg #[.pointer (some ⟨11, 195, none⟩), .pointer (some a), .int .u64 150]]).run Tryz.prog W = .ok (.bool false) W := by
  rw [xrlm]
  simp only [Sem.run_bind, xParts, Result.andThen]
  simp [ReflectliteValue.isNil, loadVar, isAgg, underlying, Tryz.underlying195, ha, Result.andThen]
theorem xMethodElem (h : Value) (w : World) : (Go.method 423 251 (.agg #[h]) "Elem").run Tryz.prog w = .ok (222, .agg #[h]) w := by kernel_rfl
theorem xMethodImplements (h : Value) (w : World) : (Go.method 423 251 (.agg #[h]) "Implements").run Tryz.prog w = .ok (223, .agg #[h]) w := by kernel_rfl
theorem xMethodAssignableTo (h : Value) (w : World) : (Go.method 423 251 (.agg #[h]) "AssignableTo").run Tryz.prog w = .ok (220, .agg #[h]) w := by kernel_rfl
theorem xElem (w : World) : (ReflectliteType.method ReflectliteType.elem #[.agg #[.pointer (some ⟨11, 195, none⟩)]]).run Tryz.prog w = .ok (.iface 251 (.agg #[.pointer (some ⟨11, 193, none⟩)])) w := by kernel_rfl
theorem xImplements (w : World) : (ReflectliteType.relation "Implements" ReflectliteType.implements_ #[.agg #[.pointer (some ⟨11, 193, none⟩)], .iface 251 (.agg #[.pointer (some ⟨11, 33, none⟩)])]).run Tryz.prog w = .ok (.bool true) w := by kernel_rfl
theorem xAssignNo (w : World) : (ReflectliteType.relation "AssignableTo" ReflectliteType.assignableTo #[.agg #[.pointer (some ⟨11, 291, none⟩)], .iface 251 (.agg #[.pointer (some ⟨11, 193, none⟩)])]).run Tryz.prog w = .ok (.bool false) w := by kernel_rfl

set_option maxHeartbeats 4000000 in
theorem as_miss {B : Nat} {ev : Nat → Addr} (e t : Addr) (w : World) (hE : Errs B ev w) :
    Calls Tryz.prog 115 #[.iface 291 (.pointer (some e)), .iface 195 (.pointer (some t))] w fun ev w' => ev = .returned (.bool false) ∧ Below w.heap.size w w' := by
  have hg := hE.typ
  have hB := hE.size
  have hlt : 10 < w.heap.size := Nat.lt_of_lt_of_le hE.globT hE.size
  have h6 := @run_callFunc_extern Tryz.prog 148 _ (fun args => ReflectliteValue.unpack (args.getD 0 (.tuple #[]))) Tryz.func148 (by kernel_rfl) (by kernel_rfl) (by kernel_rfl) (by kernel_rfl)
  have h7 := @run_callFunc_extern Tryz.prog 149 _ (ReflectliteValue.methodAny (ReflectliteValue.valueError "reflectlite.Value.Type" 0) (fun t _ _ _ => ReflectliteType.toType t)) Tryz.func149 (by kernel_rfl) (by kernel_rfl) (by kernel_rfl) (by kernel_rfl)
  have h8 := @run_callFunc_extern Tryz.prog 150 _ (ReflectliteValue.method (ReflectliteValue.valueError "reflectlite.Value.IsNil" 0) ReflectliteValue.isNil) Tryz.func150 (by kernel_rfl) (by kernel_rfl) (by kernel_rfl) (by kernel_rfl)
  have h27 := @run_callFunc_extern Tryz.prog 210 _ (ReflectliteType.abiMethod fun t => do pure (.int .u8 (← Rtype.kind t))) Tryz.func210 (by kernel_rfl) (by kernel_rfl) (by kernel_rfl) (by kernel_rfl)
  have h37 := @run_callFunc_extern Tryz.prog 222 _ (ReflectliteType.method ReflectliteType.elem) Tryz.func222 (by kernel_rfl) (by kernel_rfl) (by kernel_rfl) (by kernel_rfl)
  have h38 := @run_callFunc_extern Tryz.prog 223 _ (ReflectliteType.relation "Implements" ReflectliteType.implements_) Tryz.func223 (by kernel_rfl) (by kernel_rfl) (by kernel_rfl) (by kernel_rfl)
  have h10 := @run_callFunc_extern Tryz.prog 152 _ ReflectliteType.typeOf Tryz.func152 (by kernel_rfl) (by kernel_rfl) (by kernel_rfl) (by kernel_rfl)
  have h35 := @run_callFunc_extern Tryz.prog 220 _ (ReflectliteType.relation "AssignableTo" ReflectliteType.assignableTo) Tryz.func220 (by kernel_rfl) (by kernel_rfl) (by kernel_rfl) (by kernel_rfl)
  have tO := wTypeOf
  have mA := xMethodAssignableTo
  have aN := xAssignNo
  have f6 := xValueOf
  have f7 := xType
  have mK := xMethodKind
  have mE := xMethodElem
  have mI := xMethodImplements
  have k27 := xKindPP
  have k25 := xKindP
  have e27 := xElem
  have i25 := xImplements
  have nA := wNoAs
  have nU := wNoUnwrap
  have nV := wNoUnwraps
  have n8 := xIsNil ⟨w.heap.size, 0, none⟩ t ((w.alloc (.cells #[.pointer (some t)] 195)).alloc (.cells #[.pointer (some ⟨11, 195, none⟩), .pointer (some ⟨w.heap.size, 0, none⟩), .int .u64 150] 227)) (by simp)
  have hg2 : ((w.alloc (.cells #[.pointer (some t)] 195)).alloc (.cells #[.pointer (some ⟨11, 195, none⟩), .pointer (some ⟨w.heap.size, 0, none⟩), .int .u64 150] 227)).cell? ⟨10, 0, none⟩ = some (.iface 251 (.agg #[.pointer (some ⟨11, 33, none⟩)])) := by
    rw [World.cell?_alloc_lt _ _ ⟨10, 0, none⟩ (by simp; omega), World.cell?_alloc_lt _ _ ⟨10, 0, none⟩ hlt]; exact hg
  go_enter Tryz.func115, Tryz.ntmps115
  go_wp2
  refine wp_loop_rounds 1 ?_
  rw [rounds_succ]
  go_wp2
  go_ret
  exact ⟨rfl, (by repeat (first | exact Below.refl _ _ | refine Below.drew ?_ | refine below_drewN ?_ _ | refine Below.trans ?_ (Below.mono (by assumption) (by first | omega | (simp; omega) | (simp; done))) | refine Below.alloc ?_ (by first | omega | (simp; omega) | (simp; done)) _ | refine Below.setCell ?_ (by first | omega | (simp; omega) | (simp; done)) _))⟩
end Go.Proofs.YtcokmiidgdmdlaaGreatDoor

namespace Go.Proofs.YtcokmiidgdmdlaaGreatDoor
open Go.RowKit
set_option linter.unusedSimpArgs false

theorem code_nil (w : World) : Calls Tryz.prog 65 #[.nilIface] w fun e w' => e = .returned (.tuple #[.int .i64 0, .int .i64 (-1)]) ∧ w = w' := by
  go_enter Tryz.func65, Tryz.ntmps65
  go_wp2
  go_ret2
  exact ⟨rfl, rfl⟩

theorem is_sent {B : Nat} {ev : Nat → Addr} (i j : Nat) (w : World) (hE : Errs B ev w) (i1 : 1 ≤ i) (i2 : i ≤ 10) (j1 : 1 ≤ j) (j2 : j ≤ 10) :
    Calls Tryz.prog 116 #[.iface 291 (.pointer (some (ev i))), .iface 291 (.pointer (some (ev j)))] w fun e w' => e = .returned (.bool (decide (i = j))) ∧ w = w' := by
  by_cases h : i = j
  · subst h
    rw [decide_eq_true rfl]
    exact is_same _ w
  · rw [decide_eq_false h]
    obtain ⟨ca, ta, ha⟩ := hE.row i i1 i2
    obtain ⟨cb, tb, hb⟩ := hE.row j j1 j2
    exact is_other _ _ ca cb ta tb w (fun e => h (hE.inj i j i1 i2 j1 j2 e)) ha hb

set_option maxHeartbeats 1000000 in
theorem code_sent {B : Nat} {ev : Nat → Addr} (i : Nat) (w : World) (hE : Errs B ev w) (i1 : 1 ≤ i) (i2 : i ≤ 10) :
    Calls Tryz.prog 65 #[.iface 291 (.pointer (some (ev i)))] w fun e w' => e = .returned (.tuple #[.int .i64 i, .int .i64 (-1)]) ∧ Below w.heap.size w w' := by
  have hB := hE.size
  go_enter Tryz.func65, Tryz.ntmps65
  go_wp2_with fail
  refine (as_miss _ _ _ (hE.below (by repeat (first | exact Below.refl _ _ | refine Below.drew ?_ | refine below_drewN ?_ _ | refine Below.trans ?_ (Below.mono (by assumption) (by first | omega | (simp; omega) | (simp; done))) | refine Below.alloc ?_ (by first | omega | (simp; omega) | (simp; done)) _ | refine Below.setCell ?_ (by first | omega | (simp; omega) | (simp; done)) _)))).mono ?_
  rintro e w1 ⟨rfl, hb1⟩; obtain ⟨c1, f1⟩ := bcell hb1; have z1 := hb1.size; try simp at z1 c1 f1
  have hE1 : Errs B ev w1 := hE.below (by repeat (first | exact Below.refl _ _ | refine Below.drew ?_ | refine below_drewN ?_ _ | refine Below.trans ?_ (Below.mono (by assumption) (by first | omega | (simp; omega) | (simp; done))) | refine Below.alloc ?_ (by first | omega | (simp; omega) | (simp; done)) _ | refine Below.setCell ?_ (by first | omega | (simp; omega) | (simp; done)) _))
  have g1 := hE1.cell 1 (by decide) (by decide)
  have g2 := hE1.cell 2 (by decide) (by decide)
  have g3 := hE1.cell 3 (by decide) (by decide)
  have g4 := hE1.cell 4 (by decide) (by decide)
  have g5 := hE1.cell 5 (by decide) (by decide)
  have g6 := hE1.cell 6 (by decide) (by decide)
  have g7 := hE1.cell 7 (by decide) (by decide)
  have g8 := hE1.cell 8 (by decide) (by decide)
  have g9 := hE1.cell 9 (by decide) (by decide)
  have g10 := hE1.cell 10 (by decide) (by decide)
  simp only [errG, errV] at g1 g2 g3 g4 g5 g6 g7 g8 g9 g10
  clear c1 f1
  have cells : ∀ k, k < 10 → (w1.alloc (.cells #[.iface 291 (.pointer (some (ev 1))), .iface 291 (.pointer (some (ev 2))), .iface 291 (.pointer (some (ev 3))), .iface 291 (.pointer (some (ev 4))), .iface 291 (.pointer (some (ev 5))), .iface 291 (.pointer (some (ev 6))), .iface 291 (.pointer (some (ev 7))), .iface 291 (.pointer (some (ev 8))), .iface 291 (.pointer (some (ev 9))), .iface 291 (.pointer (some (ev 10)))] 33)).cell? ⟨w1.heap.size, k, none⟩ = some (.iface 291 (.pointer (some (ev (k + 1))))) := by
    intro k hk
    rw [World.cell?_alloc_at _ _ _ _ rfl]
    match k, hk with
    | 0, _ => rfl
    | 1, _ => rfl
    | 2, _ => rfl
    | 3, _ => rfl
    | 4, _ => rfl
    | 5, _ => rfl
    | 6, _ => rfl
    | 7, _ => rfl
    | 8, _ => rfl
    | 9, _ => rfl
  have CC := Lib.hid cells
  clear cells
  go_wp2
  go_loop [3, 28] (fun a s => ∃ k : Nat, k < i ∧ s = .int .i64 k ∧ a = .int .i64 (-1)) (fun _ s => i - (intOf s).toNat)
  case atStart => exact ⟨0, by omega, rfl, rfl⟩
  case round =>
    obtain ⟨k, hk, rfl, rfl⟩ := hrel
    have hck := CC.out k (by omega)
    have hki : (k : Int) < 10 := by omega
    by_cases hlt : k + 1 < i
    · have hd : decide (i = k + 1) = false := decide_eq_false (by omega)
      have isK := is_sent i (k + 1) (w1.alloc (.cells #[.iface 291 (.pointer (some (ev 1))), .iface 291 (.pointer (some (ev 2))), .iface 291 (.pointer (some (ev 3))), .iface 291 (.pointer (some (ev 4))), .iface 291 (.pointer (some (ev 5))), .iface 291 (.pointer (some (ev 6))), .iface 291 (.pointer (some (ev 7))), .iface 291 (.pointer (some (ev 8))), .iface 291 (.pointer (some (ev 9))), .iface 291 (.pointer (some (ev 10)))] 33)) (hE1.below (by repeat (first | exact Below.refl _ _ | refine Below.drew ?_ | refine below_drewN ?_ _ | refine Below.trans ?_ (Below.mono (by assumption) (by first | omega | (simp; omega) | (simp; done))) | refine Below.alloc ?_ (by first | omega | (simp; omega) | (simp; done)) _ | refine Below.setCell ?_ (by first | omega | (simp; omega) | (simp; done)) _))) i1 i2 (by omega) (by omega)
      rw [hd] at isK
      have IK := Lib.hid isK
      clear isK hd
      go_wp2_with (go_at_call 116; refine IK.out.mono ?_; rintro e w' ⟨rfl, rfl⟩)
      go_round
      case rel => exact ⟨k + 1, by omega, by go_num, rfl⟩
      case measure => simp [intOf]; omega
    · have hd : decide (i = k + 1) = true := decide_eq_true (by omega)
      have isK := is_sent i (k + 1) (w1.alloc (.cells #[.iface 291 (.pointer (some (ev 1))), .iface 291 (.pointer (some (ev 2))), .iface 291 (.pointer (some (ev 3))), .iface 291 (.pointer (some (ev 4))), .iface 291 (.pointer (some (ev 5))), .iface 291 (.pointer (some (ev 6))), .iface 291 (.pointer (some (ev 7))), .iface 291 (.pointer (some (ev 8))), .iface 291 (.pointer (some (ev 9))), .iface 291 (.pointer (some (ev 10)))] 33)) (hE1.below (by repeat (first | exact Below.refl _ _ | refine Below.drew ?_ | refine below_drewN ?_ _ | refine Below.trans ?_ (Below.mono (by assumption) (by first | omega | (simp; omega) | (simp; done))) | refine Below.alloc ?_ (by first | omega | (simp; omega) | (simp; done)) _ | refine Below.setCell ?_ (by first | omega | (simp; omega) | (simp; done)) _))) i1 i2 (by omega) (by omega)
      rw [hd] at isK
      have IK := Lib.hid isK
      clear isK hd
      go_wp2_with (go_at_call 116; refine IK.out.mono ?_; rintro e w' ⟨rfl, rfl⟩)
      go_ret2
      have e1 : i = k + 1 := by omega
      exact ⟨by rw [show (i : Int) = (k : Int) + 1 from by omega]; rfl, (by repeat (first | exact Below.refl _ _ | refine Below.drew ?_ | refine below_drewN ?_ _ | refine Below.trans ?_ (Below.mono (by assumption) (by first | omega | (simp; omega) | (simp; done))) | refine Below.alloc ?_ (by first | omega | (simp; omega) | (simp; done)) _ | refine Below.setCell ?_ (by first | omega | (simp; omega) | (simp; done)) _))⟩

theorem code_any {B : Nat} {ev : Nat → Addr} (i : Nat) (w : World) (hE : Errs B ev w) (i2 : i ≤ 10) :
    Calls Tryz.prog 65 #[errV ev i] w fun e w' => e = .returned (.tuple #[.int .i64 i, .int .i64 (-1)]) ∧ Below w.heap.size w w' := by
  rcases i with _ | i
  · exact (code_nil w).mono fun e w' ⟨h1, h2⟩ => ⟨h1, by rw [← h2]; exact Below.refl _ _⟩
  · exact code_sent (i + 1) w hE (by omega) i2

theorem coded_any {B : Nat} {ev : Nat → Addr} (i : Nat) (n : Int) (w : World) (hE : Errs B ev w) (i2 : i ≤ 10) :
    Calls Tryz.prog 18 #[errV ev i, .int .i64 n] w fun e w' => e = .returned (.bool (decide ((i : Int) = n))) ∧ Below w.heap.size w w' := by
  obtain ⟨m, hm⟩ : ∃ m : Int, m = (i : Int) := ⟨_, rfl⟩
  have cc := code_any i w hE i2
  rw [← hm] at cc
  have CC := Lib.hid cc
  clear cc
  rw [← hm]
  clear hm
  generalize errV ev i = x at CC
  by_cases h : m = n
  · rw [decide_eq_true h]
    have hd : (m == n) = true := by simpa using h
    clear h
    go_enter Tryz.func18, Tryz.ntmps18
    go_wp2_with fail
    refine CC.out.mono ?_
    rintro e w1 ⟨rfl, hb1⟩; obtain ⟨c1, f1⟩ := bcell hb1; have z1 := hb1.size; try simp at z1 c1 f1
    go_wp2
    go_ret
    exact ⟨rfl, (by repeat (first | exact Below.refl _ _ | refine Below.drew ?_ | refine below_drewN ?_ _ | refine Below.trans ?_ (Below.mono (by assumption) (by first | omega | (simp; omega) | (simp; done))) | refine Below.alloc ?_ (by first | omega | (simp; omega) | (simp; done)) _ | refine Below.setCell ?_ (by first | omega | (simp; omega) | (simp; done)) _))⟩
  · rw [decide_eq_false h]
    have hd : (m == n) = false := by simpa using h
    clear h
    go_enter Tryz.func18, Tryz.ntmps18
    go_wp2_with fail
    refine CC.out.mono ?_
    rintro e w1 ⟨rfl, hb1⟩; obtain ⟨c1, f1⟩ := bcell hb1; have z1 := hb1.size; try simp at z1 c1 f1
    go_wp2
    go_ret
    exact ⟨rfl, (by repeat (first | exact Below.refl _ _ | refine Below.drew ?_ | refine below_drewN ?_ _ | refine Below.trans ?_ (Below.mono (by assumption) (by first | omega | (simp; omega) | (simp; done))) | refine Below.alloc ?_ (by first | omega | (simp; omega) | (simp; done)) _ | refine Below.setCell ?_ (by first | omega | (simp; omega) | (simp; done)) _))⟩
theorem coded_at {B : Nat} {ev : Nat → Addr} (i : Nat) (n : Int) (w : World) (hE : Errs B ev w) (i2 : i ≤ 10) (h : (i : Int) = n) :
    Calls Tryz.prog 18 #[errV ev i, .int .i64 n] w fun e w' => e = .returned (.bool true) ∧ Below w.heap.size w w' := by
  have := coded_any i n w hE i2
  rwa [decide_eq_true h] at this
theorem Errs.go {B : Nat} {ev : Nat → Addr} {w w' : World} (h : Errs B ev w) (hb : Below w.heap.size w w') : Errs B ev w' := h.below (hb.mono h.size)
end Go.Proofs.YtcokmiidgdmdlaaGreatDoor
