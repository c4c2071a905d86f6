/- A zone in memory: its nodes' buddies, their order; how it grows while it is made. Package zone: what reads a zone; giving back. -/
import Derived.Test.YtcokmiidgdmdlaaGreatDoorZCfg
import Derived.Test.YtcokmiidgdmdlaaGreatDoorBud
import Derived.Test.YtcokmiidgdmdlaaGreatDoorZPl
import Derived.Test.YtcokmiidgdmdlaaGreatDoorBudW
import Derived.Test.YtcokmiidgdmdlaaGreatDoorBase
import Derived.Deep.QuietTactic
import Derived.BigQuiet
import Derived.Deep.DrawnRows
namespace Go.Proofs.YtcokmiidgdmdlaaGreatDoor
open Go.RowKit Go.Maps
set_option linter.unusedSimpArgs false
set_option linter.unusedVariables false

def ptrs (L : List Nd) : List Value := L.map fun x => .pointer (some ⟨x.pb, 0, none⟩)
theorem ptrs_length (L : List Nd) : (ptrs L).length = L.length := by simp [ptrs]
theorem ptrs_get {L : List Nd} {j : Nat} {x : Nd} (h : L[j]? = some x) : (ptrs L)[j]? = some (.pointer (some ⟨x.pb, 0, none⟩)) := by simp [ptrs, h]
theorem ptrs_snoc (L : List Nd) (x : Nd) : ptrs (L ++ [x]) = ptrs L ++ [.pointer (some ⟨x.pb, 0, none⟩)] := by simp [ptrs]
theorem elNode : El 115 118 (.pointer none) 8 := ⟨Tryz.underlying115, by kernel_rfl, rfl, by omega⟩

/-- the buddies of the nodes -/
structure Buds (B : Nat) (w : World) (L : List Nd) : Prop where
  bud : ∀ x ∈ L, Bud w x.pb x.n x.bf x.bt x.F x.T ∧ Inv x.n x.F x.T
  nd : (ys L).Nodup
  out : ∀ x ∈ L, x.pb ∉ ys L
  lim : ∀ y ∈ ys L, B ≤ y ∧ y < w.heap.size
theorem Buds.keep {B : Nat} {S : List Nat} {w w' : World} {L : List Nd} (h : Buds B w L) (k : Keep S w w') (hs : ∀ x ∈ L, x.pb ∉ S ∧ x.bf ∉ S ∧ x.bt ∉ S) : Buds B w' L :=
  ⟨fun x hx => ⟨(h.bud x hx).1.keep k (hs x hx).1 (hs x hx).2.1 (hs x hx).2.2, (h.bud x hx).2⟩, h.nd, h.out, fun y hy => ⟨(h.lim y hy).1, Nat.lt_of_lt_of_le (h.lim y hy).2 k.size⟩⟩
theorem Buds.below {B : Nat} {w w' : World} {L : List Nd} (h : Buds B w L) (k : Below w.heap.size w w') : Buds B w' L := h.keep (Keep.of (S := []) k) (fun x _ => ⟨by simp, by simp, by simp⟩)
theorem Buds.snoc {B : Nat} {w w' : World} {L : List Nd} (h : Buds B w L) (k : Below w.heap.size w w') (x : Nd) (hb : Bud w' x.pb x.n x.bf x.bt x.F x.T) (hi : Inv x.n x.F x.T) (hB : B ≤ w.heap.size) (h1 : w.heap.size ≤ x.pb) (h2 : w.heap.size ≤ x.bf) (h3 : w.heap.size ≤ x.bt) : Buds B w' (L ++ [x]) := by
  have h' := h.below k
  have e := hb.ne
  refine ⟨fun y hy => ?_, ?_, fun y hy => ?_, fun y hy => ?_⟩
  · rcases List.mem_append.1 hy with q | q
    · exact h'.bud y q
    · simp at q; subst q; exact ⟨hb, hi⟩
  · rw [ys_snoc]
    refine List.nodup_append.2 ⟨h.nd, by simp; exact e.1, fun a ha b hb => ?_⟩
    have := (h.lim a ha).2
    simp at hb
    rcases hb with rfl | rfl <;> omega
  · rw [ys_snoc]
    intro q
    rcases List.mem_append.1 hy with p | p
    · have l1 := (h.bud y p).1.ltp
      rcases List.mem_append.1 q with q | q
      · exact h.out y p q
      · simp at q; rcases q with q | q <;> omega
    · simp at p; subst p
      rcases List.mem_append.1 q with q | q
      · have := (h.lim _ q).2; omega
      · simp at q; rcases q with q | q
        · exact e.2.1 q
        · exact e.2.2 q
  · rw [ys_snoc] at hy
    rcases List.mem_append.1 hy with q | q
    · exact h'.lim y q
    · simp at q
      rcases q with rfl | rfl
      · exact ⟨by omega, hb.ltf⟩
      · exact ⟨by omega, hb.ltt⟩
/-- one node's act -/
theorem Buds.act {B : Nat} {w w' : World} {L : List Nd} (h : Buds B w L) {i : Nat} {x : Nd} (hx : L[i]? = some x) {F T : List (Int × Int)} (hb : Bud w' x.pb x.n x.bf x.bt F T) (hi : Inv x.n F T) (k : Keep [x.bf, x.bt] w w') :
    Buds B w' (L.set i ⟨x.pb, x.bf, x.bt, x.n, F, T⟩) ∧ ys (L.set i ⟨x.pb, x.bf, x.bt, x.n, F, T⟩) = ys L ∧ ptrs (L.set i ⟨x.pb, x.bf, x.bt, x.n, F, T⟩) = ptrs L := by
  have hil := (List.getElem?_eq_some_iff.1 hx).1
  have hxe := (List.getElem?_eq_some_iff.1 hx).2
  have split : L = L.take i ++ x :: L.drop (i + 1) := by
    conv => lhs; rw [← List.take_append_drop i L]
    rw [List.drop_eq_getElem_cons hil, hxe]
  have setE : L.set i ⟨x.pb, x.bf, x.bt, x.n, F, T⟩ = L.take i ++ ⟨x.pb, x.bf, x.bt, x.n, F, T⟩ :: L.drop (i + 1) := by
    rw [List.set_eq_take_append_cons_drop, if_pos hil]
  have ey : ys (L.set i ⟨x.pb, x.bf, x.bt, x.n, F, T⟩) = ys L := by
    rw [setE]
    conv => rhs; rw [split]
    simp [ys]
  have ep : ptrs (L.set i ⟨x.pb, x.bf, x.bt, x.n, F, T⟩) = ptrs L := by
    rw [setE]
    conv => rhs; rw [split]
    simp [ptrs]
  have mem : ∀ z ∈ L.set i ⟨x.pb, x.bf, x.bt, x.n, F, T⟩, z = ⟨x.pb, x.bf, x.bt, x.n, F, T⟩ ∨ (z ∈ L ∧ z.bf ≠ x.bf ∧ z.bf ≠ x.bt ∧ z.bt ≠ x.bf ∧ z.bt ≠ x.bt) := by
    intro z hz
    rw [setE] at hz
    have nd := h.nd
    rw [split] at nd
    simp only [ys, List.flatMap_append, List.flatMap_cons] at nd
    obtain ⟨n1, n2, n3⟩ := List.nodup_append.1 nd
    obtain ⟨m1, m2, m3⟩ := List.nodup_append.1 n2
    rcases List.mem_append.1 hz with q | q
    · right
      refine ⟨List.mem_of_mem_take q, ?_⟩
      have zb : z.bf ∈ (L.take i).flatMap fun x => [x.bf, x.bt] := List.mem_flatMap.2 ⟨z, q, by simp⟩
      have zt : z.bt ∈ (L.take i).flatMap fun x => [x.bf, x.bt] := List.mem_flatMap.2 ⟨z, q, by simp⟩
      exact ⟨n3 _ zb _ (by simp), n3 _ zb _ (by simp), n3 _ zt _ (by simp), n3 _ zt _ (by simp)⟩
    · rcases List.mem_cons.1 q with q | q
      · exact .inl q
      · right
        refine ⟨List.mem_of_mem_drop q, ?_⟩
        have zb : z.bf ∈ (L.drop (i + 1)).flatMap fun x => [x.bf, x.bt] := List.mem_flatMap.2 ⟨z, q, by simp⟩
        have zt : z.bt ∈ (L.drop (i + 1)).flatMap fun x => [x.bf, x.bt] := List.mem_flatMap.2 ⟨z, q, by simp⟩
        exact ⟨fun e => m3 _ (by simp) _ zb e.symm, fun e => m3 _ (by simp) _ zb e.symm, fun e => m3 _ (by simp) _ zt e.symm, fun e => m3 _ (by simp) _ zt e.symm⟩
  have hxm : x ∈ L := List.mem_of_getElem? hx
  have o1 : ∀ z ∈ L, z.pb ≠ x.bf ∧ z.pb ≠ x.bt := fun z hz => ⟨fun e => h.out z hz (ys_mem.2 ⟨x, hxm, .inl e⟩), fun e => h.out z hz (ys_mem.2 ⟨x, hxm, .inr e⟩)⟩
  refine ⟨⟨fun z hz => ?_, by rw [ey]; exact h.nd, fun z hz => ?_, fun y hy => ?_⟩, ey, ep⟩
  · rcases mem z hz with rfl | ⟨q, q1, q2, q3, q4⟩
    · exact ⟨hb, hi⟩
    · exact ⟨(h.bud z q).1.keep k (by simp; exact o1 z q) (by simp; exact ⟨q1, q2⟩) (by simp; exact ⟨q3, q4⟩), (h.bud z q).2⟩
  · rw [ey]
    rcases mem z hz with rfl | ⟨q, _⟩
    · exact h.out x hxm
    · exact h.out z q
  · rw [ey] at hy
    exact ⟨(h.lim y hy).1, Nat.lt_of_lt_of_le (h.lim y hy).2 k.size⟩

/-- block pz is a zone -/
structure ZoneB (B : Nat) (w : World) (pz : Nat) (mn lw hi : Int) (O : List (List Int)) (L : List Nd) : Prop where
  z : ∃ qn kn qo ko, LocN w pz [.slice none 0 0, .slice none 0 0, .int .i64 mn, .int .i64 lw, .int .i64 hi, .slice qn L.length kn, .slice qo L.length ko] ∧ RowV (ys L) w (.slice qn L.length kn) (ptrs L) ∧ RowR (ys L) w (.slice qo L.length ko) O
  b : Buds B w L
  out : pz ∉ ys L
  ord : OrdZ O L.length
  m0 : 0 ≤ mn ∧ mn ≤ lw ∧ lw ≤ hi ∧ hi ≤ 9223372036854775807
theorem ZoneB.below {B : Nat} {w w' : World} {pz : Nat} {mn lw hi : Int} {O : List (List Int)} {L : List Nd} (h : ZoneB B w pz mn lw hi O L) (k : Below w.heap.size w w') : ZoneB B w' pz mn lw hi O L := by
  obtain ⟨qn, kn, qo, ko, h1, h2, h3⟩ := h.z
  exact ⟨⟨qn, kn, qo, ko, h1.go k, h2.below k, h3.below k⟩, h.b.below k, h.out, h.ord, h.m0⟩
theorem ZoneB.keep {B : Nat} {S : List Nat} {w w' : World} {pz : Nat} {mn lw hi : Int} {O : List (List Int)} {L : List Nd} (h : ZoneB B w pz mn lw hi O L) {i : Nat} {x : Nd} (hx : L[i]? = some x) {F T : List (Int × Int)} (hb : Bud w' x.pb x.n x.bf x.bt F T) (hv : Inv x.n F T) (k : Keep [x.bf, x.bt] w w') :
    ZoneB B w' pz mn lw hi O (L.set i ⟨x.pb, x.bf, x.bt, x.n, F, T⟩) ∧ Keep (ys L) w w' := by
  obtain ⟨qn, kn, qo, ko, h1, h2, h3⟩ := h.z
  obtain ⟨b1, b2, b3⟩ := h.b.act hx hb hv k
  have hxm := List.mem_of_getElem? hx
  have hS : ∀ s ∈ [x.bf, x.bt], s ∈ ys L := fun s hs => by
    simp at hs
    exact ys_mem.2 ⟨x, hxm, hs⟩
  have kY : Keep (ys L) w w' := k.mono hS
  refine ⟨⟨⟨qn, kn, qo, ko, ?_, ?_, ?_⟩, b1, by rw [b2]; exact h.out, by simpa using h.ord, h.m0⟩, kY⟩
  · rw [List.length_set]; exact h1.keep kY h.out
  · rw [List.length_set, b2, b3]; exact h2.keep kY (fun s hs => .inl hs)
  · rw [List.length_set, b2]; exact h3.keep kY (fun s hs => .inl hs)
end Go.Proofs.YtcokmiidgdmdlaaGreatDoor

namespace Go.Proofs.YtcokmiidgdmdlaaGreatDoor
open Go.RowKit Go.Maps
set_option linter.unusedSimpArgs false
set_option linter.unusedVariables false

/-- what a walk reads of a zone that has nodes -/
theorem ZoneB.open {B : Nat} {w : World} {pz : Nat} {mn lw hi : Int} {O : List (List Int)} {L : List Nd} (h : ZoneB B w pz mn lw hi O L) (hL : 0 < L.length) :
    ∃ g off kn qo ko, LocN w pz [.slice none 0 0, .slice none 0 0, .int .i64 mn, .int .i64 lw, .int .i64 hi, .slice (some ⟨g, off, none⟩) L.length kn, .slice qo L.length ko] ∧ g ∉ ys L ∧ g < w.heap.size ∧ L.length ≤ kn ∧ kn ≤ maxLen ∧
      (∀ j y, L[j]? = some y → w.cell? ⟨g, off + j, none⟩ = some (.pointer (some ⟨y.pb, 0, none⟩))) ∧ RowR (ys L) w (.slice qo L.length ko) O := by
  obtain ⟨qn, kn, qo, ko, h1, h2, h3⟩ := h.z
  obtain ⟨p, cap, e, hc1, hc2, hc⟩ := h2
  rw [ptrs_length] at e hc1
  injection e with e1 e2 e3
  subst e1 e3
  obtain ⟨x, hx⟩ : ∃ x, L[0]? = some x := ⟨L[0], List.getElem?_eq_getElem hL⟩
  obtain ⟨g, off, rfl, hg, hgl, _⟩ := hc 0 _ (ptrs_get hx)
  refine ⟨g, off, kn, qo, ko, h1, hg, hgl, hc1, hc2, fun j y hj => ?_, h3⟩
  obtain ⟨g', off', e, _, _, q⟩ := hc j _ (ptrs_get hj)
  injection e with e; injection e with ea eb
  subst ea eb
  exact q

set_option maxHeartbeats 1000000 in
theorem node_ok {B : Nat} (pz : Nat) (mn lw hi : Int) (O : List (List Int)) (L : List Nd) (v : Nat) (w : World) (h : ZoneB B w pz mn lw hi O L) (hv : v < L.length) :
    Calls Tryz.prog 57 #[.pointer (some ⟨pz, 0, none⟩), .int .i64 v] w fun e w' => e = .returned .nilIface ∧ Below w.heap.size w w' := by
  obtain ⟨g, off, kn, qo, ko, hz, _, _, hk1, hk2, _, _⟩ := h.open (by omega)
  have c5 := hz.c 5 _ rfl; have cl := hz.lt
  unfold maxLen at hk2
  have v0 : decide ((v : Int) < 0) = false := decide_eq_false (by omega)
  have v1 : decide (L.length ≤ v) = false := decide_eq_false (by omega)
  clear h hz
  go_enter Tryz.func57, Tryz.ntmps57
  go_wp2
  go_ret
  exact ⟨rfl, (by repeat (first | exact Below.refl _ _ | refine Below.drew ?_ | refine below_drewN ?_ _ | refine Below.trans ?_ (Below.mono (by assumption) (by first | omega | (simp; omega) | (simp; done))) | refine Below.alloc ?_ (by first | omega | (simp; omega) | (simp; done)) _ | refine Below.setCell ?_ (by first | omega | (simp; omega) | (simp; done)) _))⟩
set_option maxHeartbeats 1000000 in
theorem node_err {B : Nat} {ev : Nat → Addr} (pz : Nat) (mn lw hi : Int) (O : List (List Int)) (L : List Nd) (v : Int) (w : World) (hE : ErrC B ev w) (h : ZoneB B w pz mn lw hi O L) (hL : 0 < L.length) (hv : v < 0 ∨ (L.length : Int) ≤ v) :
    Calls Tryz.prog 57 #[.pointer (some ⟨pz, 0, none⟩), .int .i64 v] w fun e w' => e = .returned (errV ev 2) ∧ Below w.heap.size w w' := by
  obtain ⟨g, off, kn, qo, ko, hz, _, _, hk1, hk2, _, _⟩ := h.open hL
  have c5 := hz.c 5 _ rfl; have cl := hz.lt
  unfold maxLen at hk2
  have r2 := hE.c2
  have e1 : errV ev 2 = .iface 291 (.pointer (some (ev 2))) := rfl
  rw [e1]
  clear h hz hE e1
  by_cases v0 : v < 0
  · have v0' : decide (v < 0) = true := decide_eq_true v0
    clear v0 hv
    go_enter Tryz.func57, Tryz.ntmps57
    go_wp2
    go_ret
    exact ⟨rfl, (by repeat (first | exact Below.refl _ _ | refine Below.drew ?_ | refine below_drewN ?_ _ | refine Below.trans ?_ (Below.mono (by assumption) (by first | omega | (simp; omega) | (simp; done))) | refine Below.alloc ?_ (by first | omega | (simp; omega) | (simp; done)) _ | refine Below.setCell ?_ (by first | omega | (simp; omega) | (simp; done)) _))⟩
  · have v1 : decide (v < 0) = false := decide_eq_false v0
    have v2 : decide ((L.length : Int) ≤ v) = true := decide_eq_true (by omega)
    clear v0 hv
    go_enter Tryz.func57, Tryz.ntmps57
    go_wp2
    go_ret
    exact ⟨rfl, (by repeat (first | exact Below.refl _ _ | refine Below.drew ?_ | refine below_drewN ?_ _ | refine Below.trans ?_ (Below.mono (by assumption) (by first | omega | (simp; omega) | (simp; done))) | refine Below.alloc ?_ (by first | omega | (simp; omega) | (simp; done)) _ | refine Below.setCell ?_ (by first | omega | (simp; omega) | (simp; done)) _))⟩

set_option maxHeartbeats 1000000 in
theorem may_any {B : Nat} (pz : Nat) (mn lw hi : Int) (O : List (List Int)) (L : List Nd) (v : Nat) (x : Nd) (k : Int) (u : Bool) (w : World) (h : ZoneB B w pz mn lw hi O L) (hx : L[v]? = some x) (k0 : 0 ≤ k) (k6 : k ≤ 6) :
    Calls Tryz.prog 59 #[.pointer (some ⟨pz, 0, none⟩), .int .i64 v, .int .i64 k, .bool u] w fun e w' => e = .returned (.bool (mayN mn k u x)) ∧ Below w.heap.size w w' := by
  have hl := (List.getElem?_eq_some_iff.1 hx).1
  obtain ⟨g, off, kn, qo, ko, hz, _, _, hk1, hk2, hc, _⟩ := h.open (by omega)
  have r1 := hc v x hx
  have c5 := hz.c 5 _ rfl; have cl := hz.lt
  unfold maxLen at hk2
  have hb := h.b.bud x (List.mem_of_getElem? hx)
  have PG := Lib.hid (pages_ok x.pb x.n x.bf x.bt x.F x.T w hb.1)
  have s1 := hb.2.sumF.1
  have s2 : sumL x.F ≤ 256 := by have := hb.2.sumF.2; have := hb.2.n2; omega
  have HZ := Lib.hid hz
  have hm := h.m0.1
  have hs := shl_sz' k0 k6
  obtain ⟨t1, t2⟩ := sz_bd k0 k6
  have em : mayN mn k u x = (u || decide (mn ≤ sumL x.F - sz k)) := rfl
  rw [em]
  generalize sumL x.F = s at *
  clear h hz hx hc hb em
  go_enter Tryz.func59, Tryz.ntmps59
  go_wp2_with fail
  refine PG.out.mono ?_
  rintro e w1 ⟨rfl, hb1⟩
  have M := HZ.out.go hb1
  have c2 := M.c 2 _ rfl; have ml := M.lt
  clear M PG
  cases u with
  | true =>
    go_wp2_with fail
    go_quiet (fail)
    go_wp2
    go_ret
    exact ⟨rfl, (by repeat (first | exact Below.refl _ _ | refine Below.drew ?_ | refine below_drewN ?_ _ | refine Below.trans ?_ (Below.mono (by assumption) (by first | omega | (simp; omega) | (simp; done))) | refine Below.alloc ?_ (by first | omega | (simp; omega) | (simp; done)) _ | refine Below.setCell ?_ (by first | omega | (simp; omega) | (simp; done)) _))⟩
  | false =>
    go_wp2_with fail
    go_quiet (fail)
    go_wp2
    go_ret
    exact ⟨rfl, (by repeat (first | exact Below.refl _ _ | refine Below.drew ?_ | refine below_drewN ?_ _ | refine Below.trans ?_ (Below.mono (by assumption) (by first | omega | (simp; omega) | (simp; done))) | refine Below.alloc ?_ (by first | omega | (simp; omega) | (simp; done)) _ | refine Below.setCell ?_ (by first | omega | (simp; omega) | (simp; done)) _))⟩

set_option maxHeartbeats 1000000 in
theorem zfree_ok {B : Nat} (pz : Nat) (mn lw hi : Int) (O : List (List Int)) (L : List Nd) (v : Nat) (x : Nd) (w : World) (h : ZoneB B w pz mn lw hi O L) (hx : L[v]? = some x) :
    Calls Tryz.prog 17 #[.pointer (some ⟨pz, 0, none⟩), .int .i64 v] w fun e w' => e = .returned (.tuple #[.int .i64 (sumL x.F), .nilIface]) ∧ Below w.heap.size w w' := by
  have hl := (List.getElem?_eq_some_iff.1 hx).1
  have NO := Lib.hid (node_ok pz mn lw hi O L v w h hl)
  have HH := Lib.hid h; have HX := Lib.hid hx
  clear h hx
  go_enter Tryz.func17, Tryz.ntmps17
  go_wp2_with fail
  refine NO.out.mono ?_
  rintro e w1 ⟨rfl, hb1⟩
  have h1 := HH.out.below hb1
  obtain ⟨g, off, kn, qo, ko, hz, _, _, hk1, hk2, hc, _⟩ := h1.open (by omega)
  have r1 := hc v x HX.out
  have c5 := hz.c 5 _ rfl; have cl := hz.lt
  unfold maxLen at hk2
  have PG := Lib.hid (pages_ok x.pb x.n x.bf x.bt x.F x.T w1 (h1.b.bud x (List.mem_of_getElem? HX.out)).1)
  clear h1 hz hc NO
  go_wp2_with fail
  refine PG.out.mono ?_
  rintro e w2 ⟨rfl, hb2⟩
  go_wp2
  go_ret2
  exact ⟨rfl, hb1.trans (hb2.mono hb1.size)⟩
set_option maxHeartbeats 1000000 in
theorem zfree_err {B : Nat} {ev : Nat → Addr} (pz : Nat) (mn lw hi : Int) (O : List (List Int)) (L : List Nd) (v : Int) (w : World) (hE : ErrC B ev w) (h : ZoneB B w pz mn lw hi O L) (hL : 0 < L.length) (hv : v < 0 ∨ (L.length : Int) ≤ v) :
    Calls Tryz.prog 17 #[.pointer (some ⟨pz, 0, none⟩), .int .i64 v] w fun e w' => e = .returned (.tuple #[.int .i64 0, errV ev 2]) ∧ Below w.heap.size w w' := by
  have NO := Lib.hid (node_err pz mn lw hi O L v w hE h hL hv)
  have e1 : errV ev 2 = .iface 291 (.pointer (some (ev 2))) := rfl
  rw [e1] at NO ⊢
  clear h hv hE e1
  go_enter Tryz.func17, Tryz.ntmps17
  go_wp2_with fail
  refine NO.out.mono ?_
  rintro e w1 ⟨rfl, hb1⟩
  go_wp2
  go_ret2
  exact ⟨rfl, hb1⟩

set_option maxHeartbeats 1000000 in
theorem low_ok {B : Nat} (pz : Nat) (mn lw hi : Int) (O : List (List Int)) (L : List Nd) (v : Nat) (x : Nd) (w : World) (h : ZoneB B w pz mn lw hi O L) (hx : L[v]? = some x) :
    Calls Tryz.prog 79 #[.pointer (some ⟨pz, 0, none⟩), .int .i64 v] w fun e w' => e = .returned (.tuple #[.bool (decide (sumL x.F < lw)), .nilIface]) ∧ Below w.heap.size w w' := by
  have hl := (List.getElem?_eq_some_iff.1 hx).1
  have FR := Lib.hid (zfree_ok pz mn lw hi O L v x w h hx)
  obtain ⟨qn, kn, qo, ko, hz, _⟩ := h.z
  have HZ := Lib.hid hz
  clear h hx hz
  go_enter Tryz.func79, Tryz.ntmps79
  go_wp2_with fail
  refine FR.out.mono ?_
  rintro e w1 ⟨rfl, hb1⟩
  have M := HZ.out.go hb1
  have c3 := M.c 3 _ rfl; have ml := M.lt
  clear M FR
  go_wp2
  go_ret2
  exact ⟨rfl, hb1⟩
set_option maxHeartbeats 1000000 in
theorem low_err {B : Nat} {ev : Nat → Addr} (pz : Nat) (mn lw hi : Int) (O : List (List Int)) (L : List Nd) (v : Int) (w : World) (hE : ErrC B ev w) (h : ZoneB B w pz mn lw hi O L) (hL : 0 < L.length) (hv : v < 0 ∨ (L.length : Int) ≤ v) :
    Calls Tryz.prog 79 #[.pointer (some ⟨pz, 0, none⟩), .int .i64 v] w fun e w' => e = .returned (.tuple #[.bool false, errV ev 2]) ∧ Below w.heap.size w w' := by
  have FR := Lib.hid (zfree_err pz mn lw hi O L v w hE h hL hv)
  have e1 : errV ev 2 = .iface 291 (.pointer (some (ev 2))) := rfl
  rw [e1] at FR ⊢
  clear h hv hE e1
  go_enter Tryz.func79, Tryz.ntmps79
  go_wp2_with fail
  refine FR.out.mono ?_
  rintro e w1 ⟨rfl, hb1⟩
  go_wp2
  go_ret2
  exact ⟨rfl, hb1⟩

def lackN (hi : Int) (x : Nd) : Int := if hi - sumL x.F < 0 then 0 else hi - sumL x.F
set_option maxHeartbeats 1000000 in
theorem lack_ok {B : Nat} (pz : Nat) (mn lw hi : Int) (O : List (List Int)) (L : List Nd) (v : Nat) (x : Nd) (w : World) (h : ZoneB B w pz mn lw hi O L) (hx : L[v]? = some x) :
    Calls Tryz.prog 80 #[.pointer (some ⟨pz, 0, none⟩), .int .i64 v] w fun e w' => e = .returned (.tuple #[.int .i64 (lackN hi x), .nilIface]) ∧ Below w.heap.size w w' := by
  have hl := (List.getElem?_eq_some_iff.1 hx).1
  have FR := Lib.hid (zfree_ok pz mn lw hi O L v x w h hx)
  obtain ⟨qn, kn, qo, ko, hz, _⟩ := h.z
  have HZ := Lib.hid hz
  obtain ⟨m1, m2, m3, m4⟩ := h.m0
  have hb := h.b.bud x (List.mem_of_getElem? hx)
  have s1 := hb.2.sumF.1
  have s2 : sumL x.F ≤ 256 := by have := hb.2.sumF.2; have := hb.2.n2; omega
  have e0 : lackN hi x = if hi - sumL x.F < 0 then 0 else hi - sumL x.F := rfl
  rw [e0]
  generalize sumL x.F = s at *
  have h0 : 0 ≤ hi := by omega
  clear h hx hz hb e0 m1 m2 m3
  by_cases q : hi - s < 0
  all_goals
    go_enter Tryz.func80, Tryz.ntmps80
    go_wp2_with fail
    refine FR.out.mono ?_
    rintro e w1 ⟨rfl, hb1⟩
    have M := HZ.out.go hb1
    have c4 := M.c 4 _ rfl; have ml := M.lt
    clear M
    go_wp2
    go_ret2
    exact ⟨by simp [q] <;> omega, hb1⟩
set_option maxHeartbeats 1000000 in
theorem lack_err {B : Nat} {ev : Nat → Addr} (pz : Nat) (mn lw hi : Int) (O : List (List Int)) (L : List Nd) (v : Int) (w : World) (hE : ErrC B ev w) (h : ZoneB B w pz mn lw hi O L) (hL : 0 < L.length) (hv : v < 0 ∨ (L.length : Int) ≤ v) :
    Calls Tryz.prog 80 #[.pointer (some ⟨pz, 0, none⟩), .int .i64 v] w fun e w' => e = .returned (.tuple #[.int .i64 0, errV ev 2]) ∧ Below w.heap.size w w' := by
  have FR := Lib.hid (zfree_err pz mn lw hi O L v w hE h hL hv)
  have e1 : errV ev 2 = .iface 291 (.pointer (some (ev 2))) := rfl
  rw [e1] at FR ⊢
  clear h hv hE e1
  go_enter Tryz.func80, Tryz.ntmps80
  go_wp2_with fail
  refine FR.out.mono ?_
  rintro e w1 ⟨rfl, hb1⟩
  go_wp2
  go_ret2
  exact ⟨rfl, hb1⟩
end Go.Proofs.YtcokmiidgdmdlaaGreatDoor
