/- Package zone: what reads a zone; giving back. -/
import Derived.Test.YtigginpcokfihaaGreatDoorZNewA
import Derived.Test.YtigginpcokfihaaGreatDoorBudE
import Derived.Test.YtigginpcokfihaaGreatDoorBudG
import Derived.Test.YtigginpcokfihaaGreatDoorQuiet
import Derived.Deep.QuietTactic
import Derived.BigQuiet
import Derived.Deep.DrawnRows
namespace Go.Proofs.YtigginpcokfihaaGreatDoor
open Go.RowKit Go.Maps
set_option linter.unusedSimpArgs false
set_option linter.unusedVariables false

/-- what a walk reads of a zone that has nodes -/
theorem ZoneB.open {B : Nat} {w : World} {pz : Nat} {mn lw hi : Int} {O : List (List Int)} {L : List Nd} (h : ZoneB B w pz mn lw hi O L) (hL : 0 < L.length) :
    ∃ g off kn qo ko, LocN w pz [.slice none 0 0, .slice none 0 0, .int .i64 mn, .int .i64 lw, .int .i64 hi, .slice (some ⟨g, off, none⟩) L.length kn, .slice qo L.length ko] ∧ g ∉ ys L ∧ g < w.heap.size ∧ L.length ≤ kn ∧ kn ≤ maxLen ∧
      (∀ j y, L[j]? = some y → w.cell? ⟨g, off + j, none⟩ = some (.pointer (some ⟨y.pb, 0, none⟩))) ∧ RowR (ys L) w (.slice qo L.length ko) O := by
  obtain ⟨qn, kn, qo, ko, h1, h2, h3⟩ := h.z
  obtain ⟨p, cap, e, hc1, hc2, hc⟩ := h2
  rw [ptrs_length] at e hc1
  injection e with e1 e2 e3
  subst e1 e3
  obtain ⟨x, hx⟩ : ∃ x, L[0]? = some x := ⟨L[0], List.getElem?_eq_getElem hL⟩
  obtain ⟨g, off, rfl, hg, hgl, _⟩ := hc 0 _ (ptrs_get hx)
  refine ⟨g, off, kn, qo, ko, h1, hg, hgl, hc1, hc2, fun j y hj => ?_, h3⟩
  obtain ⟨g', off', e, _, _, q⟩ := hc j _ (ptrs_get hj)
  injection e with e; injection e with ea eb
  subst ea eb
  exact q

set_option maxHeartbeats 1000000 in
theorem node_ok {B : Nat} (pz : Nat) (mn lw hi : Int) (O : List (List Int)) (L : List Nd) (v : Nat) (w : World) (h : ZoneB B w pz mn lw hi O L) (hv : v < L.length) :
    Calls Tryz.prog 25 #[.pointer (some ⟨pz, 0, none⟩), .int .i64 v] w fun e w' => e = .returned .nilIface ∧ Below w.heap.size w w' := by
  obtain ⟨g, off, kn, qo, ko, hz, _, _, hk1, hk2, _, _⟩ := h.open (by omega)
  have c5 := hz.c 5 _ rfl; have cl := hz.lt
  unfold maxLen at hk2
  have v0 : decide ((v : Int) < 0) = false := decide_eq_false (by omega)
  have v1 : decide (L.length ≤ v) = false := decide_eq_false (by omega)
  clear h hz
  go_enter Tryz.func25, Tryz.ntmps25
  go_wp2
  go_ret
  exact ⟨rfl, (by repeat (first | exact Below.refl _ _ | refine Below.drew ?_ | refine below_drewN ?_ _ | refine Below.trans ?_ (Below.mono (by assumption) (by first | omega | (simp; omega) | (simp; done))) | refine Below.alloc ?_ (by first | omega | (simp; omega) | (simp; done)) _ | refine Below.setCell ?_ (by first | omega | (simp; omega) | (simp; done)) _))⟩
set_option maxHeartbeats 1000000 in
theorem node_err {B : Nat} {ev : Nat → Addr} (pz : Nat) (mn lw hi : Int) (O : List (List Int)) (L : List Nd) (v : Int) (w : World) (hE : ErrC B ev w) (h : ZoneB B w pz mn lw hi O L) (hL : 0 < L.length) (hv : v < 0 ∨ (L.length : Int) ≤ v) :
    Calls Tryz.prog 25 #[.pointer (some ⟨pz, 0, none⟩), .int .i64 v] w fun e w' => e = .returned (errV ev 2) ∧ Below w.heap.size w w' := by
  obtain ⟨g, off, kn, qo, ko, hz, _, _, hk1, hk2, _, _⟩ := h.open hL
  have c5 := hz.c 5 _ rfl; have cl := hz.lt
  unfold maxLen at hk2
  have r2 := hE.c2
  have e1 : errV ev 2 = .iface 199 (.pointer (some (ev 2))) := rfl
  rw [e1]
  clear h hz hE e1
  by_cases v0 : v < 0
  · have v0' : decide (v < 0) = true := decide_eq_true v0
    clear v0 hv
    go_enter Tryz.func25, Tryz.ntmps25
    go_wp2
    go_ret
    exact ⟨rfl, (by repeat (first | exact Below.refl _ _ | refine Below.drew ?_ | refine below_drewN ?_ _ | refine Below.trans ?_ (Below.mono (by assumption) (by first | omega | (simp; omega) | (simp; done))) | refine Below.alloc ?_ (by first | omega | (simp; omega) | (simp; done)) _ | refine Below.setCell ?_ (by first | omega | (simp; omega) | (simp; done)) _))⟩
  · have v1 : decide (v < 0) = false := decide_eq_false v0
    have v2 : decide ((L.length : Int) ≤ v) = true := decide_eq_true (by omega)
    clear v0 hv
    go_enter Tryz.func25, Tryz.ntmps25
    go_wp2
    go_ret
    exact ⟨rfl, (by repeat (first | exact Below.refl _ _ | refine Below.drew ?_ | refine below_drewN ?_ _ | refine Below.trans ?_ (Below.mono (by assumption) (by first | omega | (simp; omega) | (simp; done))) | refine Below.alloc ?_ (by first | omega | (simp; omega) | (simp; done)) _ | refine Below.setCell ?_ (by first | omega | (simp; omega) | (simp; done)) _))⟩

set_option maxHeartbeats 1000000 in
theorem may_any {B : Nat} (pz : Nat) (mn lw hi : Int) (O : List (List Int)) (L : List Nd) (v : Nat) (x : Nd) (k : Int) (u : Bool) (w : World) (h : ZoneB B w pz mn lw hi O L) (hx : L[v]? = some x) (k0 : 0 ≤ k) (k6 : k ≤ 6) :
    Calls Tryz.prog 27 #[.pointer (some ⟨pz, 0, none⟩), .int .i64 v, .int .i64 k, .bool u] w fun e w' => e = .returned (.bool (mayN mn k u x)) ∧ Below w.heap.size w w' := by
  have hl := (List.getElem?_eq_some_iff.1 hx).1
  obtain ⟨g, off, kn, qo, ko, hz, _, _, hk1, hk2, hc, _⟩ := h.open (by omega)
  have r1 := hc v x hx
  have c5 := hz.c 5 _ rfl; have cl := hz.lt
  unfold maxLen at hk2
  have hb := h.b.bud x (List.mem_of_getElem? hx)
  have PG := Lib.hid (pages_ok x.pb x.n x.bf x.bt x.F x.T w hb.1)
  have s1 := hb.2.sumF.1
  have s2 : sumL x.F ≤ 256 := by have := hb.2.sumF.2; have := hb.2.n2; omega
  have HZ := Lib.hid hz
  have hm := h.m0.1
  have hs := shl_sz' k0 k6
  obtain ⟨t1, t2⟩ := sz_bd k0 k6
  have em : mayN mn k u x = (u || decide (mn ≤ sumL x.F - sz k)) := rfl
  rw [em]
  generalize sumL x.F = s at *
  clear h hz hx hc hb em
  go_enter Tryz.func27, Tryz.ntmps27
  go_wp2_with fail
  refine PG.out.mono ?_
  rintro e w1 ⟨rfl, hb1⟩
  have M := HZ.out.go hb1
  have c2 := M.c 2 _ rfl; have ml := M.lt
  clear M PG
  cases u with
  | true =>
    go_wp2_with fail
    go_quiet (fail)
    go_wp2
    go_ret
    exact ⟨rfl, (by repeat (first | exact Below.refl _ _ | refine Below.drew ?_ | refine below_drewN ?_ _ | refine Below.trans ?_ (Below.mono (by assumption) (by first | omega | (simp; omega) | (simp; done))) | refine Below.alloc ?_ (by first | omega | (simp; omega) | (simp; done)) _ | refine Below.setCell ?_ (by first | omega | (simp; omega) | (simp; done)) _))⟩
  | false =>
    go_wp2_with fail
    go_quiet (fail)
    go_wp2
    go_ret
    exact ⟨rfl, (by repeat (first | exact Below.refl _ _ | refine Below.drew ?_ | refine below_drewN ?_ _ | refine Below.trans ?_ (Below.mono (by assumption) (by first | omega | (simp; omega) | (simp; done))) | refine Below.alloc ?_ (by first | omega | (simp; omega) | (simp; done)) _ | refine Below.setCell ?_ (by first | omega | (simp; omega) | (simp; done)) _))⟩

set_option maxHeartbeats 1000000 in
theorem zfree_ok {B : Nat} (pz : Nat) (mn lw hi : Int) (O : List (List Int)) (L : List Nd) (v : Nat) (x : Nd) (w : World) (h : ZoneB B w pz mn lw hi O L) (hx : L[v]? = some x) :
    Calls Tryz.prog 11 #[.pointer (some ⟨pz, 0, none⟩), .int .i64 v] w fun e w' => e = .returned (.tuple #[.int .i64 (sumL x.F), .nilIface]) ∧ Below w.heap.size w w' := by
  have hl := (List.getElem?_eq_some_iff.1 hx).1
  have NO := Lib.hid (node_ok pz mn lw hi O L v w h hl)
  have HH := Lib.hid h; have HX := Lib.hid hx
  clear h hx
  go_enter Tryz.func11, Tryz.ntmps11
  go_wp2_with fail
  refine NO.out.mono ?_
  rintro e w1 ⟨rfl, hb1⟩
  have h1 := HH.out.below hb1
  obtain ⟨g, off, kn, qo, ko, hz, _, _, hk1, hk2, hc, _⟩ := h1.open (by omega)
  have r1 := hc v x HX.out
  have c5 := hz.c 5 _ rfl; have cl := hz.lt
  unfold maxLen at hk2
  have PG := Lib.hid (pages_ok x.pb x.n x.bf x.bt x.F x.T w1 (h1.b.bud x (List.mem_of_getElem? HX.out)).1)
  clear h1 hz hc NO
  go_wp2_with fail
  refine PG.out.mono ?_
  rintro e w2 ⟨rfl, hb2⟩
  go_wp2
  go_ret2
  exact ⟨rfl, hb1.trans (hb2.mono hb1.size)⟩
set_option maxHeartbeats 1000000 in
theorem zfree_err {B : Nat} {ev : Nat → Addr} (pz : Nat) (mn lw hi : Int) (O : List (List Int)) (L : List Nd) (v : Int) (w : World) (hE : ErrC B ev w) (h : ZoneB B w pz mn lw hi O L) (hL : 0 < L.length) (hv : v < 0 ∨ (L.length : Int) ≤ v) :
    Calls Tryz.prog 11 #[.pointer (some ⟨pz, 0, none⟩), .int .i64 v] w fun e w' => e = .returned (.tuple #[.int .i64 0, errV ev 2]) ∧ Below w.heap.size w w' := by
  have NO := Lib.hid (node_err pz mn lw hi O L v w hE h hL hv)
  have e1 : errV ev 2 = .iface 199 (.pointer (some (ev 2))) := rfl
  rw [e1] at NO ⊢
  clear h hv hE e1
  go_enter Tryz.func11, Tryz.ntmps11
  go_wp2_with fail
  refine NO.out.mono ?_
  rintro e w1 ⟨rfl, hb1⟩
  go_wp2
  go_ret2
  exact ⟨rfl, hb1⟩

set_option maxHeartbeats 1000000 in
theorem low_ok {B : Nat} (pz : Nat) (mn lw hi : Int) (O : List (List Int)) (L : List Nd) (v : Nat) (x : Nd) (w : World) (h : ZoneB B w pz mn lw hi O L) (hx : L[v]? = some x) :
    Calls Tryz.prog 48 #[.pointer (some ⟨pz, 0, none⟩), .int .i64 v] w fun e w' => e = .returned (.tuple #[.bool (decide (sumL x.F < lw)), .nilIface]) ∧ Below w.heap.size w w' := by
  have hl := (List.getElem?_eq_some_iff.1 hx).1
  have FR := Lib.hid (zfree_ok pz mn lw hi O L v x w h hx)
  obtain ⟨qn, kn, qo, ko, hz, _⟩ := h.z
  have HZ := Lib.hid hz
  clear h hx hz
  go_enter Tryz.func48, Tryz.ntmps48
  go_wp2_with fail
  refine FR.out.mono ?_
  rintro e w1 ⟨rfl, hb1⟩
  have M := HZ.out.go hb1
  have c3 := M.c 3 _ rfl; have ml := M.lt
  clear M FR
  go_wp2
  go_ret2
  exact ⟨rfl, hb1⟩
set_option maxHeartbeats 1000000 in
theorem low_err {B : Nat} {ev : Nat → Addr} (pz : Nat) (mn lw hi : Int) (O : List (List Int)) (L : List Nd) (v : Int) (w : World) (hE : ErrC B ev w) (h : ZoneB B w pz mn lw hi O L) (hL : 0 < L.length) (hv : v < 0 ∨ (L.length : Int) ≤ v) :
    Calls Tryz.prog 48 #[.pointer (some ⟨pz, 0, none⟩), .int .i64 v] w fun e w' => e = .returned (.tuple #[.bool false, errV ev 2]) ∧ Below w.heap.size w w' := by
  have FR := Lib.hid (zfree_err pz mn lw hi O L v w hE h hL hv)
  have e1 : errV ev 2 = .iface 199 (.pointer (some (ev 2))) := rfl
  rw [e1] at FR ⊢
  clear h hv hE e1
  go_enter Tryz.func48, Tryz.ntmps48
  go_wp2_with fail
  refine FR.out.mono ?_
  rintro e w1 ⟨rfl, hb1⟩
  go_wp2
  go_ret2
  exact ⟨rfl, hb1⟩

def lackN (hi : Int) (x : Nd) : Int := if hi - sumL x.F < 0 then 0 else hi - sumL x.F
set_option maxHeartbeats 1000000 in
theorem lack_ok {B : Nat} (pz : Nat) (mn lw hi : Int) (O : List (List Int)) (L : List Nd) (v : Nat) (x : Nd) (w : World) (h : ZoneB B w pz mn lw hi O L) (hx : L[v]? = some x) :
    Calls Tryz.prog 49 #[.pointer (some ⟨pz, 0, none⟩), .int .i64 v] w fun e w' => e = .returned (.tuple #[.int .i64 (lackN hi x), .nilIface]) ∧ Below w.heap.size w w' := by
  have hl := (List.getElem?_eq_some_iff.1 hx).1
  have FR := Lib.hid (zfree_ok pz mn lw hi O L v x w h hx)
  obtain ⟨qn, kn, qo, ko, hz, _⟩ := h.z
  have HZ := Lib.hid hz
  obtain ⟨m1, m2, m3, m4⟩ := h.m0
  have hb := h.b.bud x (List.mem_of_getElem? hx)
  have s1 := hb.2.sumF.1
  have s2 : sumL x.F ≤ 256 := by have := hb.2.sumF.2; have := hb.2.n2; omega
  have e0 : lackN hi x = if hi - sumL x.F < 0 then 0 else hi - sumL x.F := rfl
  rw [e0]
  generalize sumL x.F = s at *
  have h0 : 0 ≤ hi := by omega
  clear h hx hz hb e0 m1 m2 m3
  by_cases q : hi - s < 0
  all_goals
    go_enter Tryz.func49, Tryz.ntmps49
    go_wp2_with fail
    refine FR.out.mono ?_
    rintro e w1 ⟨rfl, hb1⟩
    have M := HZ.out.go hb1
    have c4 := M.c 4 _ rfl; have ml := M.lt
    clear M
    go_wp2
    go_ret2
    exact ⟨by simp [q] <;> omega, hb1⟩
set_option maxHeartbeats 1000000 in
theorem lack_err {B : Nat} {ev : Nat → Addr} (pz : Nat) (mn lw hi : Int) (O : List (List Int)) (L : List Nd) (v : Int) (w : World) (hE : ErrC B ev w) (h : ZoneB B w pz mn lw hi O L) (hL : 0 < L.length) (hv : v < 0 ∨ (L.length : Int) ≤ v) :
    Calls Tryz.prog 49 #[.pointer (some ⟨pz, 0, none⟩), .int .i64 v] w fun e w' => e = .returned (.tuple #[.int .i64 0, errV ev 2]) ∧ Below w.heap.size w w' := by
  have FR := Lib.hid (zfree_err pz mn lw hi O L v w hE h hL hv)
  have e1 : errV ev 2 = .iface 199 (.pointer (some (ev 2))) := rfl
  rw [e1] at FR ⊢
  clear h hv hE e1
  go_enter Tryz.func49, Tryz.ntmps49
  go_wp2_with fail
  refine FR.out.mono ?_
  rintro e w1 ⟨rfl, hb1⟩
  go_wp2
  go_ret2
  exact ⟨rfl, hb1⟩
end Go.Proofs.YtigginpcokfihaaGreatDoor
