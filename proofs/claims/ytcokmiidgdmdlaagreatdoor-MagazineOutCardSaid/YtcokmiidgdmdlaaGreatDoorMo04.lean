/- Lemmas and contracts for the claim's last text: ZCfg. -/
import Derived.Deep.QuietTactic
import Derived.RegionTactic
import Derived.ChangeAlike
import Derived.BigRegion
import Derived.Deep.RegionLaw
import Derived.Deep.DrawnRows
import Derived.ChangeSlices
import Derived.Lib.SmallJoins
import Derived.Test.YtcokmiidgdmdlaaGreatDoorMo02
import Derived.Test.YtcokmiidgdmdlaaGreatDoorMo03
namespace Go.Proofs.YtcokmiidgdmdlaaGreatDoor
open Go.RowKit
set_option linter.unusedSimpArgs false
set_option linter.unusedVariables false

def ints (xs : List Int) : List Value := xs.map (Value.int .i64)
theorem ints_length (xs : List Int) : (ints xs).length = xs.length := by simp [ints]
theorem ints_get {xs : List Int} {j : Nat} {x : Int} (h : xs[j]? = some x) : (ints xs)[j]? = some (.int .i64 x) := by simp [ints, h]
theorem RowV.int {X : List Nat} {w : World} {v : Value} {xs : List Int} (h : RowV X w v (ints xs)) : ∃ p cap, v = .slice p xs.length cap ∧ xs.length ≤ cap ∧ cap ≤ maxLen ∧ ∀ j x, xs[j]? = some x → ∃ g off, p = some ⟨g, off, none⟩ ∧ g ∉ X ∧ g < w.heap.size ∧ w.cell? ⟨g, off + j, none⟩ = some (.int .i64 x) := by
  obtain ⟨p, cap, h1, h2, h3, h4⟩ := h
  rw [ints_length] at h1 h2
  exact ⟨p, cap, h1, h2, h3, fun j x hj => h4 j _ (ints_get hj)⟩
/-- a slice of slices of ints -/
def RowR (X : List Nat) (w : World) (vN : Value) (N : List (List Int)) : Prop := ∃ us : List Value, us.length = N.length ∧ RowV X w vN us ∧ ∀ (j : Nat) (u : Value) (xs : List Int), us[j]? = some u → N[j]? = some xs → RowV X w u (ints xs)
theorem RowR.form {X : List Nat} {w : World} {v : Value} {N : List (List Int)} (h : RowR X w v N) : ∃ p cap, v = .slice p N.length cap ∧ N.length ≤ cap ∧ cap ≤ maxLen ∧ ∀ j xs, N[j]? = some xs → ∃ g off u, p = some ⟨g, off, none⟩ ∧ g ∉ X ∧ g < w.heap.size ∧ w.cell? ⟨g, off + j, none⟩ = some u ∧ RowV X w u (ints xs) := by
  obtain ⟨us, hl, ⟨p, cap, h1, h2, h3, h4⟩, h5⟩ := h
  rw [hl] at h1 h2
  refine ⟨p, cap, h1, h2, h3, fun j xs hj => ?_⟩
  have hjl : j < us.length := by rw [hl]; exact (List.getElem?_eq_some_iff.1 hj).1
  obtain ⟨u, hu⟩ : ∃ u, us[j]? = some u := ⟨us[j], List.getElem?_eq_getElem _⟩
  obtain ⟨g, off, e1, e2, e3, e4⟩ := h4 j u hu
  exact ⟨g, off, u, e1, e2, e3, e4, h5 j u xs hu hj⟩
theorem RowR.keep {X S : List Nat} {w w' : World} {v : Value} {N : List (List Int)} (h : RowR X w v N) (k : Keep S w w') (hs : ∀ s ∈ S, s ∈ X ∨ w.heap.size ≤ s) : RowR X w' v N := by
  obtain ⟨us, hl, h1, h2⟩ := h
  exact ⟨us, hl, h1.keep k hs, fun j u xs hu hx => (h2 j u xs hu hx).keep k hs⟩
theorem RowR.below {X : List Nat} {w w' : World} {v : Value} {N : List (List Int)} (h : RowR X w v N) (k : Below w.heap.size w w') : RowR X w' v N := h.keep (Keep.of (S := []) k) (fun _ q => by cases q)
theorem RowR.more {X Y : List Nat} {w : World} {v : Value} {N : List (List Int)} (h : RowR X w v N) (hY : ∀ y ∈ Y, y ∈ X ∨ w.heap.size ≤ y) : RowR Y w v N := by
  obtain ⟨us, hl, h1, h2⟩ := h
  exact ⟨us, hl, h1.more hY, fun j u xs hu hx => (h2 j u xs hu hx).more hY⟩
theorem any_snoc {α : Type} {p : α → Bool} {xs : List α} {j : Nat} {x : α} (h : xs[j]? = some x) : (xs.take (j + 1)).any p = ((xs.take j).any p || p x) := by
  rw [List.take_add_one, h]; simp
theorem any_of_take {α : Type} {p : α → Bool} {xs : List α} {j : Nat} (h : (xs.take j).any p = true) : xs.any p = true := by
  rw [List.any_eq_true] at h ⊢
  obtain ⟨x, h1, h2⟩ := h
  exact ⟨x, List.mem_of_mem_take h1, h2⟩

def inPg (k : Int) : Bool := decide (1 ≤ k ∧ k ≤ 256)
def inFar (k : Int) : Bool := decide (0 ≤ k ∧ k ≤ 1000)
def noPg (k : Int) : Bool := decide (k < 1 ∨ 256 < k)
def noFar (k : Int) : Bool := decide (k < 0 ∨ 1000 < k)

theorem pg_any (k : Int) (w : World) : Calls Tryz.prog 120 #[.int .i64 k] w fun e w' => e = .returned (.bool (noPg k)) ∧ Below w.heap.size w w' := by
  by_cases h1 : k < 1
  · have e : (noPg k) = true := by unfold noPg; simp; omega
    rw [e]
    go_enter Tryz.func120, Tryz.ntmps120
    go_wp2
    go_ret
    exact ⟨by simp, (by repeat (first | exact Below.refl _ _ | refine Below.drew ?_ | refine below_drewN ?_ _ | refine Below.trans ?_ (Below.mono (by assumption) (by first | omega | (simp; omega) | (simp; done))) | refine Below.alloc ?_ (by first | omega | (simp; omega) | (simp; done)) _ | refine Below.setCell ?_ (by first | omega | (simp; omega) | (simp; done)) _))⟩
  · by_cases h2 : 256 < k
    · have e : (noPg k) = true := by unfold noPg; simp; omega
      rw [e]
      go_enter Tryz.func120, Tryz.ntmps120
      go_wp2
      go_ret
      exact ⟨by simp, (by repeat (first | exact Below.refl _ _ | refine Below.drew ?_ | refine below_drewN ?_ _ | refine Below.trans ?_ (Below.mono (by assumption) (by first | omega | (simp; omega) | (simp; done))) | refine Below.alloc ?_ (by first | omega | (simp; omega) | (simp; done)) _ | refine Below.setCell ?_ (by first | omega | (simp; omega) | (simp; done)) _))⟩
    · have e : (noPg k) = false := by unfold noPg; simp; omega
      rw [e]
      go_enter Tryz.func120, Tryz.ntmps120
      go_wp2
      go_ret
      exact ⟨by simp, (by repeat (first | exact Below.refl _ _ | refine Below.drew ?_ | refine below_drewN ?_ _ | refine Below.trans ?_ (Below.mono (by assumption) (by first | omega | (simp; omega) | (simp; done))) | refine Below.alloc ?_ (by first | omega | (simp; omega) | (simp; done)) _ | refine Below.setCell ?_ (by first | omega | (simp; omega) | (simp; done)) _))⟩

theorem far_any (k : Int) (w : World) : Calls Tryz.prog 121 #[.int .i64 k] w fun e w' => e = .returned (.bool (noFar k)) ∧ Below w.heap.size w w' := by
  by_cases h1 : k < 0
  · have e : (noFar k) = true := by unfold noFar; simp; omega
    rw [e]
    go_enter Tryz.func121, Tryz.ntmps121
    go_wp2
    go_ret
    exact ⟨by simp, (by repeat (first | exact Below.refl _ _ | refine Below.drew ?_ | refine below_drewN ?_ _ | refine Below.trans ?_ (Below.mono (by assumption) (by first | omega | (simp; omega) | (simp; done))) | refine Below.alloc ?_ (by first | omega | (simp; omega) | (simp; done)) _ | refine Below.setCell ?_ (by first | omega | (simp; omega) | (simp; done)) _))⟩
  · by_cases h2 : 1000 < k
    · have e : (noFar k) = true := by unfold noFar; simp; omega
      rw [e]
      go_enter Tryz.func121, Tryz.ntmps121
      go_wp2
      go_ret
      exact ⟨by simp, (by repeat (first | exact Below.refl _ _ | refine Below.drew ?_ | refine below_drewN ?_ _ | refine Below.trans ?_ (Below.mono (by assumption) (by first | omega | (simp; omega) | (simp; done))) | refine Below.alloc ?_ (by first | omega | (simp; omega) | (simp; done)) _ | refine Below.setCell ?_ (by first | omega | (simp; omega) | (simp; done)) _))⟩
    · have e : (noFar k) = false := by unfold noFar; simp; omega
      rw [e]
      go_enter Tryz.func121, Tryz.ntmps121
      go_wp2
      go_ret
      exact ⟨by simp, (by repeat (first | exact Below.refl _ _ | refine Below.drew ?_ | refine below_drewN ?_ _ | refine Below.trans ?_ (Below.mono (by assumption) (by first | omega | (simp; omega) | (simp; done))) | refine Below.alloc ?_ (by first | omega | (simp; omega) | (simp; done)) _ | refine Below.setCell ?_ (by first | omega | (simp; omega) | (simp; done)) _))⟩

def lenNe (n : Int) (l : List Int) : Bool := decide ((l.length : Int) ≠ n)
theorem lenNe_any (v : Value) (l : List Int) (n : Int) (c : Nat) (w : World) (X : List Nat) (h : RowV X w v (ints l)) (hc : w.cell? ⟨c, 0, none⟩ = some (.int .i64 n)) (hl : c < w.heap.size) :
    Calls Tryz.prog 71 #[v, .pointer (some ⟨c, 0, none⟩)] w fun e w' => e = .returned (.bool (lenNe n l)) ∧ Below w.heap.size w w' := by
  obtain ⟨p, cap, rfl, h1, h2, _⟩ := h.int
  unfold maxLen at h2
  clear h
  by_cases e : (l.length : Int) = n
  · have e1 : lenNe n l = false := by unfold lenNe; simpa using e
    have e2 : ((l.length : Int) != n) = false := by simpa using e
    rw [e1]
    clear e e1
    go_enter Tryz.func71, Tryz.ntmps71
    go_wp2
    go_ret
    exact ⟨by simp, (by repeat (first | exact Below.refl _ _ | refine Below.drew ?_ | refine below_drewN ?_ _ | refine Below.trans ?_ (Below.mono (by assumption) (by first | omega | (simp; omega) | (simp; done))) | refine Below.alloc ?_ (by first | omega | (simp; omega) | (simp; done)) _ | refine Below.setCell ?_ (by first | omega | (simp; omega) | (simp; done)) _))⟩
  · have e1 : lenNe n l = true := by unfold lenNe; simpa using e
    have e2 : ((l.length : Int) != n) = true := by simpa using e
    rw [e1]
    clear e e1
    go_enter Tryz.func71, Tryz.ntmps71
    go_wp2
    go_ret
    exact ⟨by simp, (by repeat (first | exact Below.refl _ _ | refine Below.drew ?_ | refine below_drewN ?_ _ | refine Below.trans ?_ (Below.mono (by assumption) (by first | omega | (simp; omega) | (simp; done))) | refine Below.alloc ?_ (by first | omega | (simp; omega) | (simp; done)) _ | refine Below.setCell ?_ (by first | omega | (simp; omega) | (simp; done)) _))⟩

def ordGe (o : Int) (x : Int × Int) : Bool := decide (o ≤ x.2)
theorem ordGe_any (a k o : Int) (c : Nat) (w : World) (hc : w.cell? ⟨c, 0, none⟩ = some (.int .i64 o)) (hl : c < w.heap.size) :
    Calls Tryz.prog 63 #[.agg #[.int .i64 a, .int .i64 k], .pointer (some ⟨c, 0, none⟩)] w fun e w' => e = .returned (.bool (ordGe o (a, k))) ∧ Below w.heap.size w w' := by
  unfold ordGe
  go_enter Tryz.func63, Tryz.ntmps63
  go_wp2
  go_ret
  exact ⟨rfl, (by repeat (first | exact Below.refl _ _ | refine Below.drew ?_ | refine below_drewN ?_ _ | refine Below.trans ?_ (Below.mono (by assumption) (by first | omega | (simp; omega) | (simp; done))) | refine Below.alloc ?_ (by first | omega | (simp; omega) | (simp; done)) _ | refine Below.setCell ?_ (by first | omega | (simp; omega) | (simp; done)) _))⟩

set_option maxHeartbeats 1000000 in
theorem pg_idx (X : List Nat) (v : Value) (xs : List Int) (w : World) (h : RowV X w v (ints xs)) :
    Calls Tryz.prog 156 #[v, .func (.func 120) #[] #[]] w fun e w' => ∃ r : Int, e = .returned (.int .i64 r) ∧ Hid (decide (0 ≤ r) = xs.any noPg) ∧ Below w.heap.size w w' := by
  obtain ⟨p, cap, rfl, hcap, hmx, hc⟩ := h.int
  unfold maxLen at hmx
  have C := Lib.hid hc
  clear hc h
  obtain ⟨n, hn⟩ : ∃ n, n = xs.length := ⟨_, rfl⟩
  rw [← hn] at hcap ⊢
  have HN := Lib.hid hn
  clear hn
  go_enter Tryz.func156, Tryz.ntmps156
  go_wp2_with fail
  go_loopw [5, 8] (fun _ iv wr => ∃ j : Nat, j ≤ n ∧ iv = .int .i64 j ∧ Hid ((xs.take j).any noPg = false) ∧ Below w.heap.size w wr) (fun _ iv _ => n - (intOf iv).toNat)
  case atStart => exact ⟨0, Nat.zero_le _, rfl, (show _ = _ by simp), Below.refl _ _⟩
  case round =>
    obtain ⟨j, hj, rfl, hall, hbel⟩ := hrel
    have zr := hbel.size
    by_cases hjn : j < n
    · obtain ⟨x, hx⟩ : ∃ x, xs[j]? = some x := ⟨xs[j]'(by rw [← HN.out]; exact hjn), List.getElem?_eq_getElem _⟩
      have hsn := any_snoc (p := noPg) hx
      rw [hall.out, Bool.false_or] at hsn
      have SN := Lib.hid hsn
      clear hsn
      obtain ⟨g, off, rfl, _, hg, hc⟩ := C.out j x hx
      have r1 := (hbel.cell (p := ⟨g, off + j, none⟩) hg).trans hc
      have gr : g < wr.heap.size := by omega
      have CL := pg_any x wr
      clear hc hx
      cases hq : noPg x with
      | true =>
        have hr : Hid (xs.any noPg = true) := any_of_take (SN.out.trans hq)
        rw [hq] at CL
        have CL' := Lib.hid CL
        clear hq CL SN
        go_wp2_with fail
        refine CL'.out.mono ?_
        rintro e w1 ⟨rfl, hb1⟩
        go_wp2
        go_ret
        exact ⟨(j : Int), rfl, (show _ = _ by rw [hr.out]; simp), hbel.trans (hb1.mono zr)⟩
      | false =>
        have hr : Hid ((xs.take (j + 1)).any noPg = false) := SN.out.trans hq
        rw [hq] at CL
        have CL' := Lib.hid CL
        clear hq CL SN
        go_wp2_with fail
        refine CL'.out.mono ?_
        rintro e w1 ⟨rfl, hb1⟩
        go_wp2
        go_roundw
        case rel => exact ⟨j + 1, by omega, by go_num, hr, hbel.trans (hb1.mono zr)⟩
        case measure => simp [intOf]; omega
    · have ej : j = n := by omega
      have hr : Hid (xs.any noPg = false) := by have := hall.out; rwa [ej, HN.out, List.take_length] at this
      clear ej hall
      go_wp2
      go_ret
      exact ⟨-1, rfl, (show _ = _ by rw [hr.out]; rfl), hbel⟩
set_option maxHeartbeats 400000 in
theorem pg_has (X : List Nat) (v : Value) (xs : List Int) (w : World) (h : RowV X w v (ints xs)) :
    Calls Tryz.prog 119 #[v, .func (.func 120) #[] #[]] w fun e w' => e = .returned (.bool (xs.any noPg)) ∧ Below w.heap.size w w' := by
  have I := Lib.hid (pg_idx X v xs w h)
  obtain ⟨p, cap, rfl, _⟩ := h.int
  go_enter Tryz.func119, Tryz.ntmps119
  go_wp2_with fail
  refine I.out.mono ?_
  rintro e w1 ⟨r, rfl, hr, hb1⟩
  go_wp2
  go_ret
  exact ⟨by rw [← hr.out]; rfl, hb1⟩

set_option maxHeartbeats 1000000 in
theorem far_idx (X : List Nat) (v : Value) (xs : List Int) (w : World) (h : RowV X w v (ints xs)) :
    Calls Tryz.prog 156 #[v, .func (.func 121) #[] #[]] w fun e w' => ∃ r : Int, e = .returned (.int .i64 r) ∧ Hid (decide (0 ≤ r) = xs.any noFar) ∧ Below w.heap.size w w' := by
  obtain ⟨p, cap, rfl, hcap, hmx, hc⟩ := h.int
  unfold maxLen at hmx
  have C := Lib.hid hc
  clear hc h
  obtain ⟨n, hn⟩ : ∃ n, n = xs.length := ⟨_, rfl⟩
  rw [← hn] at hcap ⊢
  have HN := Lib.hid hn
  clear hn
  go_enter Tryz.func156, Tryz.ntmps156
  go_wp2_with fail
  go_loopw [5, 8] (fun _ iv wr => ∃ j : Nat, j ≤ n ∧ iv = .int .i64 j ∧ Hid ((xs.take j).any noFar = false) ∧ Below w.heap.size w wr) (fun _ iv _ => n - (intOf iv).toNat)
  case atStart => exact ⟨0, Nat.zero_le _, rfl, (show _ = _ by simp), Below.refl _ _⟩
  case round =>
    obtain ⟨j, hj, rfl, hall, hbel⟩ := hrel
    have zr := hbel.size
    by_cases hjn : j < n
    · obtain ⟨x, hx⟩ : ∃ x, xs[j]? = some x := ⟨xs[j]'(by rw [← HN.out]; exact hjn), List.getElem?_eq_getElem _⟩
      have hsn := any_snoc (p := noFar) hx
      rw [hall.out, Bool.false_or] at hsn
      have SN := Lib.hid hsn
      clear hsn
      obtain ⟨g, off, rfl, _, hg, hc⟩ := C.out j x hx
      have r1 := (hbel.cell (p := ⟨g, off + j, none⟩) hg).trans hc
      have gr : g < wr.heap.size := by omega
      have CL := far_any x wr
      clear hc hx
      cases hq : noFar x with
      | true =>
        have hr : Hid (xs.any noFar = true) := any_of_take (SN.out.trans hq)
        rw [hq] at CL
        have CL' := Lib.hid CL
        clear hq CL SN
        go_wp2_with fail
        refine CL'.out.mono ?_
        rintro e w1 ⟨rfl, hb1⟩
        go_wp2
        go_ret
        exact ⟨(j : Int), rfl, (show _ = _ by rw [hr.out]; simp), hbel.trans (hb1.mono zr)⟩
      | false =>
        have hr : Hid ((xs.take (j + 1)).any noFar = false) := SN.out.trans hq
        rw [hq] at CL
        have CL' := Lib.hid CL
        clear hq CL SN
        go_wp2_with fail
        refine CL'.out.mono ?_
        rintro e w1 ⟨rfl, hb1⟩
        go_wp2
        go_roundw
        case rel => exact ⟨j + 1, by omega, by go_num, hr, hbel.trans (hb1.mono zr)⟩
        case measure => simp [intOf]; omega
    · have ej : j = n := by omega
      have hr : Hid (xs.any noFar = false) := by have := hall.out; rwa [ej, HN.out, List.take_length] at this
      clear ej hall
      go_wp2
      go_ret
      exact ⟨-1, rfl, (show _ = _ by rw [hr.out]; rfl), hbel⟩
set_option maxHeartbeats 400000 in
theorem far_has (X : List Nat) (v : Value) (xs : List Int) (w : World) (h : RowV X w v (ints xs)) :
    Calls Tryz.prog 119 #[v, .func (.func 121) #[] #[]] w fun e w' => e = .returned (.bool (xs.any noFar)) ∧ Below w.heap.size w w' := by
  have I := Lib.hid (far_idx X v xs w h)
  obtain ⟨p, cap, rfl, _⟩ := h.int
  go_enter Tryz.func119, Tryz.ntmps119
  go_wp2_with fail
  refine I.out.mono ?_
  rintro e w1 ⟨r, rfl, hr, hb1⟩
  go_wp2
  go_ret
  exact ⟨by rw [← hr.out]; rfl, hb1⟩

set_option maxHeartbeats 1000000 in
theorem lenNe_idx (X : List Nat) (v : Value) (N : List (List Int)) (m : Int) (c : Nat) (w : World) (h : RowR X w v N) (hcc : w.cell? ⟨c, 0, none⟩ = some (.int .i64 m)) (hcl : c < w.heap.size) :
    Calls Tryz.prog 122 #[v, .func (.func 71) #[] #[.pointer (some ⟨c, 0, none⟩)]] w fun e w' => ∃ r : Int, e = .returned (.int .i64 r) ∧ Hid (decide (0 ≤ r) = N.any (lenNe m)) ∧ Below w.heap.size w w' := by
  obtain ⟨p, cap, rfl, hcap, hmx, hc⟩ := h.form
  unfold maxLen at hmx
  have C := Lib.hid hc
  clear hc h
  obtain ⟨n, hn⟩ : ∃ n, n = N.length := ⟨_, rfl⟩
  rw [← hn] at hcap ⊢
  have HN := Lib.hid hn
  clear hn
  go_enter Tryz.func122, Tryz.ntmps122
  go_wp2_with fail
  go_loopw [5, 8] (fun _ iv wr => ∃ j : Nat, j ≤ n ∧ iv = .int .i64 j ∧ Hid ((N.take j).any (lenNe m) = false) ∧ Below w.heap.size w wr) (fun _ iv _ => n - (intOf iv).toNat)
  case atStart => exact ⟨0, Nat.zero_le _, rfl, (show _ = _ by simp), Below.refl _ _⟩
  case round =>
    obtain ⟨j, hj, rfl, hall, hbel⟩ := hrel
    have zr := hbel.size
    by_cases hjn : j < n
    · obtain ⟨x, hx⟩ : ∃ x, N[j]? = some x := ⟨N[j]'(by rw [← HN.out]; exact hjn), List.getElem?_eq_getElem _⟩
      have hsn := any_snoc (p := (lenNe m)) hx
      rw [hall.out, Bool.false_or] at hsn
      have SN := Lib.hid hsn
      clear hsn
      obtain ⟨g, off, u, rfl, _, hg, hc, hu⟩ := C.out j x hx
      have r1 := (hbel.cell (p := ⟨g, off + j, none⟩) hg).trans hc
      have gr : g < wr.heap.size := by omega
      have rc := (hbel.cell (p := ⟨c, 0, none⟩) hcl).trans hcc
      have CL := lenNe_any u x m c wr X (hu.below hbel) rc (by omega)
      obtain ⟨q, k, rfl, _⟩ := hu.int
      clear hc hx
      cases hq : (lenNe m) x with
      | true =>
        have hr : Hid (N.any (lenNe m) = true) := any_of_take (SN.out.trans hq)
        rw [hq] at CL
        have CL' := Lib.hid CL
        clear hq CL SN
        go_wp2_with fail
        refine CL'.out.mono ?_
        rintro e w1 ⟨rfl, hb1⟩
        go_wp2
        go_ret
        exact ⟨(j : Int), rfl, (show _ = _ by rw [hr.out]; simp), hbel.trans (hb1.mono zr)⟩
      | false =>
        have hr : Hid ((N.take (j + 1)).any (lenNe m) = false) := SN.out.trans hq
        rw [hq] at CL
        have CL' := Lib.hid CL
        clear hq CL SN
        go_wp2_with fail
        refine CL'.out.mono ?_
        rintro e w1 ⟨rfl, hb1⟩
        go_wp2
        go_roundw
        case rel => exact ⟨j + 1, by omega, by go_num, hr, hbel.trans (hb1.mono zr)⟩
        case measure => simp [intOf]; omega
    · have ej : j = n := by omega
      have hr : Hid (N.any (lenNe m) = false) := by have := hall.out; rwa [ej, HN.out, List.take_length] at this
      clear ej hall
      go_wp2
      go_ret
      exact ⟨-1, rfl, (show _ = _ by rw [hr.out]; rfl), hbel⟩
set_option maxHeartbeats 400000 in
theorem lenNe_has (X : List Nat) (v : Value) (N : List (List Int)) (m : Int) (c : Nat) (w : World) (h : RowR X w v N) (hcc : w.cell? ⟨c, 0, none⟩ = some (.int .i64 m)) (hcl : c < w.heap.size) :
    Calls Tryz.prog 70 #[v, .func (.func 71) #[] #[.pointer (some ⟨c, 0, none⟩)]] w fun e w' => e = .returned (.bool (N.any (lenNe m))) ∧ Below w.heap.size w w' := by
  have I := Lib.hid (lenNe_idx X v N m c w h hcc hcl)
  obtain ⟨p, cap, rfl, _⟩ := h.form
  go_enter Tryz.func70, Tryz.ntmps70
  go_wp2_with fail
  refine I.out.mono ?_
  rintro e w1 ⟨r, rfl, hr, hb1⟩
  go_wp2
  go_ret
  exact ⟨by rw [← hr.out]; rfl, hb1⟩

set_option maxHeartbeats 1000000 in
theorem ordGe_idx (v : Value) (F : List (Int × Int)) (m : Int) (c : Nat) (w : World) (h : RowT 0 w v F) (hcc : w.cell? ⟨c, 0, none⟩ = some (.int .i64 m)) (hcl : c < w.heap.size) :
    Calls Tryz.prog 114 #[v, .func (.func 63) #[] #[.pointer (some ⟨c, 0, none⟩)]] w fun e w' => ∃ r : Int, e = .returned (.int .i64 r) ∧ Hid (decide (0 ≤ r) = F.any (ordGe m)) ∧ Below w.heap.size w w' := by
  have h' : ∃ p cap, v = .slice p F.length cap ∧ F.length ≤ cap ∧ cap ≤ maxLen ∧ Hid (∀ j a k, F[j]? = some (a, k) → ∃ g, p = some ⟨g, 0, none⟩ ∧ g < w.heap.size ∧ w.cell? ⟨g, j * 2, none⟩ = some (.int .i64 a) ∧ w.cell? ⟨g, j * 2 + 1, none⟩ = some (.int .i64 k)) := by
    rcases h with ⟨rfl, rfl⟩ | ⟨g, cap, rfl, q1, q2, _, hg, hc⟩
    · exact ⟨none, 0, rfl, Nat.le_refl _, Nat.zero_le _, fun j a k hj => by simp at hj⟩
    · exact ⟨_, cap, rfl, q1, q2, fun j a k hj => ⟨g, rfl, hg, hc j a k hj⟩⟩
  obtain ⟨p, cap, rfl, hcap, hmx, C⟩ := h'
  unfold maxLen at hmx
  clear h
  obtain ⟨n, hn⟩ : ∃ n, n = F.length := ⟨_, rfl⟩
  rw [← hn] at hcap ⊢
  have HN := Lib.hid hn
  clear hn
  go_enter Tryz.func114, Tryz.ntmps114
  go_wp2_with fail
  go_loopw [5, 8] (fun _ iv wr => ∃ j : Nat, j ≤ n ∧ iv = .int .i64 j ∧ Hid ((F.take j).any (ordGe m) = false) ∧ Below w.heap.size w wr) (fun _ iv _ => n - (intOf iv).toNat)
  case atStart => exact ⟨0, Nat.zero_le _, rfl, (show _ = _ by simp), Below.refl _ _⟩
  case round =>
    obtain ⟨j, hj, rfl, hall, hbel⟩ := hrel
    have zr := hbel.size
    by_cases hjn : j < n
    · obtain ⟨x, hx⟩ : ∃ x, F[j]? = some x := ⟨F[j]'(by rw [← HN.out]; exact hjn), List.getElem?_eq_getElem _⟩
      have hsn := any_snoc (p := (ordGe m)) hx
      rw [hall.out, Bool.false_or] at hsn
      have SN := Lib.hid hsn
      clear hsn
      obtain ⟨a, k⟩ := x
      obtain ⟨g, rfl, hg, hc1, hc2⟩ := C.out j a k hx
      have r1 := (hbel.cell (p := ⟨g, j * 2, none⟩) hg).trans hc1
      have r2 := (hbel.cell (p := ⟨g, j * 2 + 1, none⟩) hg).trans hc2
      have gr : g < wr.heap.size := by omega
      have rc := (hbel.cell (p := ⟨c, 0, none⟩) hcl).trans hcc
      have CL := ordGe_any a k m c wr rc (by omega)
      clear hc1 hc2 hx
      cases hq : (ordGe m) (a, k) with
      | true =>
        have hr : Hid (F.any (ordGe m) = true) := any_of_take (SN.out.trans hq)
        rw [hq] at CL
        have CL' := Lib.hid CL
        clear hq CL SN
        go_wp2_with fail
        refine CL'.out.mono ?_
        rintro e w1 ⟨rfl, hb1⟩
        go_wp2
        go_ret
        exact ⟨(j : Int), rfl, (show _ = _ by rw [hr.out]; simp), hbel.trans (hb1.mono zr)⟩
      | false =>
        have hr : Hid ((F.take (j + 1)).any (ordGe m) = false) := SN.out.trans hq
        rw [hq] at CL
        have CL' := Lib.hid CL
        clear hq CL SN
        go_wp2_with fail
        refine CL'.out.mono ?_
        rintro e w1 ⟨rfl, hb1⟩
        go_wp2
        go_roundw
        case rel => exact ⟨j + 1, by omega, by go_num, hr, hbel.trans (hb1.mono zr)⟩
        case measure => simp [intOf]; omega
    · have ej : j = n := by omega
      have hr : Hid (F.any (ordGe m) = false) := by have := hall.out; rwa [ej, HN.out, List.take_length] at this
      clear ej hall
      go_wp2
      go_ret
      exact ⟨-1, rfl, (show _ = _ by rw [hr.out]; rfl), hbel⟩
set_option maxHeartbeats 400000 in
theorem ordGe_has (v : Value) (F : List (Int × Int)) (m : Int) (c : Nat) (w : World) (h : RowT 0 w v F) (hcc : w.cell? ⟨c, 0, none⟩ = some (.int .i64 m)) (hcl : c < w.heap.size) :
    Calls Tryz.prog 61 #[v, .func (.func 63) #[] #[.pointer (some ⟨c, 0, none⟩)]] w fun e w' => e = .returned (.bool (F.any (ordGe m))) ∧ Below w.heap.size w w' := by
  have I := Lib.hid (ordGe_idx v F m c w h hcc hcl)
  obtain ⟨p, n, cap, rfl⟩ : ∃ p n cap, v = .slice p n cap := by rcases h with ⟨rfl, _⟩ | ⟨g, cap, rfl, _⟩; (· exact ⟨_, _, _, rfl⟩); (· exact ⟨_, _, _, rfl⟩)
  go_enter Tryz.func61, Tryz.ntmps61
  go_wp2_with fail
  refine I.out.mono ?_
  rintro e w1 ⟨r, rfl, hr, hb1⟩
  go_wp2
  go_ret
  exact ⟨by rw [← hr.out]; rfl, hb1⟩
end Go.Proofs.YtcokmiidgdmdlaaGreatDoor

namespace Go.Proofs.YtcokmiidgdmdlaaGreatDoor
open Go.RowKit
set_option linter.unusedSimpArgs false
set_option linter.unusedVariables false

/-- a config's two lists lie in memory -/
structure Cfg (X : List Nat) (w : World) (vP vN : Value) (P : List Int) (N : List (List Int)) : Prop where
  p : RowV X w vP (ints P)
  n : RowR X w vN N
theorem Cfg.below {X : List Nat} {w w' : World} {vP vN : Value} {P : List Int} {N : List (List Int)} (h : Cfg X w vP vN P N) (k : Below w.heap.size w w') : Cfg X w' vP vN P N := ⟨h.p.below k, h.n.below k⟩
def cfgL (vP vN : Value) (mn lw hi : Int) : List Value := [vP, vN, .int .i64 mn, .int .i64 lw, .int .i64 hi]

def farNo (l : List Int) : Bool := l.any noFar
def marksC (mn lw hi : Int) : Bool := decide (0 ≤ mn) && decide (mn ≤ lw) && decide (lw ≤ hi)
def bndC (P : List Int) (N : List (List Int)) (mn lw hi : Int) : Bool := decide (1 ≤ P.length) && decide (P.length ≤ 4) && !(P.any noPg) && !(N.any farNo) && marksC mn lw hi

set_option maxHeartbeats 2000000 in
theorem bounds_any (X : List Nat) (vP vN : Value) (P : List Int) (N : List (List Int)) (mn lw hi : Int) (w : World) (h : Cfg X w vP vN P N) :
    Calls Tryz.prog 69 #[.agg #[vP, vN, .int .i64 mn, .int .i64 lw, .int .i64 hi]] w fun e w' => e = .returned (.bool (bndC P N mn lw hi)) ∧ Below w.heap.size w w' := by
  obtain ⟨p, cap, rfl, hcp, hmx, _⟩ := h.p.int
  unfold maxLen at hmx
  by_cases h1 : P.length < 1
  · have e : bndC P N mn lw hi = false := by unfold bndC; simp; omega
    rw [e]
    have h1' : (P.length : Int) < 1 := by omega
    clear e h h1
    go_enter Tryz.func69, Tryz.ntmps69
    go_wp2
    go_ret
    exact ⟨rfl, (by repeat (first | exact Below.refl _ _ | refine Below.drew ?_ | refine below_drewN ?_ _ | refine Below.trans ?_ (Below.mono (by assumption) (by first | omega | (simp; omega) | (simp; done))) | refine Below.alloc ?_ (by first | omega | (simp; omega) | (simp; done)) _ | refine Below.setCell ?_ (by first | omega | (simp; omega) | (simp; done)) _))⟩
  by_cases h2 : 4 < P.length
  · have e : bndC P N mn lw hi = false := by unfold bndC; simp; omega
    rw [e]
    have h1' : ¬ (P.length : Int) < 1 := by omega
    have h2' : (4 : Int) < (P.length : Int) := by omega
    clear e h h1 h2
    go_enter Tryz.func69, Tryz.ntmps69
    go_wp2
    go_ret
    exact ⟨rfl, (by repeat (first | exact Below.refl _ _ | refine Below.drew ?_ | refine below_drewN ?_ _ | refine Below.trans ?_ (Below.mono (by assumption) (by first | omega | (simp; omega) | (simp; done))) | refine Below.alloc ?_ (by first | omega | (simp; omega) | (simp; done)) _ | refine Below.setCell ?_ (by first | omega | (simp; omega) | (simp; done)) _))⟩
  have h1' : ¬ (P.length : Int) < 1 := by omega
  have h2' : ¬ (4 : Int) < (P.length : Int) := by omega
  have L0 := LocN.new w [.slice p P.length cap, vN, .int .i64 mn, .int .i64 lw, .int .i64 hi] 36
  have hb0 : Below w.heap.size w (w.alloc (.cells [.slice p P.length cap, vN, .int .i64 mn, .int .i64 lw, .int .i64 hi].toArray 36)) := (by repeat (first | exact Below.refl _ _ | refine Below.drew ?_ | refine below_drewN ?_ _ | refine Below.trans ?_ (Below.mono (by assumption) (by first | omega | (simp; omega) | (simp; done))) | refine Below.alloc ?_ (by first | omega | (simp; omega) | (simp; done)) _ | refine Below.setCell ?_ (by first | omega | (simp; omega) | (simp; done)) _))
  have PG := Lib.hid (pg_has X _ P _ (h.p.below hb0))
  have HN := Lib.hid h.n
  have eb : bndC P N mn lw hi = (!(P.any noPg) && !(N.any farNo) && marksC mn lw hi) := by
    unfold bndC
    rw [decide_eq_true (show 1 ≤ P.length by omega), decide_eq_true (show P.length ≤ 4 by omega)]
    rfl
  rw [eb]
  clear eb h h1 h2
  cases hq : P.any noPg with
  | true =>
    rw [hq] at PG
    clear hq
    go_enter Tryz.func69, Tryz.ntmps69
    go_wp2_with fail
    refine PG.out.mono ?_
    rintro e w1 ⟨rfl, hb1⟩
    go_wp2
    go_ret
    exact ⟨rfl, hb0.trans (hb1.mono (by simp))⟩
  | false =>
    rw [hq] at PG
    clear hq
    go_enter Tryz.func69, Tryz.ntmps69
    go_wp2_with fail
    refine PG.out.mono ?_
    rintro e w1 ⟨rfl, hb1⟩
    have L1 := Lib.hid (L0.go hb1)
    have K1 : Below w.heap.size w w1 := hb0.trans (hb1.mono (by simp))
    have RN := HN.out.below K1
    obtain ⟨q, k, rfl, hck, hkm, hc⟩ := RN.form
    unfold maxLen at hkm
    have C := Lib.hid hc
    have l1 := L1.out.c 1 _ rfl
    have ll := L1.out.lt
    obtain ⟨n, hn⟩ : ∃ n, n = N.length := ⟨_, rfl⟩
    rw [← hn] at hck l1 L1 ⊢
    have HL := Lib.hid hn
    clear hn PG L0 RN hc hb0 hb1
    go_wp2_with fail
    go_loopw [23] (fun iv wr => ∃ j : Nat, j ≤ n ∧ iv = .int .i64 j ∧ Hid ((N.take j).any farNo = false) ∧ Below w1.heap.size w1 wr) (fun iv _ => n - (intOf iv).toNat)
    case atStart => exact ⟨0, Nat.zero_le _, by go_num, (show _ = _ by simp), Below.refl _ _⟩
    case round =>
      obtain ⟨j, hj, rfl, hall, hbel⟩ := hrel
      have zr := hbel.size
      have zz := K1.size
      by_cases hjn : j < n
      · obtain ⟨x, hx⟩ : ∃ x, N[j]? = some x := ⟨N[j]'(by rw [← HL.out]; exact hjn), List.getElem?_eq_getElem _⟩
        have hsn := any_snoc (p := farNo) hx
        rw [hall.out, Bool.false_or] at hsn
        have SN := Lib.hid hsn
        clear hsn
        obtain ⟨g, off, u, rfl, _, hg, hc, hu⟩ := C.out j x hx
        have r1 := (hbel.cell (p := ⟨g, off + j, none⟩) hg).trans hc
        have gr : g < wr.heap.size := by omega
        have CL := far_has X u x wr (hu.below hbel)
        obtain ⟨q, k, rfl, _⟩ := hu.int
        clear hc hx
        cases hq : farNo x with
        | true =>
          have hr : Hid (N.any farNo = true) := any_of_take (SN.out.trans hq)
          rw [show x.any noFar = true from hq] at CL
          have CL' := Lib.hid CL
          clear hq CL SN
          go_wp2_with fail
          refine CL'.out.mono ?_
          rintro e w2 ⟨rfl, hb2⟩
          go_wp2
          go_ret
          exact ⟨by rw [hr.out]; simp, K1.trans ((hbel.trans (hb2.mono zr)).mono zz)⟩
        | false =>
          have hr : Hid ((N.take (j + 1)).any farNo = false) := SN.out.trans hq
          rw [show x.any noFar = false from hq] at CL
          have CL' := Lib.hid CL
          clear hq CL SN
          go_wp2_with fail
          refine CL'.out.mono ?_
          rintro e w2 ⟨rfl, hb2⟩
          go_wp2
          go_roundw
          case rel => exact ⟨j + 1, by omega, by go_num, hr, hbel.trans (hb2.mono zr)⟩
          case measure => simp [intOf]; omega
      · have ej : j = n := by omega
        have hr : Hid (N.any farNo = false) := by have := hall.out; rwa [ej, HL.out, List.take_length] at this
        have L2 := L1.out.go hbel
        have m0 := L2.c 2 _ rfl; have m1 := L2.c 3 _ rfl; have m2 := L2.c 4 _ rfl; have ml := L2.lt
        have K2 := Lib.hid (K1.trans (hbel.mono zz))
        clear ej hall L2 L1 C HN
        by_cases a1 : 0 ≤ mn
        · by_cases a2 : mn ≤ lw
          · have fin : Hid (marksC mn lw hi = decide (lw ≤ hi)) := show _ = _ by unfold marksC; simp [a1, a2]
            go_wp2
            go_ret
            exact ⟨by rw [hr.out, fin.out]; simp, K2.out⟩
          · have fin : Hid (marksC mn lw hi = false) := show _ = _ by unfold marksC; simp [a1, a2]
            have a2' : decide (mn ≤ lw) = false := decide_eq_false a2
            go_wp2
            go_ret
            exact ⟨by rw [hr.out, fin.out]; simp, K2.out⟩
        · have fin : Hid (marksC mn lw hi = false) := show _ = _ by unfold marksC; simp [a1]
          have a1' : decide (0 ≤ mn) = false := decide_eq_false a1
          go_wp2
          go_ret
          exact ⟨by rw [hr.out, fin.out]; simp, K2.out⟩

def sqC (P : List Int) (N : List (List Int)) : Bool := decide (N.length = P.length) && !(N.any (lenNe P.length))
/-- node j is not farther from node i (whose row is l) than node i itself -/
def badB (i : Nat) (l : List Int) (j : Nat) : Bool := decide (i ≠ j) && decide (l.getD j 0 ≤ l.getD i 0)
def badRow (i : Nat) (l : List Int) : Bool := (List.range l.length).any (badB i l)
def badAt (N : List (List Int)) (i : Nat) : Bool := badRow i (N.getD i [])
def badC (N : List (List Int)) : Bool := (List.range N.length).any (badAt N)
/-- a config's error, by its number -/
def cfgE (P : List Int) (N : List (List Int)) (mn lw hi : Int) : Nat := if bndC P N mn lw hi = false then 2 else if sqC P N && !badC N then 0 else 3
def codeN (b : Bool) : Nat := if b then 3 else 0
theorem range_snoc (f : Nat → Bool) (j : Nat) : (List.range (j + 1)).any f = ((List.range j).any f || f j) := by rw [List.range_succ, List.any_append]; simp
theorem range_of {f : Nat → Bool} {j n : Nat} (hj : j < n) (h : f j = true) : (List.range n).any f = true := List.any_eq_true.2 ⟨j, List.mem_range.2 hj, h⟩
theorem getD_of {α : Type} {l : List α} {j : Nat} {x d : α} (h : l[j]? = some x) : l.getD j d = x := by rw [List.getD_eq_getElem?_getD, h]; rfl

set_option maxHeartbeats 4000000 in
theorem check_any {B : Nat} {ev : Nat → Addr} (X : List Nat) (vP vN : Value) (P : List Int) (N : List (List Int)) (mn lw hi : Int) (w : World) (hE : ErrC B ev w) (h : Cfg X w vP vN P N) :
    Calls Tryz.prog 21 #[.agg #[vP, vN, .int .i64 mn, .int .i64 lw, .int .i64 hi]] w fun e w' => e = .returned (errV ev (cfgE P N mn lw hi)) ∧ Below w.heap.size w w' := by
  have hB := hE.size
  obtain ⟨p, cap, rfl, hcp, hmx, _⟩ := h.p.int
  obtain ⟨q, k, rfl, hck, hkm, hc⟩ := h.n.form
  have C := Lib.hid hc
  unfold maxLen at hmx hkm
  have L0 := LocN.new w [.slice p P.length cap, .slice q N.length k, .int .i64 mn, .int .i64 lw, .int .i64 hi] 36
  have hb0 : Below w.heap.size w (w.alloc (.cells [.slice p P.length cap, .slice q N.length k, .int .i64 mn, .int .i64 lw, .int .i64 hi].toArray 36)) := (by repeat (first | exact Below.refl _ _ | refine Below.drew ?_ | refine below_drewN ?_ _ | refine Below.trans ?_ (Below.mono (by assumption) (by first | omega | (simp; omega) | (simp; done))) | refine Below.alloc ?_ (by first | omega | (simp; omega) | (simp; done)) _ | refine Below.setCell ?_ (by first | omega | (simp; omega) | (simp; done)) _))
  have BD := Lib.hid (bounds_any X _ _ P N mn lw hi _ (h.below hb0))
  have HH := Lib.hid h
  clear hc h
  cases hq : bndC P N mn lw hi with
  | false =>
    have ce : cfgE P N mn lw hi = 2 := by unfold cfgE; rw [if_pos hq]
    rw [ce]
    rw [hq] at BD
    clear hq ce C
    go_enter Tryz.func21, Tryz.ntmps21
    go_wp2_with fail
    refine BD.out.mono ?_
    rintro e w1 ⟨rfl, hb1⟩
    have hE1 := hE.below ((hb0.trans (hb1.mono (by simp))).mono hB)
    have e1 := hE1.c2; have e2 := hE1.z2
    go_wp2
    go_ret
    exact ⟨rfl, hb0.trans (hb1.mono (by simp))⟩
  | true =>
    rw [hq] at BD
    have ce0 : cfgE P N mn lw hi = if sqC P N && !badC N then 0 else 3 := by unfold cfgE; rw [if_neg (by rw [hq]; simp)]
    rw [ce0]
    have hP4 : P.length ≤ 4 := by
      unfold bndC at hq
      simp at hq
      omega
    clear hq ce0
    by_cases hl : N.length = P.length
    · have hl1 : ((N.length : Int) != (P.length : Int)) = false := bne_eq_false_iff_eq.2 (by omega)
      cases hq : N.any (lenNe P.length) with
      | true =>
        have ce : (if sqC P N && !badC N then 0 else 3) = 3 := by unfold sqC; rw [hq]; simp
        rw [ce]
        clear ce hl
        go_enter Tryz.func21, Tryz.ntmps21
        go_wp2_with fail
        refine BD.out.mono ?_
        rintro e w1 ⟨rfl, hb1⟩
        have K1 : Below w.heap.size w w1 := hb0.trans (hb1.mono (by simp))
        have L1 := L0.go hb1
        have l0 := L1.c 0 _ rfl; have l1 := L1.c 1 _ rfl; have ll := L1.lt
        have z1 := K1.size
        have LQ := lenNe_has X (.slice q N.length k) N P.length w1.heap.size (w1.alloc (.cells #[.int .i64 P.length] 3)) ((HH.out.below K1).n.below (by repeat (first | exact Below.refl _ _ | refine Below.drew ?_ | refine below_drewN ?_ _ | refine Below.trans ?_ (Below.mono (by assumption) (by first | omega | (simp; omega) | (simp; done))) | refine Below.alloc ?_ (by first | omega | (simp; omega) | (simp; done)) _ | refine Below.setCell ?_ (by first | omega | (simp; omega) | (simp; done)) _))) (by rw [World.cell?_alloc_at _ _ _ _ (by simp)]; rfl) (by simp)
        rw [hq] at LQ
        have LQ' := Lib.hid LQ
        clear hq LQ BD L1 L0
        go_wp2_with fail
        refine LQ'.out.mono ?_
        rintro e w2 ⟨rfl, hb2⟩
        have K2 : Below w.heap.size w w2 := Below.trans (K1.alloc z1 _) (hb2.mono (by simp; omega))
        have hE2 := hE.below (K2.mono hB)
        have e1 := hE2.c3; have e2 := hE2.z3
        go_wp2
        go_ret
        exact ⟨rfl, K2⟩
      | false =>
        have ce : (if sqC P N && !badC N then 0 else 3) = codeN (badC N) := by
          unfold sqC; rw [hq, decide_eq_true hl]
          cases badC N <;> rfl
        rw [ce]
        have hsq : Hid (∀ (j : Nat) (l : List Int), N[j]? = some l → l.length = P.length) := fun j l hj => by
          have := List.any_eq_false.1 hq l (List.mem_of_getElem? hj)
          unfold lenNe at this
          simp at this
          omega
        obtain ⟨n, hn⟩ : ∃ n, n = N.length := ⟨_, rfl⟩
        have hn4 : n ≤ 4 := by omega
        have LQh : Hid (∀ w' c, RowR X w' (.slice q n k) N → w'.cell? ⟨c, 0, none⟩ = some (.int .i64 P.length) → c < w'.heap.size → Calls Tryz.prog 70 #[.slice q n k, .func (.func 71) #[] #[.pointer (some ⟨c, 0, none⟩)]] w' fun e w'' => e = .returned (.bool false) ∧ Below w'.heap.size w' w'') := fun w' c r1 r2 r3 => by
          have := lenNe_has X (.slice q n k) N P.length c w' r1 r2 r3
          rwa [hq] at this
        rw [← hn] at hl1 hck HH L0 BD hb0 ⊢
        have HN := Lib.hid hn
        have hln : Hid (n = P.length) := show _ = _ by omega
        clear ce hl hq hn
        go_enter Tryz.func21, Tryz.ntmps21
        go_wp2_with fail
        refine BD.out.mono ?_
        rintro e w1 ⟨rfl, hb1⟩
        have K1 : Below w.heap.size w w1 := hb0.trans (hb1.mono (by simp))
        have L1 := L0.go hb1
        have l0 := L1.c 0 _ rfl; have l1 := L1.c 1 _ rfl; have ll := L1.lt
        have z1 := K1.size
        have LQ := Lib.hid (LQh.out (w1.alloc (.cells #[.int .i64 P.length] 3)) w1.heap.size ((HH.out.below K1).n.below (by repeat (first | exact Below.refl _ _ | refine Below.drew ?_ | refine below_drewN ?_ _ | refine Below.trans ?_ (Below.mono (by assumption) (by first | omega | (simp; omega) | (simp; done))) | refine Below.alloc ?_ (by first | omega | (simp; omega) | (simp; done)) _ | refine Below.setCell ?_ (by first | omega | (simp; omega) | (simp; done)) _))) (by rw [World.cell?_alloc_at _ _ _ _ (by simp)]; rfl) (by simp))
        have HL1 := Lib.hid L1
        clear LQh BD L0 L1
        go_wp2_with fail
        refine LQ.out.mono ?_
        rintro e w2 ⟨rfl, hb2⟩
        have K2 : Below w.heap.size w w2 := Below.trans (K1.alloc z1 _) (hb2.mono (by simp; omega))
        have hE2 := hE.below (K2.mono hB)
        have e1 := hE2.c3; have e2 := hE2.z3
        have L2 := (HL1.out.below (w' := w2) (n := w1.heap.size) (Below.trans (by repeat (first | exact Below.refl _ _ | refine Below.drew ?_ | refine below_drewN ?_ _ | refine Below.trans ?_ (Below.mono (by assumption) (by first | omega | (simp; omega) | (simp; done))) | refine Below.alloc ?_ (by first | omega | (simp; omega) | (simp; done)) _ | refine Below.setCell ?_ (by first | omega | (simp; omega) | (simp; done)) _)) (hb2.mono (by simp))) HL1.out.lt)
        have m1 := L2.c 1 _ rfl; have ml := L2.lt
        have z2 := K2.size
        clear LQ HL1 L2 l0 l1 ll
        go_wp2_with fail
        go_loop [30] (fun iv => ∃ i : Nat, i ≤ n ∧ iv = .int .i64 i ∧ Hid ((List.range i).any (badAt N) = false)) (fun iv => n - (intOf iv).toNat)
        case atStart => exact ⟨0, Nat.zero_le _, by go_num, (show _ = _ by simp)⟩
        case round =>
          obtain ⟨i, hi, rfl, hall⟩ := hrel
          by_cases hin : i < n
          · obtain ⟨l, hx⟩ : ∃ x, N[i]? = some x := ⟨N[i]'(by rw [← HN.out]; exact hin), List.getElem?_eq_getElem _⟩
            have hsn := range_snoc (badAt N) i
            rw [hall.out, Bool.false_or] at hsn
            have hbr : badAt N i = badRow i l := by unfold badAt; rw [getD_of hx]
            rw [hbr] at hsn
            have SN := Lib.hid hsn; have BR := Lib.hid hbr
            obtain ⟨g, off, u, rfl, _, hg, hc, hu⟩ := C.out i l hx
            have r1 := (K2.cell (p := ⟨g, off + i, none⟩) hg).trans hc
            have gr : g < w2.heap.size := by omega
            have hll := hsq.out i l hx
            rw [← hln.out] at hll
            obtain ⟨q', k', rfl, hk1, hk2, hcl⟩ := hu.int
            rw [hll] at hk1
            unfold maxLen at hk2
            have CL := Lib.hid hcl
            have HLL := Lib.hid hll
            obtain ⟨vi, hvi⟩ : ∃ x, l[i]? = some x := ⟨l[i]'(by rw [hll]; exact hin), List.getElem?_eq_getElem _⟩
            obtain ⟨g', off', rfl, _, hg', hci⟩ := CL.out i vi hvi
            have r2 := (K2.cell (p := ⟨g', off' + i, none⟩) hg').trans hci
            have gr' : g' < w2.heap.size := by omega
            have HVI := Lib.hid (getD_of (d := (0 : Int)) hvi)
            rw [hll] at r1
            clear hc hx hu hcl hci hvi hll hsn hbr
            go_wp2_with fail
            go_loop [37] (fun jv => ∃ j : Nat, j ≤ n ∧ jv = .int .i64 j ∧ Hid ((List.range j).any (badB i l) = false)) (fun jv => n - (intOf jv).toNat)
            case atStart => exact ⟨0, Nat.zero_le _, by go_num, (show _ = _ by simp)⟩
            case round =>
              obtain ⟨j, hj, rfl, hal2⟩ := hrel
              by_cases hjn : j < n
              · obtain ⟨vj, hvj⟩ : ∃ x, l[j]? = some x := ⟨l[j]'(by rw [HLL.out]; exact hjn), List.getElem?_eq_getElem _⟩
                obtain ⟨g2, off2, e2', _, hg2, hcj⟩ := CL.out j vj hvj
                have : g2 = g' ∧ off2 = off' := by injection e2' with e2'; injection e2' with a b; exact ⟨a.symm, b.symm⟩
                obtain ⟨rfl, rfl⟩ := this
                have r3 := (K2.cell (p := ⟨g2, off2 + j, none⟩) hg2).trans hcj
                have hsn := range_snoc (badB i l) j
                rw [hal2.out, Bool.false_or] at hsn
                have ebj : badB i l j = (decide (i ≠ j) && decide (vj ≤ vi)) := by unfold badB; rw [getD_of hvj, HVI.out]
                rw [ebj] at hsn
                have SJ := Lib.hid hsn
                have EBJ := Lib.hid ebj
                clear hvj hcj e2' hsn ebj
                by_cases eij : i = j
                · have d1 : ((i : Int) != (j : Int)) = false := bne_eq_false_iff_eq.2 (by omega)
                  have hr : Hid ((List.range (j + 1)).any (badB i l) = false) := by have := SJ.out; rwa [decide_eq_false (by simpa using eij), Bool.false_and] at this
                  clear eij
                  go_wp2
                  go_round
                  case rel => exact ⟨j + 1, by omega, by go_num, hr⟩
                  case measure => simp [intOf]; omega
                · have d1 : ((i : Int) != (j : Int)) = true := bne_iff_ne.2 (by omega)
                  by_cases hv : vj ≤ vi
                  · have hbad : Hid (badC N = true) := range_of (j := i) (by rw [← HN.out]; omega) (BR.out.trans (range_of (j := j) (by rw [HLL.out]; exact hjn) (EBJ.out.trans (by simp [eij, hv]))))
                    clear eij
                    go_wp2
                    go_ret
                    exact ⟨by rw [hbad.out]; rfl, K2⟩
                  · have hr : Hid ((List.range (j + 1)).any (badB i l) = false) := by have := SJ.out; rwa [decide_eq_false hv, Bool.and_false] at this
                    have hv' : decide (vj ≤ vi) = false := decide_eq_false hv
                    clear eij
                    go_wp2
                    go_round
                    case rel => exact ⟨j + 1, by omega, by go_num, hr⟩
                    case measure => simp [intOf]; omega
              · have ej : j = n := by omega
                have hr : Hid ((List.range (i + 1)).any (badAt N) = false) := by
                  have := hal2.out
                  rw [ej, ← HLL.out] at this
                  exact SN.out.trans this
                clear ej
                go_wp2
                go_round
                case rel => exact ⟨i + 1, by omega, by go_num, hr⟩
                case measure => simp [intOf]; omega
          · have ei : i = n := by omega
            have hr : Hid (badC N = false) := by have := hall.out; rw [ei, HN.out] at this; exact this
            clear ei
            go_wp2
            go_ret
            exact ⟨by rw [hr.out]; rfl, K2⟩
    · have hl1 : ((N.length : Int) != (P.length : Int)) = true := bne_iff_ne.2 (by omega)
      have ce : (if sqC P N && !badC N then 0 else 3) = 3 := by unfold sqC; rw [decide_eq_false hl]; simp
      rw [ce]
      clear ce hl
      go_enter Tryz.func21, Tryz.ntmps21
      go_wp2_with fail
      refine BD.out.mono ?_
      rintro e w1 ⟨rfl, hb1⟩
      have K1 : Below w.heap.size w w1 := hb0.trans (hb1.mono (by simp))
      have L1 := L0.go hb1
      have l0 := L1.c 0 _ rfl; have l1 := L1.c 1 _ rfl; have ll := L1.lt
      have z1 := K1.size
      have hE2 := hE.below (K1.mono hB)
      have e1 := hE2.c3; have e2 := hE2.z3
      clear BD L1 L0
      go_wp2
      go_ret
      exact ⟨rfl, K1.alloc z1 _⟩
end Go.Proofs.YtcokmiidgdmdlaaGreatDoor

namespace Go.Proofs.YtcokmiidgdmdlaaGreatDoor
open Go.RowKit
set_option linter.unusedSimpArgs false
set_option linter.unusedVariables false

def keyL (l : List Int) (x : Int) : Int := l.getD x.toNat 0
def lexL (l : List Int) (x y : Int) : Prop := keyL l x < keyL l y ∨ (keyL l x = keyL l y ∧ x < y)
/-- S: the numbers below i, by their keys, as great ones by number -/
structure OrdTo (l : List Int) (i : Nat) (S : List Int) : Prop where
  pw : S.Pairwise (lexL l)
  mem : ∀ x : Int, x ∈ S ↔ 0 ≤ x ∧ x < i
  len : S.length = i
theorem OrdTo.one (l : List Int) : OrdTo l 1 [0] := ⟨by simp, fun x => by simp; omega, rfl⟩
theorem OrdTo.ins {l : List Int} {i : Nat} {A C : List Int} (h : OrdTo l i (A ++ C)) (ha : ∀ a ∈ A, keyL l a ≤ keyL l i) (hc : ∀ c ∈ C, keyL l i < keyL l c) : OrdTo l (i + 1) (A ++ (i : Int) :: C) := by
  obtain ⟨p1, p2, p3⟩ := List.pairwise_append.1 h.pw
  refine ⟨List.pairwise_append.2 ⟨p1, List.pairwise_cons.2 ⟨fun c hcc => .inl (hc c hcc), p2⟩, fun a haa x hx => ?_⟩, fun x => ?_, ?_⟩
  · rcases List.mem_cons.1 hx with rfl | hx
    · have h1 := ha a haa
      have h2 := (h.mem a).1 (List.mem_append_left _ haa)
      rcases Int.lt_or_eq_of_le h1 with q | q
      · exact .inl q
      · exact .inr ⟨q, h2.2⟩
    · exact p3 a haa x hx
  · have := h.mem x
    simp only [List.mem_append, List.mem_cons] at this ⊢
    constructor
    · rintro (q | rfl | q)
      · have := this.1 (.inl q); omega
      · omega
      · have := this.1 (.inr q); omega
    · rintro ⟨q1, q2⟩
      by_cases e : x = (i : Int)
      · exact .inr (.inl e)
      · rcases this.2 ⟨q1, by omega⟩ with q | q
        · exact .inl q
        · exact .inr (.inr q)
  · have := h.len
    simp at this ⊢
    omega
theorem ord_last {l : List Int} {i : Nat} {A C : List Int} {y : Int} (h : OrdTo l i ((A ++ [y]) ++ C)) (hy : keyL l y ≤ keyL l i) : ∀ a ∈ A ++ [y], keyL l a ≤ keyL l i := by
  intro a ha
  rcases List.mem_append.1 ha with q | q
  · have p := (List.pairwise_append.1 (List.pairwise_append.1 h.pw).1).2.2 a q y (by simp)
    rcases p with p | p <;> omega
  · simp at q; subst q; exact hy
def restN (n i : Nat) : List Int := (List.range' i (n - i)).map fun (j : Nat) => (j : Int)
theorem restN_cons {n i : Nat} (h : i < n) : restN n i = (i : Int) :: restN n (i + 1) := by
  unfold restN
  obtain ⟨d, hd⟩ : ∃ d, n - i = d + 1 := ⟨n - i - 1, by omega⟩
  rw [hd, show n - (i + 1) = d by omega, List.range'_succ]
  rfl
theorem restN_nil (n : Nat) : restN n n = [] := by unfold restN; simp
theorem restN_length (n i : Nat) : (restN n i).length = n - i := by unfold restN; simp
theorem snoc_of {A : List Int} {j : Nat} (h : A.length = j + 1) : ∃ A' y, A = A' ++ [y] ∧ A'.length = j := by
  have hne : A ≠ [] := by intro e; rw [e] at h; simp at h
  refine ⟨A.dropLast, A.getLast hne, (List.dropLast_concat_getLast hne).symm, by simp [h]⟩
/-- what the comparison reads: a config's box, the node's box, the node's row of distances -/
structure KeyBox (w : World) (bc bn : Nat) (l : List Int) (G : List Nat) : Prop where
  at_ : ∃ (gN oN m k v gl ol kl : Nat), w.cell? ⟨bc, 1, none⟩ = some (.slice (some ⟨gN, oN, none⟩) m k) ∧ w.cell? ⟨bn, 0, none⟩ = some (.int .i64 v) ∧ v < m ∧ w.cell? ⟨gN, oN + v, none⟩ = some (.slice (some ⟨gl, ol, none⟩) l.length kl) ∧
    (∀ (j : Nat) (x : Int), l[j]? = some x → w.cell? ⟨gl, ol + j, none⟩ = some (.int .i64 x)) ∧ bc < w.heap.size ∧ bn < w.heap.size ∧ gN < w.heap.size ∧ gl < w.heap.size ∧ bc ∉ G ∧ bn ∉ G ∧ gN ∉ G ∧ gl ∉ G ∧ m ≤ maxLen ∧ l.length ≤ maxLen
theorem KeyBox.keep {S G : List Nat} {w w' : World} {bc bn : Nat} {l : List Int} (h : KeyBox w bc bn l G) (k : Keep S w w') (hs : ∀ s ∈ S, s ∈ G ∨ w.heap.size ≤ s) : KeyBox w' bc bn l G := by
  obtain ⟨gN, oN, m, kk, v, gl, ol, kl, h1, h2, h3, h4, h5, l1, l2, l3, l4, n1, n2, n3, n4, m1⟩ := h.at_
  have ns : ∀ g, g < w.heap.size → g ∉ G → g ∉ S := fun g hg hn q => by rcases hs g q with r | r; (· exact hn r); (· omega)
  have z := k.size
  exact ⟨gN, oN, m, kk, v, gl, ol, kl, (k.cell l1 (ns _ l1 n1)).trans h1, (k.cell l2 (ns _ l2 n2)).trans h2, h3, (k.cell l3 (ns _ l3 n3)).trans h4, fun j x hj => (k.cell l4 (ns _ l4 n4)).trans (h5 j x hj), by omega, by omega, by omega, by omega, n1, n2, n3, n4, m1⟩
theorem KeyBox.below {G : List Nat} {w w' : World} {bc bn : Nat} {l : List Int} (h : KeyBox w bc bn l G) (k : Below w.heap.size w w') : KeyBox w' bc bn l G := h.keep (Keep.of (S := []) k) (fun _ q => by cases q)

set_option maxHeartbeats 2000000 in
theorem order1_any (x y : Nat) (bc bn : Nat) (l : List Int) (G : List Nat) (w : World) (h : KeyBox w bc bn l G) (hx : x < l.length) (hy : y < l.length) :
    Calls Tryz.prog 67 #[.int .i64 x, .int .i64 y, .pointer (some ⟨bc, 0, none⟩), .pointer (some ⟨bn, 0, none⟩)] w fun e w' => e = .returned (.int .i64 (cmpI (keyL l x) (keyL l y))) ∧ Below w.heap.size w w' := by
  obtain ⟨gN, oN, m, kk, v, gl, ol, kl, h1, h2, h3, h4, h5, l1, l2, l3, l4, n1, n2, n3, n4, m1, m2⟩ := h.at_
  unfold maxLen at m1 m2
  have c1 := h5 x _ (List.getElem?_eq_getElem hx)
  have c2 := h5 y _ (List.getElem?_eq_getElem hy)
  have e1 : l[x] = keyL l x := by unfold keyL; simp [hx]
  have e2 : l[y] = keyL l y := by unfold keyL; simp [hy]
  rw [e1] at c1
  rw [e2] at c2
  clear h5 e1 e2 h
  have v0 : (0 : Int) ≤ v := by omega
  have v1 : (v : Int) < m := by omega
  have x0 : (0 : Int) ≤ x := by omega
  have x1 : (x : Int) < l.length := by omega
  have y0 : (0 : Int) ≤ y := by omega
  have y1 : (y : Int) < l.length := by omega
  go_enter Tryz.func67, Tryz.ntmps67
  go_wp2_with fail
  go_quiet ((go_at_call 68; exact Calls.quiet_of_same ((compare_int _ _ _).mono fun e w' ⟨a, b⟩ => ⟨a, b.symm⟩)))
  go_wp2
  go_ret
  exact ⟨rfl, below_drewN (Below.refl _ _) _⟩

theorem swap_list (A R : List Int) (y x : Int) (k : Nat) (hk : A.length = k) : ((ints (A ++ y :: x :: R)).set (k + 1) (.int .i64 y)).set k (.int .i64 x) = ints (A ++ x :: y :: R) := by
  subst hk
  unfold ints
  simp [List.set_append]
theorem ints_at {A R : List Int} {x : Int} {k : Nat} (hk : A.length = k) : (ints (A ++ x :: R))[k]? = some (.int .i64 x) := ints_get (by subst hk; simp)
def ordF (bc bn : Nat) : Value := .func (.func 67) #[] #[.pointer (some ⟨bc, 0, none⟩), .pointer (some ⟨bn, 0, none⟩)]
theorem LocN.drew {w : World} {b : Nat} {us : List Value} (h : LocN w b us) : LocN w.drew b us := h.keep ((Keep.refl [] _).drew) (by simp)

set_option maxHeartbeats 4000000 in
set_option maxRecDepth 100000 in
theorem insert_ok (bc bn g cap : Nat) (l : List Int) (n : Nat) (w : World) (h : KeyBox w bc bn l [g]) (hl : l.length = n) (n1 : 1 ≤ n) (n4 : n ≤ 4) (hcap : n ≤ cap) (hD : LocN w g (ints (restN n 0))) :
    Calls Tryz.prog 154 #[.slice (some ⟨g, 0, none⟩) n cap, .int .i64 0, .int .i64 n, ordF bc bn] w fun e w' => ∃ D, e = .returned (.tuple #[]) ∧ OrdTo l n D ∧ LocN w' g (ints D) ∧ Keep [g] w w' := by
  have HK := Lib.hid h; have HD := Lib.hid hD; have HL := Lib.hid hl
  clear h hD hl
  unfold ordF
  go_enter Tryz.func154, Tryz.ntmps154
  go_wp2_with fail
  go_loopw [8] (fun iv wr => ∃ (i : Nat) (S : List Int), 1 ≤ i ∧ i ≤ n ∧ iv = .int .i64 i ∧ Hid (OrdTo l i S) ∧ Hid (LocN wr g (ints (S ++ restN n i))) ∧ Keep [g] w wr) (fun iv _ => n - (intOf iv).toNat)
  case atStart => exact ⟨1, [0], Nat.le_refl _, n1, by go_num, OrdTo.one l, (show LocN _ _ _ by have := HD.out; rwa [restN_cons (by omega)] at this), Keep.refl _ _⟩
  case round =>
    obtain ⟨i, S, i1, i2, rfl, OS, LS, hk⟩ := hrel
    by_cases hin : i < n
    · have LS2 : Hid (LocN wr g (ints (S ++ (i : Int) :: ([] ++ restN n (i + 1))))) := by
        have := LS.out
        rwa [restN_cons hin] at this
      clear LS HD
      obtain ⟨wo, rfl⟩ : ∃ wo : World, wo = wr := ⟨_, rfl⟩
      go_wp2_with fail
      go_loopw [9] (fun jv wq => ∃ (j : Nat) (A C : List Int), j ≤ i ∧ jv = .int .i64 j ∧ Hid (A.length = j) ∧ Hid (OrdTo l i (A ++ C)) ∧ Hid (∀ c ∈ C, keyL l i < keyL l c) ∧ Hid (LocN wq g (ints (A ++ (i : Int) :: (C ++ restN n (i + 1))))) ∧ Keep [g] w wq) (fun jv _ => (intOf jv).toNat)
      case atStart => exact ⟨i, S, [], Nat.le_refl _, rfl, OS.out.len, (show OrdTo _ _ _ by rw [List.append_nil]; exact OS.out), (fun c hc => by simp at hc), LS2, hk⟩
      case round =>
        clear LS2 OS hk
        obtain ⟨j, A, C, hji, rfl, hA, OS, hC, LS, hk⟩ := hrel
        have zr := hk.size
        have lg := LS.out.lt
        rcases j with _ | k
        · have hAn : A = [] := List.length_eq_zero_iff.1 hA.out
          have OS2 : Hid (OrdTo l (i + 1) (([] : List Int) ++ (i : Int) :: C)) := OrdTo.ins (by rw [hAn] at OS; exact OS.out) (fun a ha => by simp at ha) hC.out
          have LS3 : Hid (∀ w', Keep [] wr w' → LocN w' g (ints ((([] : List Int) ++ (i : Int) :: C) ++ restN n (i + 1)))) := fun w' k => by
            have := LS.out
            rw [hAn] at this
            simpa using this.keep k (by simp)
          clear hAn OS LS hC
          go_wp2_with fail
          go_quiet (fail)
          go_wp2
          go_roundw
          case rel => exact ⟨i + 1, _, by omega, by omega, by go_num, OS2, LS3.out _ ((Keep.refl [] _).drewN _), (hk.then ((Keep.refl _ _).drewN _))⟩
          case measure => simp [intOf]; omega
        · obtain ⟨A', y, rfl, hA'⟩ := snoc_of hA.out
          have my := (OS.out.mem y).1 (by simp)
          obtain ⟨yn, rfl⟩ : ∃ yn : Nat, y = yn := ⟨y.toNat, by omega⟩
          have OC : Hid (∀ w', Below wr.heap.size wr w' → Calls Tryz.prog 67 #[.int .i64 i, .int .i64 yn, .pointer (some ⟨bc, 0, none⟩), .pointer (some ⟨bn, 0, none⟩)] w' fun e w'' => e = .returned (.int .i64 (cmpI (keyL l i) (keyL l yn))) ∧ Below w'.heap.size w' w'') := fun w' hb => order1_any i yn bc bn l [g] w' ((HK.out.keep hk (fun s hs => .inl hs)).below hb) (by rw [HL.out]; omega) (by rw [HL.out]; omega)
          have ca : wr.cell? ⟨g, k + 1, none⟩ = some (.int .i64 i) := LS.out.c _ _ (ints_at hA.out)
          have cb : wr.cell? ⟨g, k, none⟩ = some (.int .i64 yn) := by
            have := LS.out.c k (.int .i64 yn) (by
              rw [List.append_assoc]
              exact ints_at hA')
            exact this
          have t1 : (0 : Int) ≤ ((k + 1 : Nat) : Int) := by omega
          have t2 : ((k + 1 : Nat) : Int) < n := by omega
          have t3 : ((k + 1 : Nat) : Int) - 1 = k := by omega
          by_cases hlt : keyL l i < keyL l yn
          · have hcm : cmpI (keyL l i) (keyL l yn) = -1 := by unfold cmpI; rw [if_pos hlt]
            rw [hcm] at OC
            have HLT := Lib.hid hlt
            clear hcm hlt
            go_wp2_with fail
            refine wp_region_behind (by kernel_rfl) (by kernel_rfl) ?_
            repeat (go_big_quiet_step ((go_at_call 67; exact Calls.behind (OC.out _ (Behind.h _)))))
            refine wpQuiet_nil ?_
            intro w4 hw'
            have hb4 := behind_out hw'
            clear hw'
            have z4 := hb4.size; try simp at z4
            have L4 := LS.out.go hb4
            have d1 := L4.c _ _ (ints_at hA.out)
            have d2 : w4.cell? ⟨g, k, none⟩ = some (.int .i64 yn) := L4.c k (.int .i64 yn) (by rw [List.append_assoc]; exact ints_at hA')
            have d3 := L4.lt
            have d4 : w4.frozen? ⟨g, k + 1, none⟩ = false := L4.f _ (by rw [ints_length]; have := hA.out; simp at this ⊢; omega)
            have d5 : w4.frozen? ⟨g, k, none⟩ = false := L4.f _ (by rw [ints_length]; have := hA.out; simp at this ⊢; omega)
            have L5 : Hid (LocN ((w4.setCell ⟨g, k + 1, none⟩ (.int .i64 yn)).setCell ⟨g, k, none⟩ (.int .i64 i)).drew g (ints (A' ++ (i : Int) :: (((yn : Int) :: C) ++ restN n (i + 1))))) := by
              have := (L4.store (k + 1) (.int .i64 yn) (by rw [ints_length]; have := hA.out; simp at this ⊢; omega)).store k (.int .i64 i) (by rw [List.length_set, ints_length]; have := hA.out; simp at this ⊢; omega)
              rw [List.append_assoc, List.singleton_append, swap_list A' _ _ _ k hA'] at this
              exact this.drew
            have HB4 := Lib.hid hb4
            have k5 : Keep [g] w ((w4.setCell ⟨g, k + 1, none⟩ (.int .i64 yn)).setCell ⟨g, k, none⟩ (.int .i64 i)).drew := (((hk.step hb4).setCell (.inl (by simp)) _).setCell (.inl (by simp)) _).drew
            have OS2 : Hid (OrdTo l i (A' ++ ((yn : Int) :: C))) := by have := OS.out; rwa [List.append_assoc, List.singleton_append] at this
            have hC2 : Hid (∀ c ∈ ((yn : Int) :: C), keyL l i < keyL l c) := fun c hc => by
              rcases List.mem_cons.1 hc with rfl | hc
              · exact HLT.out
              · exact hC.out c hc
            clear L4 ca cb hb4
            go_wp2
            go_region
            all_goals
              go_wp2
              go_roundw
              case rel => exact ⟨k, A', _, by omega, by first | rfl | go_num, hA', OS2, hC2, L5, k5⟩
              case measure => simp [intOf]
          · obtain ⟨r, hr0, hcm⟩ : ∃ r : Int, 0 ≤ r ∧ cmpI (keyL l i) (keyL l yn) = r := ⟨cmpI (keyL l i) (keyL l yn), by unfold cmpI; rw [if_neg hlt]; split <;> omega, rfl⟩
            rw [hcm] at OC
            have hrz : ¬ r < 0 := by omega
            have hOa := ord_last OS.out (by omega)
            have OS2 : Hid (OrdTo l (i + 1) ((A' ++ [(yn : Int)]) ++ (i : Int) :: C)) := OS.out.ins hOa hC.out
            have LS3 : Hid (∀ w', Keep [] wr w' → LocN w' g (ints (((A' ++ [(yn : Int)]) ++ (i : Int) :: C) ++ restN n (i + 1)))) := fun w' k => by
              have := LS.out
              simpa using this.keep k (by simp)
            clear hcm hlt hOa
            go_wp2_with fail
            refine wp_region_behind (by kernel_rfl) (by kernel_rfl) ?_
            repeat (go_big_quiet_step ((go_at_call 67; exact Calls.behind (OC.out _ (Behind.h _)))))
            refine wpQuiet_nil ?_
            intro w4 hw'
            have hb4 := behind_out hw'
            clear hw'
            have z4 := hb4.size; try simp at z4
            have L6 := Lib.hid (LS3.out w4 (Keep.of hb4))
            have k6 : Keep [g] w w4 := hk.step hb4
            clear hb4 LS3
            go_wp2
            go_roundw
            case rel => exact ⟨i + 1, _, by omega, by omega, by go_num, OS2, L6, k6⟩
            case measure => simp [intOf]; omega
    · have ei : i = n := by omega
      subst ei
      go_wp2
      go_end0
      exact ⟨S, rfl, OS.out, (by have := LS.out; rwa [restN_nil, List.append_nil] at this), hk⟩

set_option maxHeartbeats 1000000 in
theorem stable_ok (bc bn g cap : Nat) (l : List Int) (n : Nat) (w : World) (h : KeyBox w bc bn l [g]) (hl : l.length = n) (n1 : 1 ≤ n) (n4 : n ≤ 4) (hcap : n ≤ cap) (hD : LocN w g (ints (restN n 0))) :
    Calls Tryz.prog 117 #[.slice (some ⟨g, 0, none⟩) n cap, .int .i64 n, ordF bc bn] w fun e w' => ∃ D, e = .returned (.tuple #[]) ∧ OrdTo l n D ∧ LocN w' g (ints D) ∧ Keep [g] w w' := by
  have I := Lib.hid (insert_ok bc bn g cap l n w h hl n1 n4 hcap hD)
  clear h hD hl
  have a1 : ¬ (20 : Int) ≤ (n : Int) := by omega
  have a2 : ¬ (20 : Int) < (n : Int) := by omega
  unfold ordF at *
  go_enter Tryz.func117, Tryz.ntmps117
  go_wp2_with fail
  go_loop [7, 8] (fun a b => a = .int .i64 0 ∧ b = .int .i64 20) (fun _ _ => 0)
  case atStart => exact ⟨rfl, rfl⟩
  case round =>
    obtain ⟨rfl, rfl⟩ := hrel
    go_wp2_with fail
    refine I.out.mono ?_
    rintro e w1 ⟨D, rfl, hO, hL, hk⟩
    have HO := Lib.hid hO; have HL := Lib.hid hL
    clear hO hL I
    go_wp2_with fail
    go_loop [6] (fun a => a = .int .i64 20) (fun _ => 0)
    case atStart => exact rfl
    case round =>
      subst hrel
      go_wp2
      go_end0
      first | exact ⟨rfl, D, HO.out, HL.out, hk⟩ | exact ⟨D, rfl, HO.out, HL.out, hk⟩

set_option maxHeartbeats 1000000 in
theorem sortStable_ok (bc bn g cap : Nat) (l : List Int) (n : Nat) (w : World) (h : KeyBox w bc bn l [g]) (hl : l.length = n) (n1 : 1 ≤ n) (n4 : n ≤ 4) (hcap : n ≤ cap) (hD : LocN w g (ints (restN n 0))) :
    Calls Tryz.prog 66 #[.slice (some ⟨g, 0, none⟩) n cap, ordF bc bn] w fun e w' => ∃ D, e = .returned (.tuple #[]) ∧ OrdTo l n D ∧ LocN w' g (ints D) ∧ Keep [g] w w' := by
  have I := Lib.hid (stable_ok bc bn g cap l n w h hl n1 n4 hcap hD)
  clear h hD hl
  unfold ordF at *
  go_enter Tryz.func66, Tryz.ntmps66
  go_wp2_with fail
  refine I.out.mono ?_
  rintro e w1 ⟨D, rfl, hO, hL, hk⟩
  have HO := Lib.hid hO; have HL := Lib.hid hL
  clear hO hL I
  go_wp2
  go_end0
  first | exact ⟨rfl, D, HO.out, HL.out, hk⟩ | exact ⟨D, rfl, HO.out, HL.out, hk⟩
end Go.Proofs.YtcokmiidgdmdlaaGreatDoor

namespace Go.Proofs.YtcokmiidgdmdlaaGreatDoor
open Go.RowKit
set_option linter.unusedSimpArgs false
set_option linter.unusedVariables false

theorem elInt : El 22 3 (.int .i64 0) 8 := ⟨Tryz.underlying22, by kernel_rfl, rfl, by omega⟩
theorem elRow : El 23 22 (.slice none 0 0) 24 := ⟨Tryz.underlying23, by kernel_rfl, rfl, by omega⟩
/-- rows that have been collected so far -/
def RowsTo (X : List Nat) (w : World) (us : List Value) (N : List (List Int)) : Prop := ∀ (j : Nat) (u : Value) (xs : List Int), us[j]? = some u → N[j]? = some xs → RowV X w u (ints xs)

end Go.Proofs.YtcokmiidgdmdlaaGreatDoor

namespace Go.Proofs.YtcokmiidgdmdlaaGreatDoor
open Go.RowKit
set_option linter.unusedSimpArgs false
set_option linter.unusedVariables false

theorem restN_snoc (i : Nat) : restN (i + 1) 0 = restN i 0 ++ [(i : Int)] := by
  unfold restN
  simp [List.range'_concat]
theorem own_loc {w : World} {B : Nat} {E : TypeId} {g n cap : Nat} {us : List Value} (h : w.ownsRow B E 1 (.slice (some ⟨g, 0, none⟩) n cap) n us) : LocN w g us := by
  have hl := h.1
  refine ⟨(h.lt g rfl).2, fun j u hj => ?_, fun j hj => h.frozenAt j⟩
  have := (List.getElem?_eq_some_iff.1 hj).1
  rw [h.cellAt j (by omega)]; exact hj
theorem loc_row {X : List Nat} {w : World} {g cap : Nat} {us : List Value} (h : LocN w g us) (hg : g ∉ X) (hc : us.length ≤ cap) (hm : cap ≤ maxLen) : RowV X w (.slice (some ⟨g, 0, none⟩) us.length cap) us :=
  ⟨_, cap, rfl, hc, hm, fun j u hj => ⟨g, 0, rfl, hg, h.lt, by rw [Nat.zero_add]; exact h.c j u hj⟩⟩
theorem own_form {w : World} {B : Nat} {E : TypeId} {s : Nat} {q : Option Addr} {n k : Nat} {us : List Value} (h : w.ownsRow B E s (.slice q n k) n us) (hn : 0 < n) : ∃ g, q = some ⟨g, 0, none⟩ ∧ B ≤ g ∧ n ≤ k ∧ k ≤ maxLen := by
  rcases h.2 with ⟨_, h3⟩ | ⟨g, cap, cur, e, hg, _, h4, h5, _⟩
  · omega
  · injection e with e1 e2 e3
    subst e3
    exact ⟨g, e1, hg, h4, h5⟩

/-- what Order comes to -/
def OrdPost (X : List Nat) (l : List Int) (n : Nat) (w : World) (e : Ending) (w' : World) : Prop :=
  ∃ (g cap : Nat) (D : List Int), e = .returned (.tuple #[.slice (some ⟨g, 0, none⟩) n cap, .nilIface]) ∧ OrdTo l n D ∧ LocN w' g (ints D) ∧ w.heap.size ≤ g ∧ n ≤ cap ∧ cap ≤ maxLen ∧ Below w.heap.size w w'

set_option maxHeartbeats 4000000 in
set_option maxRecDepth 100000 in
theorem order_ok {B : Nat} {ev : Nat → Addr} (X : List Nat) (vP vN : Value) (P : List Int) (N : List (List Int)) (mn lw hi : Int) (v : Nat) (l : List Int) (w : World) (hE : ErrC B ev w) (h : Cfg X w vP vN P N) (hc : cfgE P N mn lw hi = 0) (hv : N[v]? = some l) (hl : l.length = P.length) (hN : N.length = P.length) (hp : P.length ≤ 4) :
    Calls Tryz.prog 20 #[.agg #[vP, vN, .int .i64 mn, .int .i64 lw, .int .i64 hi], .int .i64 v] w (OrdPost X l P.length w) := by
  have hB := hE.size
  have hvn : v < P.length := by rw [← hN]; exact (List.getElem?_eq_some_iff.1 hv).1
  obtain ⟨p, cap, rfl, hcp, hmx, _⟩ := h.p.int
  obtain ⟨q, k, rfl, hck, hkm, hcn⟩ := h.n.form
  have hcn := Lib.hid hcn
  obtain ⟨gN, oN, u, rfl, _, hgN, hcu, hu⟩ := hcn.out v l hv
  obtain ⟨pl, kl, rfl, hkl, hml, hcl⟩ := hu.int
  have hl0 := hcl 0 _ (List.getElem?_eq_getElem (by omega))
  obtain ⟨gl, ol, rfl, _, hgl, hd0⟩ := hl0
  clear hd0
  have hrow : Hid (∀ (j : Nat) (x : Int), l[j]? = some x → w.cell? ⟨gl, ol + j, none⟩ = some (.int .i64 x)) := fun j x hj => by
    obtain ⟨g2, o2, e, _, _, hc2⟩ := hcl j x hj
    injection e with e; injection e with e1 e2
    subst e1 e2
    exact hc2
  have L0 : LocN ((w.alloc (.cells [.slice p P.length cap, .slice (some ⟨gN, oN, none⟩) N.length k, .int .i64 mn, .int .i64 lw, .int .i64 hi].toArray 36)).alloc (.cells #[.int .i64 v] 3)) w.heap.size [.slice p P.length cap, .slice (some ⟨gN, oN, none⟩) N.length k, .int .i64 mn, .int .i64 lw, .int .i64 hi] := (LocN.new w [.slice p P.length cap, .slice (some ⟨gN, oN, none⟩) N.length k, .int .i64 mn, .int .i64 lw, .int .i64 hi] 36).go (w' := (w.alloc (.cells [.slice p P.length cap, .slice (some ⟨gN, oN, none⟩) N.length k, .int .i64 mn, .int .i64 lw, .int .i64 hi].toArray 36)).alloc (.cells #[.int .i64 v] 3)) (by repeat (first | exact Below.refl _ _ | refine Below.drew ?_ | refine below_drewN ?_ _ | refine Below.trans ?_ (Below.mono (by assumption) (by first | omega | (simp; omega) | (simp; done))) | refine Below.alloc ?_ (by first | omega | (simp; omega) | (simp; done)) _ | refine Below.setCell ?_ (by first | omega | (simp; omega) | (simp; done)) _))
  have L1 : LocN ((w.alloc (.cells [.slice p P.length cap, .slice (some ⟨gN, oN, none⟩) N.length k, .int .i64 mn, .int .i64 lw, .int .i64 hi].toArray 36)).alloc (.cells #[.int .i64 v] 3)) (w.heap.size + 1) [.int .i64 v] := by
    have := LocN.new (w.alloc (.cells [.slice p P.length cap, .slice (some ⟨gN, oN, none⟩) N.length k, .int .i64 mn, .int .i64 lw, .int .i64 hi].toArray 36)) [.int .i64 v] 3
    simpa using this
  have hb0 : Below w.heap.size w ((w.alloc (.cells [.slice p P.length cap, .slice (some ⟨gN, oN, none⟩) N.length k, .int .i64 mn, .int .i64 lw, .int .i64 hi].toArray 36)).alloc (.cells #[.int .i64 v] 3)) := (by repeat (first | exact Below.refl _ _ | refine Below.drew ?_ | refine below_drewN ?_ _ | refine Below.trans ?_ (Below.mono (by assumption) (by first | omega | (simp; omega) | (simp; done))) | refine Below.alloc ?_ (by first | omega | (simp; omega) | (simp; done)) _ | refine Below.setCell ?_ (by first | omega | (simp; omega) | (simp; done)) _))
  have CH := check_any X _ _ P N mn lw hi _ (hE.below (hb0.mono hB)) (h.below hb0)
  rw [hc, show errV ev 0 = Value.nilIface from rfl] at CH
  have CH' := Lib.hid CH
  have HL0 := Lib.hid L0; have HL1 := Lib.hid L1
  have HB0 := Lib.hid hb0
  have HLL := Lib.hid hl; have HNN := Lib.hid hN
  obtain ⟨n, hn⟩ : ∃ n, n = P.length := ⟨_, rfl⟩
  rw [hN] at HL0 HL1 HB0 CH' hck ⊢
  rw [← hn] at hp hvn HL0 HL1 HB0 hcp HLL HNN CH' hck ⊢
  have hmx' : n ≤ 4 := hp
  have hn1 : 1 ≤ n := by omega
  have HU := Lib.hid hcu
  unfold maxLen at hmx hkm hml
  clear CH h hc hn hb0 L0 L1 hcl hu hv hl hN hcu
  have v0 : decide ((v : Int) < 0) = false := decide_eq_false (by omega)
  have v1 : decide (n ≤ v) = false := decide_eq_false (by omega)
  go_enter Tryz.func20, Tryz.ntmps20
  go_wp2_with fail
  refine CH'.out.mono ?_
  rintro e w1 ⟨rfl, hb1⟩
  have K1 : Below w.heap.size w w1 := HB0.out.trans (hb1.mono (by simp; omega))
  have M0 := Lib.hid (HL0.out.go hb1); have M1 := Lib.hid (HL1.out.go hb1)
  have a0 := M0.out.c 0 _ rfl; have a1 := M1.out.c 0 _ rfl; have al := M0.out.lt; have bl := M1.out.lt
  have z1 := K1.size
  clear CH' HL0 HL1 HB0 hb1
  go_wp2_with fail
  go_loopw [7, 27] (fun lv iv wr => ∃ (i : Nat) (q : Option Addr) (k : Nat), i ≤ n ∧ iv = .int .i64 i ∧ lv = .slice q i k ∧ Hid (wr.ownsRow w1.heap.size 3 1 (.slice q i k) i (ints (restN i 0))) ∧ Below w1.heap.size w1 wr) (fun _ iv _ => n - (intOf iv).toNat)
  case atStart => exact ⟨0, none, 0, Nat.zero_le _, by go_num, rfl, World.ownsRow_nil _ _ _ _, Below.refl _ _⟩
  case round =>
    obtain ⟨i, q, kq, hi, rfl, rfl, OW, hbel⟩ := hrel
    have zr := hbel.size
    by_cases hin : i < n
    · have hil : (ints (restN i 0)).length = i := by rw [ints_length, restN_length]; omega
      have OW2 : Hid (∀ o, (wr.alloc o).ownsRow w1.heap.size 3 1 (.slice q i kq) (ints (restN i 0)).length (ints (restN i 0))) := fun o => by rw [hil]; exact OW.out.alloc o
      have HIL := Lib.hid hil
      clear hil OW
      go_wp2_with (first | (at_builtin; refine wpList_app1 (base := w1.heap.size) (v := .slice q i kq) (us := ints (restN i 0)) (ms := [.int .i64 i]) (p := some ⟨wr.heap.size, 0, none⟩) elInt rfl (.tmp 30) (.tmp 32) (by rfl) (by rfl) 1 (by rfl) rfl (OW2.out _) (srcV_one _ _ _) (by intro x hx; simp at hx; subst hx; rfl) (by rw [HIL.out]; simp; omega) (by simp; omega) ?_; intro qb kb w4 hown4 hg4 ho4))
      have e4 : ints (restN i 0) ++ [Value.int .i64 i] = ints (restN (i + 1) 0) := by rw [restN_snoc]; simp [ints]
      have l4 : (ints (restN (i + 1) 0)).length = i + 1 := by rw [ints_length, restN_length]; omega
      rw [e4, l4] at hown4
      have OW4 := Lib.hid hown4
      have hb4 : Below w1.heap.size w1 w4 := (hbel.alloc zr _).grown hg4 (by simp; omega) (fun r hr => ((OW2.out (.cells #[.int .i64 i] 3)).lt r hr).1)
      have LI : Hid ((ints (restN i 0)).length + 1 = i + 1) := by have := HIL.out; show _ = _; omega
      clear hown4 hg4 ho4 OW2 e4 l4
      simp only [HIL.out]
      go_wp2
      go_roundw
      case rel => exact ⟨i + 1, qb, kb, by omega, by go_num, rfl, OW4, hb4⟩
      case measure => simp [intOf]; omega
    · have ei : i = n := by omega
      subst ei
      obtain ⟨g, rfl, hg1, hg2, hg3⟩ := own_form OW.out (by omega)
      have LD := own_loc OW.out
      have KW : Below w.heap.size w wr := K1.trans (hbel.mono z1)
      have m0 := (M0.out.go hbel).c 1 _ rfl; have m1 := (M1.out.go hbel).c 0 _ rfl
      have KB : KeyBox wr w.heap.size (w.heap.size + 1) l [g] := ⟨gN, oN, i, k, v, gl, ol, kl, m0, m1, hvn, (KW.cell (p := ⟨gN, oN + v, none⟩) hgN).trans HU.out, fun j x hj => (KW.cell (p := ⟨gl, ol + j, none⟩) hgl).trans (hrow.out j x hj), by omega, by omega, by omega, by omega, by simp; omega, by simp; omega, by simp; omega, by simp; omega, by unfold maxLen; omega, by rw [HLL.out]; unfold maxLen; omega⟩
      have SS := Lib.hid (sortStable_ok w.heap.size (w.heap.size + 1) g kq l i wr KB HLL.out hn1 hp hg2 LD)
      unfold ordF at SS
      clear KB LD m0 m1 OW M0 M1
      go_wp2_with fail
      refine SS.out.mono ?_
      rintro e w5 ⟨D, rfl, hO, hL, hk⟩
      have HO := Lib.hid hO; have HLo := Lib.hid hL
      have K5 : Below w.heap.size w w5 := KW.trans (hk.below (by omega) (fun s hs => by simp at hs; omega))
      clear hO hL SS hk
      go_wp2
      go_ret2
      exact ⟨g, kq, D, rfl, HO.out, HLo.out, by omega, hg2, hg3, K5⟩
end Go.Proofs.YtcokmiidgdmdlaaGreatDoor

namespace Go.Proofs.YtcokmiidgdmdlaaGreatDoor
open Go.RowKit Go.ChangeShapes Go.WideShapes Go.Joins
set_option linter.unusedSimpArgs false

end Go.Proofs.YtcokmiidgdmdlaaGreatDoor
