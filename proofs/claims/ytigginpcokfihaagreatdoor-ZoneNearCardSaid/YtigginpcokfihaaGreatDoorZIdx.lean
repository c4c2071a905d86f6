/- slices.ContainsFunc at ints, at slices of ints and at blocks of pages, as package zone calls it, by its contracts. -/
import Derived.Test.YtigginpcokfihaaGreatDoorVec
import Derived.Test.YtigginpcokfihaaGreatDoorRowT
import Derived.Test.YtigginpcokfihaaGreatDoorErrs
namespace Go.Proofs.YtigginpcokfihaaGreatDoor
open Go.RowKit
set_option linter.unusedSimpArgs false
set_option linter.unusedVariables false

def ints (xs : List Int) : List Value := xs.map (Value.int .i64)
theorem ints_length (xs : List Int) : (ints xs).length = xs.length := by simp [ints]
theorem ints_get {xs : List Int} {j : Nat} {x : Int} (h : xs[j]? = some x) : (ints xs)[j]? = some (.int .i64 x) := by simp [ints, h]
theorem ints_one (xs : List Int) : ∀ u ∈ ints xs, u.oneCell' = true := by
  intro u hu; simp only [ints, List.mem_map] at hu; obtain ⟨x, _, rfl⟩ := hu; rfl
/-- a slice of ints at an index -/
theorem RowV.int {X : List Nat} {w : World} {v : Value} {xs : List Int} (h : RowV X w v (ints xs)) : ∃ p cap, v = .slice p xs.length cap ∧ xs.length ≤ cap ∧ cap ≤ maxLen ∧ ∀ j x, xs[j]? = some x → ∃ g off, p = some ⟨g, off, none⟩ ∧ g ∉ X ∧ g < w.heap.size ∧ w.cell? ⟨g, off + j, none⟩ = some (.int .i64 x) := by
  obtain ⟨p, cap, h1, h2, h3, h4⟩ := h
  rw [ints_length] at h1 h2
  exact ⟨p, cap, h1, h2, h3, fun j x hj => h4 j _ (ints_get hj)⟩
/-- a slice of slices of ints -/
def RowR (X : List Nat) (w : World) (vN : Value) (N : List (List Int)) : Prop := ∃ us : List Value, us.length = N.length ∧ RowV X w vN us ∧ ∀ (j : Nat) (u : Value) (xs : List Int), us[j]? = some u → N[j]? = some xs → RowV X w u (ints xs)
theorem RowR.form {X : List Nat} {w : World} {v : Value} {N : List (List Int)} (h : RowR X w v N) : ∃ p cap, v = .slice p N.length cap ∧ N.length ≤ cap ∧ cap ≤ maxLen ∧ ∀ j xs, N[j]? = some xs → ∃ g off u, p = some ⟨g, off, none⟩ ∧ g ∉ X ∧ g < w.heap.size ∧ w.cell? ⟨g, off + j, none⟩ = some u ∧ RowV X w u (ints xs) := by
  obtain ⟨us, hl, ⟨p, cap, h1, h2, h3, h4⟩, h5⟩ := h
  rw [hl] at h1 h2
  refine ⟨p, cap, h1, h2, h3, fun j xs hj => ?_⟩
  have hjl : j < us.length := by rw [hl]; exact (List.getElem?_eq_some_iff.1 hj).1
  obtain ⟨u, hu⟩ : ∃ u, us[j]? = some u := ⟨us[j], List.getElem?_eq_getElem _⟩
  obtain ⟨g, off, e1, e2, e3, e4⟩ := h4 j u hu
  exact ⟨g, off, u, e1, e2, e3, e4, h5 j u xs hu hj⟩
theorem RowR.keep {X S : List Nat} {w w' : World} {v : Value} {N : List (List Int)} (h : RowR X w v N) (k : Keep S w w') (hs : ∀ s ∈ S, s ∈ X ∨ w.heap.size ≤ s) : RowR X w' v N := by
  obtain ⟨us, hl, h1, h2⟩ := h
  exact ⟨us, hl, h1.keep k hs, fun j u xs hu hx => (h2 j u xs hu hx).keep k hs⟩
theorem RowR.below {X : List Nat} {w w' : World} {v : Value} {N : List (List Int)} (h : RowR X w v N) (k : Below w.heap.size w w') : RowR X w' v N := h.keep (Keep.of (S := []) k) (fun _ q => by cases q)
theorem RowR.more {X Y : List Nat} {w : World} {v : Value} {N : List (List Int)} (h : RowR X w v N) (hY : ∀ y ∈ Y, y ∈ X ∨ w.heap.size ≤ y) : RowR Y w v N := by
  obtain ⟨us, hl, h1, h2⟩ := h
  exact ⟨us, hl, h1.more hY, fun j u xs hu hx => (h2 j u xs hu hx).more hY⟩
theorem any_snoc {α : Type} {p : α → Bool} {xs : List α} {j : Nat} {x : α} (h : xs[j]? = some x) : (xs.take (j + 1)).any p = ((xs.take j).any p || p x) := by
  rw [List.take_add_one, h]; simp
theorem any_of_take {α : Type} {p : α → Bool} {xs : List α} {j : Nat} (h : (xs.take j).any p = true) : xs.any p = true := by
  rw [List.any_eq_true] at h ⊢
  obtain ⟨x, h1, h2⟩ := h
  exact ⟨x, List.mem_of_mem_take h1, h2⟩

def inPg (k : Int) : Bool := decide (1 ≤ k ∧ k ≤ 256)
def inFar (k : Int) : Bool := decide (0 ≤ k ∧ k ≤ 1000)
def noPg (k : Int) : Bool := decide (k < 1 ∨ 256 < k)
def noFar (k : Int) : Bool := decide (k < 0 ∨ 1000 < k)

theorem pg_any (k : Int) (w : World) : Calls Tryz.prog 67 #[.int .i64 k] w fun e w' => e = .returned (.bool (noPg k)) ∧ Below w.heap.size w w' := by
  by_cases h1 : k < 1
  · have e : (noPg k) = true := by unfold noPg; simp; omega
    rw [e]
    go_enter Tryz.func67, Tryz.ntmps67
    go_wp2
    go_ret
    exact ⟨by simp, (by repeat (first | exact Below.refl _ _ | refine Below.drew ?_ | refine below_drewN ?_ _ | refine Below.trans ?_ (Below.mono (by assumption) (by first | omega | (simp; omega) | (simp; done))) | refine Below.alloc ?_ (by first | omega | (simp; omega) | (simp; done)) _ | refine Below.setCell ?_ (by first | omega | (simp; omega) | (simp; done)) _))⟩
  · by_cases h2 : 256 < k
    · have e : (noPg k) = true := by unfold noPg; simp; omega
      rw [e]
      go_enter Tryz.func67, Tryz.ntmps67
      go_wp2
      go_ret
      exact ⟨by simp, (by repeat (first | exact Below.refl _ _ | refine Below.drew ?_ | refine below_drewN ?_ _ | refine Below.trans ?_ (Below.mono (by assumption) (by first | omega | (simp; omega) | (simp; done))) | refine Below.alloc ?_ (by first | omega | (simp; omega) | (simp; done)) _ | refine Below.setCell ?_ (by first | omega | (simp; omega) | (simp; done)) _))⟩
    · have e : (noPg k) = false := by unfold noPg; simp; omega
      rw [e]
      go_enter Tryz.func67, Tryz.ntmps67
      go_wp2
      go_ret
      exact ⟨by simp, (by repeat (first | exact Below.refl _ _ | refine Below.drew ?_ | refine below_drewN ?_ _ | refine Below.trans ?_ (Below.mono (by assumption) (by first | omega | (simp; omega) | (simp; done))) | refine Below.alloc ?_ (by first | omega | (simp; omega) | (simp; done)) _ | refine Below.setCell ?_ (by first | omega | (simp; omega) | (simp; done)) _))⟩

theorem far_any (k : Int) (w : World) : Calls Tryz.prog 68 #[.int .i64 k] w fun e w' => e = .returned (.bool (noFar k)) ∧ Below w.heap.size w w' := by
  by_cases h1 : k < 0
  · have e : (noFar k) = true := by unfold noFar; simp; omega
    rw [e]
    go_enter Tryz.func68, Tryz.ntmps68
    go_wp2
    go_ret
    exact ⟨by simp, (by repeat (first | exact Below.refl _ _ | refine Below.drew ?_ | refine below_drewN ?_ _ | refine Below.trans ?_ (Below.mono (by assumption) (by first | omega | (simp; omega) | (simp; done))) | refine Below.alloc ?_ (by first | omega | (simp; omega) | (simp; done)) _ | refine Below.setCell ?_ (by first | omega | (simp; omega) | (simp; done)) _))⟩
  · by_cases h2 : 1000 < k
    · have e : (noFar k) = true := by unfold noFar; simp; omega
      rw [e]
      go_enter Tryz.func68, Tryz.ntmps68
      go_wp2
      go_ret
      exact ⟨by simp, (by repeat (first | exact Below.refl _ _ | refine Below.drew ?_ | refine below_drewN ?_ _ | refine Below.trans ?_ (Below.mono (by assumption) (by first | omega | (simp; omega) | (simp; done))) | refine Below.alloc ?_ (by first | omega | (simp; omega) | (simp; done)) _ | refine Below.setCell ?_ (by first | omega | (simp; omega) | (simp; done)) _))⟩
    · have e : (noFar k) = false := by unfold noFar; simp; omega
      rw [e]
      go_enter Tryz.func68, Tryz.ntmps68
      go_wp2
      go_ret
      exact ⟨by simp, (by repeat (first | exact Below.refl _ _ | refine Below.drew ?_ | refine below_drewN ?_ _ | refine Below.trans ?_ (Below.mono (by assumption) (by first | omega | (simp; omega) | (simp; done))) | refine Below.alloc ?_ (by first | omega | (simp; omega) | (simp; done)) _ | refine Below.setCell ?_ (by first | omega | (simp; omega) | (simp; done)) _))⟩

def lenNe (n : Int) (l : List Int) : Bool := decide ((l.length : Int) ≠ n)
theorem lenNe_any (v : Value) (l : List Int) (n : Int) (c : Nat) (w : World) (X : List Nat) (h : RowV X w v (ints l)) (hc : w.cell? ⟨c, 0, none⟩ = some (.int .i64 n)) (hl : c < w.heap.size) :
    Calls Tryz.prog 39 #[v, .pointer (some ⟨c, 0, none⟩)] w fun e w' => e = .returned (.bool (lenNe n l)) ∧ Below w.heap.size w w' := by
  obtain ⟨p, cap, rfl, h1, h2, _⟩ := h.int
  unfold maxLen at h2
  clear h
  by_cases e : (l.length : Int) = n
  · have e1 : lenNe n l = false := by unfold lenNe; simpa using e
    have e2 : ((l.length : Int) != n) = false := by simpa using e
    rw [e1]
    clear e e1
    go_enter Tryz.func39, Tryz.ntmps39
    go_wp2
    go_ret
    exact ⟨by simp, (by repeat (first | exact Below.refl _ _ | refine Below.drew ?_ | refine below_drewN ?_ _ | refine Below.trans ?_ (Below.mono (by assumption) (by first | omega | (simp; omega) | (simp; done))) | refine Below.alloc ?_ (by first | omega | (simp; omega) | (simp; done)) _ | refine Below.setCell ?_ (by first | omega | (simp; omega) | (simp; done)) _))⟩
  · have e1 : lenNe n l = true := by unfold lenNe; simpa using e
    have e2 : ((l.length : Int) != n) = true := by simpa using e
    rw [e1]
    clear e e1
    go_enter Tryz.func39, Tryz.ntmps39
    go_wp2
    go_ret
    exact ⟨by simp, (by repeat (first | exact Below.refl _ _ | refine Below.drew ?_ | refine below_drewN ?_ _ | refine Below.trans ?_ (Below.mono (by assumption) (by first | omega | (simp; omega) | (simp; done))) | refine Below.alloc ?_ (by first | omega | (simp; omega) | (simp; done)) _ | refine Below.setCell ?_ (by first | omega | (simp; omega) | (simp; done)) _))⟩

def ordGe (o : Int) (x : Int × Int) : Bool := decide (o ≤ x.2)
theorem ordGe_any (a k o : Int) (c : Nat) (w : World) (hc : w.cell? ⟨c, 0, none⟩ = some (.int .i64 o)) (hl : c < w.heap.size) :
    Calls Tryz.prog 31 #[.agg #[.int .i64 a, .int .i64 k], .pointer (some ⟨c, 0, none⟩)] w fun e w' => e = .returned (.bool (ordGe o (a, k))) ∧ Below w.heap.size w w' := by
  unfold ordGe
  go_enter Tryz.func31, Tryz.ntmps31
  go_wp2
  go_ret
  exact ⟨rfl, (by repeat (first | exact Below.refl _ _ | refine Below.drew ?_ | refine below_drewN ?_ _ | refine Below.trans ?_ (Below.mono (by assumption) (by first | omega | (simp; omega) | (simp; done))) | refine Below.alloc ?_ (by first | omega | (simp; omega) | (simp; done)) _ | refine Below.setCell ?_ (by first | omega | (simp; omega) | (simp; done)) _))⟩

set_option maxHeartbeats 1000000 in
theorem pg_idx (X : List Nat) (v : Value) (xs : List Int) (w : World) (h : RowV X w v (ints xs)) :
    Calls Tryz.prog 94 #[v, .func (.func 67) #[] #[]] w fun e w' => ∃ r : Int, e = .returned (.int .i64 r) ∧ Hid (decide (0 ≤ r) = xs.any noPg) ∧ Below w.heap.size w w' := by
  obtain ⟨p, cap, rfl, hcap, hmx, hc⟩ := h.int
  unfold maxLen at hmx
  have C := Lib.hid hc
  clear hc h
  obtain ⟨n, hn⟩ : ∃ n, n = xs.length := ⟨_, rfl⟩
  rw [← hn] at hcap ⊢
  have HN := Lib.hid hn
  clear hn
  go_enter Tryz.func94, Tryz.ntmps94
  go_wp2_with fail
  go_loopw [5, 8] (fun _ iv wr => ∃ j : Nat, j ≤ n ∧ iv = .int .i64 j ∧ Hid ((xs.take j).any noPg = false) ∧ Below w.heap.size w wr) (fun _ iv _ => n - (intOf iv).toNat)
  case atStart => exact ⟨0, Nat.zero_le _, rfl, (show _ = _ by simp), Below.refl _ _⟩
  case round =>
    obtain ⟨j, hj, rfl, hall, hbel⟩ := hrel
    have zr := hbel.size
    by_cases hjn : j < n
    · obtain ⟨x, hx⟩ : ∃ x, xs[j]? = some x := ⟨xs[j]'(by rw [← HN.out]; exact hjn), List.getElem?_eq_getElem _⟩
      have hsn := any_snoc (p := noPg) hx
      rw [hall.out, Bool.false_or] at hsn
      have SN := Lib.hid hsn
      clear hsn
      obtain ⟨g, off, rfl, _, hg, hc⟩ := C.out j x hx
      have r1 := (hbel.cell (p := ⟨g, off + j, none⟩) hg).trans hc
      have gr : g < wr.heap.size := by omega
      have CL := pg_any x wr
      clear hc hx
      cases hq : noPg x with
      | true =>
        have hr : Hid (xs.any noPg = true) := any_of_take (SN.out.trans hq)
        rw [hq] at CL
        have CL' := Lib.hid CL
        clear hq CL SN
        go_wp2_with fail
        refine CL'.out.mono ?_
        rintro e w1 ⟨rfl, hb1⟩
        go_wp2
        go_ret
        exact ⟨(j : Int), rfl, (show _ = _ by rw [hr.out]; simp), hbel.trans (hb1.mono zr)⟩
      | false =>
        have hr : Hid ((xs.take (j + 1)).any noPg = false) := SN.out.trans hq
        rw [hq] at CL
        have CL' := Lib.hid CL
        clear hq CL SN
        go_wp2_with fail
        refine CL'.out.mono ?_
        rintro e w1 ⟨rfl, hb1⟩
        go_wp2
        go_roundw
        case rel => exact ⟨j + 1, by omega, by go_num, hr, hbel.trans (hb1.mono zr)⟩
        case measure => simp [intOf]; omega
    · have ej : j = n := by omega
      have hr : Hid (xs.any noPg = false) := by have := hall.out; rwa [ej, HN.out, List.take_length] at this
      clear ej hall
      go_wp2
      go_ret
      exact ⟨-1, rfl, (show _ = _ by rw [hr.out]; rfl), hbel⟩
set_option maxHeartbeats 400000 in
theorem pg_has (X : List Nat) (v : Value) (xs : List Int) (w : World) (h : RowV X w v (ints xs)) :
    Calls Tryz.prog 66 #[v, .func (.func 67) #[] #[]] w fun e w' => e = .returned (.bool (xs.any noPg)) ∧ Below w.heap.size w w' := by
  have I := Lib.hid (pg_idx X v xs w h)
  obtain ⟨p, cap, rfl, _⟩ := h.int
  go_enter Tryz.func66, Tryz.ntmps66
  go_wp2_with fail
  refine I.out.mono ?_
  rintro e w1 ⟨r, rfl, hr, hb1⟩
  go_wp2
  go_ret
  exact ⟨by rw [← hr.out]; rfl, hb1⟩

set_option maxHeartbeats 1000000 in
theorem far_idx (X : List Nat) (v : Value) (xs : List Int) (w : World) (h : RowV X w v (ints xs)) :
    Calls Tryz.prog 94 #[v, .func (.func 68) #[] #[]] w fun e w' => ∃ r : Int, e = .returned (.int .i64 r) ∧ Hid (decide (0 ≤ r) = xs.any noFar) ∧ Below w.heap.size w w' := by
  obtain ⟨p, cap, rfl, hcap, hmx, hc⟩ := h.int
  unfold maxLen at hmx
  have C := Lib.hid hc
  clear hc h
  obtain ⟨n, hn⟩ : ∃ n, n = xs.length := ⟨_, rfl⟩
  rw [← hn] at hcap ⊢
  have HN := Lib.hid hn
  clear hn
  go_enter Tryz.func94, Tryz.ntmps94
  go_wp2_with fail
  go_loopw [5, 8] (fun _ iv wr => ∃ j : Nat, j ≤ n ∧ iv = .int .i64 j ∧ Hid ((xs.take j).any noFar = false) ∧ Below w.heap.size w wr) (fun _ iv _ => n - (intOf iv).toNat)
  case atStart => exact ⟨0, Nat.zero_le _, rfl, (show _ = _ by simp), Below.refl _ _⟩
  case round =>
    obtain ⟨j, hj, rfl, hall, hbel⟩ := hrel
    have zr := hbel.size
    by_cases hjn : j < n
    · obtain ⟨x, hx⟩ : ∃ x, xs[j]? = some x := ⟨xs[j]'(by rw [← HN.out]; exact hjn), List.getElem?_eq_getElem _⟩
      have hsn := any_snoc (p := noFar) hx
      rw [hall.out, Bool.false_or] at hsn
      have SN := Lib.hid hsn
      clear hsn
      obtain ⟨g, off, rfl, _, hg, hc⟩ := C.out j x hx
      have r1 := (hbel.cell (p := ⟨g, off + j, none⟩) hg).trans hc
      have gr : g < wr.heap.size := by omega
      have CL := far_any x wr
      clear hc hx
      cases hq : noFar x with
      | true =>
        have hr : Hid (xs.any noFar = true) := any_of_take (SN.out.trans hq)
        rw [hq] at CL
        have CL' := Lib.hid CL
        clear hq CL SN
        go_wp2_with fail
        refine CL'.out.mono ?_
        rintro e w1 ⟨rfl, hb1⟩
        go_wp2
        go_ret
        exact ⟨(j : Int), rfl, (show _ = _ by rw [hr.out]; simp), hbel.trans (hb1.mono zr)⟩
      | false =>
        have hr : Hid ((xs.take (j + 1)).any noFar = false) := SN.out.trans hq
        rw [hq] at CL
        have CL' := Lib.hid CL
        clear hq CL SN
        go_wp2_with fail
        refine CL'.out.mono ?_
        rintro e w1 ⟨rfl, hb1⟩
        go_wp2
        go_roundw
        case rel => exact ⟨j + 1, by omega, by go_num, hr, hbel.trans (hb1.mono zr)⟩
        case measure => simp [intOf]; omega
    · have ej : j = n := by omega
      have hr : Hid (xs.any noFar = false) := by have := hall.out; rwa [ej, HN.out, List.take_length] at this
      clear ej hall
      go_wp2
      go_ret
      exact ⟨-1, rfl, (show _ = _ by rw [hr.out]; rfl), hbel⟩
set_option maxHeartbeats 400000 in
theorem far_has (X : List Nat) (v : Value) (xs : List Int) (w : World) (h : RowV X w v (ints xs)) :
    Calls Tryz.prog 66 #[v, .func (.func 68) #[] #[]] w fun e w' => e = .returned (.bool (xs.any noFar)) ∧ Below w.heap.size w w' := by
  have I := Lib.hid (far_idx X v xs w h)
  obtain ⟨p, cap, rfl, _⟩ := h.int
  go_enter Tryz.func66, Tryz.ntmps66
  go_wp2_with fail
  refine I.out.mono ?_
  rintro e w1 ⟨r, rfl, hr, hb1⟩
  go_wp2
  go_ret
  exact ⟨by rw [← hr.out]; rfl, hb1⟩

set_option maxHeartbeats 1000000 in
theorem lenNe_idx (X : List Nat) (v : Value) (N : List (List Int)) (m : Int) (c : Nat) (w : World) (h : RowR X w v N) (hcc : w.cell? ⟨c, 0, none⟩ = some (.int .i64 m)) (hcl : c < w.heap.size) :
    Calls Tryz.prog 69 #[v, .func (.func 39) #[] #[.pointer (some ⟨c, 0, none⟩)]] w fun e w' => ∃ r : Int, e = .returned (.int .i64 r) ∧ Hid (decide (0 ≤ r) = N.any (lenNe m)) ∧ Below w.heap.size w w' := by
  obtain ⟨p, cap, rfl, hcap, hmx, hc⟩ := h.form
  unfold maxLen at hmx
  have C := Lib.hid hc
  clear hc h
  obtain ⟨n, hn⟩ : ∃ n, n = N.length := ⟨_, rfl⟩
  rw [← hn] at hcap ⊢
  have HN := Lib.hid hn
  clear hn
  go_enter Tryz.func69, Tryz.ntmps69
  go_wp2_with fail
  go_loopw [5, 8] (fun _ iv wr => ∃ j : Nat, j ≤ n ∧ iv = .int .i64 j ∧ Hid ((N.take j).any (lenNe m) = false) ∧ Below w.heap.size w wr) (fun _ iv _ => n - (intOf iv).toNat)
  case atStart => exact ⟨0, Nat.zero_le _, rfl, (show _ = _ by simp), Below.refl _ _⟩
  case round =>
    obtain ⟨j, hj, rfl, hall, hbel⟩ := hrel
    have zr := hbel.size
    by_cases hjn : j < n
    · obtain ⟨x, hx⟩ : ∃ x, N[j]? = some x := ⟨N[j]'(by rw [← HN.out]; exact hjn), List.getElem?_eq_getElem _⟩
      have hsn := any_snoc (p := (lenNe m)) hx
      rw [hall.out, Bool.false_or] at hsn
      have SN := Lib.hid hsn
      clear hsn
      obtain ⟨g, off, u, rfl, _, hg, hc, hu⟩ := C.out j x hx
      have r1 := (hbel.cell (p := ⟨g, off + j, none⟩) hg).trans hc
      have gr : g < wr.heap.size := by omega
      have rc := (hbel.cell (p := ⟨c, 0, none⟩) hcl).trans hcc
      have CL := lenNe_any u x m c wr X (hu.below hbel) rc (by omega)
      obtain ⟨q, k, rfl, _⟩ := hu.int
      clear hc hx
      cases hq : (lenNe m) x with
      | true =>
        have hr : Hid (N.any (lenNe m) = true) := any_of_take (SN.out.trans hq)
        rw [hq] at CL
        have CL' := Lib.hid CL
        clear hq CL SN
        go_wp2_with fail
        refine CL'.out.mono ?_
        rintro e w1 ⟨rfl, hb1⟩
        go_wp2
        go_ret
        exact ⟨(j : Int), rfl, (show _ = _ by rw [hr.out]; simp), hbel.trans (hb1.mono zr)⟩
      | false =>
        have hr : Hid ((N.take (j + 1)).any (lenNe m) = false) := SN.out.trans hq
        rw [hq] at CL
        have CL' := Lib.hid CL
        clear hq CL SN
        go_wp2_with fail
        refine CL'.out.mono ?_
        rintro e w1 ⟨rfl, hb1⟩
        go_wp2
        go_roundw
        case rel => exact ⟨j + 1, by omega, by go_num, hr, hbel.trans (hb1.mono zr)⟩
        case measure => simp [intOf]; omega
    · have ej : j = n := by omega
      have hr : Hid (N.any (lenNe m) = false) := by have := hall.out; rwa [ej, HN.out, List.take_length] at this
      clear ej hall
      go_wp2
      go_ret
      exact ⟨-1, rfl, (show _ = _ by rw [hr.out]; rfl), hbel⟩
set_option maxHeartbeats 400000 in
theorem lenNe_has (X : List Nat) (v : Value) (N : List (List Int)) (m : Int) (c : Nat) (w : World) (h : RowR X w v N) (hcc : w.cell? ⟨c, 0, none⟩ = some (.int .i64 m)) (hcl : c < w.heap.size) :
    Calls Tryz.prog 38 #[v, .func (.func 39) #[] #[.pointer (some ⟨c, 0, none⟩)]] w fun e w' => e = .returned (.bool (N.any (lenNe m))) ∧ Below w.heap.size w w' := by
  have I := Lib.hid (lenNe_idx X v N m c w h hcc hcl)
  obtain ⟨p, cap, rfl, _⟩ := h.form
  go_enter Tryz.func38, Tryz.ntmps38
  go_wp2_with fail
  refine I.out.mono ?_
  rintro e w1 ⟨r, rfl, hr, hb1⟩
  go_wp2
  go_ret
  exact ⟨by rw [← hr.out]; rfl, hb1⟩

set_option maxHeartbeats 1000000 in
theorem ordGe_idx (v : Value) (F : List (Int × Int)) (m : Int) (c : Nat) (w : World) (h : RowT 0 w v F) (hcc : w.cell? ⟨c, 0, none⟩ = some (.int .i64 m)) (hcl : c < w.heap.size) :
    Calls Tryz.prog 61 #[v, .func (.func 31) #[] #[.pointer (some ⟨c, 0, none⟩)]] w fun e w' => ∃ r : Int, e = .returned (.int .i64 r) ∧ Hid (decide (0 ≤ r) = F.any (ordGe m)) ∧ Below w.heap.size w w' := by
  have h' : ∃ p cap, v = .slice p F.length cap ∧ F.length ≤ cap ∧ cap ≤ maxLen ∧ Hid (∀ j a k, F[j]? = some (a, k) → ∃ g, p = some ⟨g, 0, none⟩ ∧ g < w.heap.size ∧ w.cell? ⟨g, j * 2, none⟩ = some (.int .i64 a) ∧ w.cell? ⟨g, j * 2 + 1, none⟩ = some (.int .i64 k)) := by
    rcases h with ⟨rfl, rfl⟩ | ⟨g, cap, rfl, q1, q2, _, hg, hc⟩
    · exact ⟨none, 0, rfl, Nat.le_refl _, Nat.zero_le _, fun j a k hj => by simp at hj⟩
    · exact ⟨_, cap, rfl, q1, q2, fun j a k hj => ⟨g, rfl, hg, hc j a k hj⟩⟩
  obtain ⟨p, cap, rfl, hcap, hmx, C⟩ := h'
  unfold maxLen at hmx
  clear h
  obtain ⟨n, hn⟩ : ∃ n, n = F.length := ⟨_, rfl⟩
  rw [← hn] at hcap ⊢
  have HN := Lib.hid hn
  clear hn
  go_enter Tryz.func61, Tryz.ntmps61
  go_wp2_with fail
  go_loopw [5, 8] (fun _ iv wr => ∃ j : Nat, j ≤ n ∧ iv = .int .i64 j ∧ Hid ((F.take j).any (ordGe m) = false) ∧ Below w.heap.size w wr) (fun _ iv _ => n - (intOf iv).toNat)
  case atStart => exact ⟨0, Nat.zero_le _, rfl, (show _ = _ by simp), Below.refl _ _⟩
  case round =>
    obtain ⟨j, hj, rfl, hall, hbel⟩ := hrel
    have zr := hbel.size
    by_cases hjn : j < n
    · obtain ⟨x, hx⟩ : ∃ x, F[j]? = some x := ⟨F[j]'(by rw [← HN.out]; exact hjn), List.getElem?_eq_getElem _⟩
      have hsn := any_snoc (p := (ordGe m)) hx
      rw [hall.out, Bool.false_or] at hsn
      have SN := Lib.hid hsn
      clear hsn
      obtain ⟨a, k⟩ := x
      obtain ⟨g, rfl, hg, hc1, hc2⟩ := C.out j a k hx
      have r1 := (hbel.cell (p := ⟨g, j * 2, none⟩) hg).trans hc1
      have r2 := (hbel.cell (p := ⟨g, j * 2 + 1, none⟩) hg).trans hc2
      have gr : g < wr.heap.size := by omega
      have rc := (hbel.cell (p := ⟨c, 0, none⟩) hcl).trans hcc
      have CL := ordGe_any a k m c wr rc (by omega)
      clear hc1 hc2 hx
      cases hq : (ordGe m) (a, k) with
      | true =>
        have hr : Hid (F.any (ordGe m) = true) := any_of_take (SN.out.trans hq)
        rw [hq] at CL
        have CL' := Lib.hid CL
        clear hq CL SN
        go_wp2_with fail
        refine CL'.out.mono ?_
        rintro e w1 ⟨rfl, hb1⟩
        go_wp2
        go_ret
        exact ⟨(j : Int), rfl, (show _ = _ by rw [hr.out]; simp), hbel.trans (hb1.mono zr)⟩
      | false =>
        have hr : Hid ((F.take (j + 1)).any (ordGe m) = false) := SN.out.trans hq
        rw [hq] at CL
        have CL' := Lib.hid CL
        clear hq CL SN
        go_wp2_with fail
        refine CL'.out.mono ?_
        rintro e w1 ⟨rfl, hb1⟩
        go_wp2
        go_roundw
        case rel => exact ⟨j + 1, by omega, by go_num, hr, hbel.trans (hb1.mono zr)⟩
        case measure => simp [intOf]; omega
    · have ej : j = n := by omega
      have hr : Hid (F.any (ordGe m) = false) := by have := hall.out; rwa [ej, HN.out, List.take_length] at this
      clear ej hall
      go_wp2
      go_ret
      exact ⟨-1, rfl, (show _ = _ by rw [hr.out]; rfl), hbel⟩
set_option maxHeartbeats 400000 in
theorem ordGe_has (v : Value) (F : List (Int × Int)) (m : Int) (c : Nat) (w : World) (h : RowT 0 w v F) (hcc : w.cell? ⟨c, 0, none⟩ = some (.int .i64 m)) (hcl : c < w.heap.size) :
    Calls Tryz.prog 29 #[v, .func (.func 31) #[] #[.pointer (some ⟨c, 0, none⟩)]] w fun e w' => e = .returned (.bool (F.any (ordGe m))) ∧ Below w.heap.size w w' := by
  have I := Lib.hid (ordGe_idx v F m c w h hcc hcl)
  obtain ⟨p, n, cap, rfl⟩ : ∃ p n cap, v = .slice p n cap := by rcases h with ⟨rfl, _⟩ | ⟨g, cap, rfl, _⟩; (· exact ⟨_, _, _, rfl⟩); (· exact ⟨_, _, _, rfl⟩)
  go_enter Tryz.func29, Tryz.ntmps29
  go_wp2_with fail
  refine I.out.mono ?_
  rintro e w1 ⟨r, rfl, hr, hb1⟩
  go_wp2
  go_ret
  exact ⟨by rw [← hr.out]; rfl, hb1⟩
end Go.Proofs.YtigginpcokfihaaGreatDoor
