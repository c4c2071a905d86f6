/- Package magazine: lies, Out by their contracts; slices.Contains at objects; Has of a cache. -/
import Derived.Test.YtcokmiidgdmdlaaGreatDoorDTakeA
namespace Go.Proofs.YtcokmiidgdmdlaaGreatDoor
open Go.RowKit Go.Maps
set_option linter.unusedSimpArgs false
set_option linter.unusedVariables false
attribute [local go_sem ↓] Go.wp_at_zero Go.wp_at_succ

section
variable {X : List Nat} {w : World} {v : Value} {l : List Ob}
theorem first_ob (o : Ob) : ∀ l : List Ob, (o ∉ l) ∨ ∃ m, l[m]? = some o ∧ ∀ (j : Nat) (y : Ob), j < m → l[j]? = some y → y ≠ o
  | [] => .inl (by simp)
  | a :: l => by
    by_cases h : a = o
    · exact .inr ⟨0, by simp [h], fun j y hj => by omega⟩
    · rcases first_ob o l with q | ⟨m, q1, q2⟩
      · exact .inl (by simp; exact ⟨fun r => h r.symm, q⟩)
      · refine .inr ⟨m + 1, by simpa using q1, fun j y hj hy => ?_⟩
        cases j with
        | zero => simp at hy; subst hy; exact h
        | succ j => exact q2 j y (by omega) (by simpa using hy)
set_option maxHeartbeats 1000000 in
set_option maxRecDepth 100000 in
theorem index_ob (o : Ob) (h : RowO X w v l) (hl : l.length ≤ 65536) (m : Nat) (hm : m ≤ l.length) (hno : ∀ (j : Nat) (y : Ob), j < m → l[j]? = some y → y ≠ o) (res : Int) (hres : (m = l.length ∧ res = -1) ∨ (l[m]? = some o ∧ res = m)) :
    Calls Tryz.prog 171 #[v, .agg #[.int .i64 o.1, .int .i64 o.2]] w fun r w' => r = .returned (.int .i64 res) ∧ Below w.heap.size w w' := by
  obtain ⟨p, cap, rfl, hc1, hc2, _⟩ := id h
  have b0 : Below w.heap.size w (w.alloc (.cells #[.int .i64 o.1, .int .i64 o.2] 72)) := (by repeat (first | exact Below.refl _ _ | refine Below.drew ?_ | refine below_drewN ?_ _ | refine Below.trans ?_ (Below.mono (by assumption) (by first | omega | (simp; omega) | (simp; done))) | refine Below.alloc ?_ (by first | omega | (simp; omega) | (simp; done)) _ | refine Below.setCell ?_ (by first | omega | (simp; omega) | (simp; done)) _))
  have HL := Lib.hid (show LocN (w.alloc (.cells #[.int .i64 o.1, .int .i64 o.2] 72)) w.heap.size [.int .i64 o.1, .int .i64 o.2] from LocN.mk_ w [.int .i64 o.1, .int .i64 o.2] 72 rfl)
  have H := Lib.hid h; have HNOO := Lib.hid hno; have HRES := Lib.hid hres
  obtain ⟨n, hn⟩ : ∃ n, n = l.length := ⟨_, rfl⟩
  have EN := Lib.hid hn
  rw [← hn] at hl hm ⊢
  have eb := eqO; have gb := guardO
  clear h hno hres hn hc1 hc2
  go_enter Tryz.func171, Tryz.ntmps171
  go_wp2_with fail
  go_loopw [5, 8] (fun _ iv wr => ∃ i : Nat, i ≤ m ∧ iv = .int .i64 i ∧ Below w.heap.size (w.alloc (.cells #[.int .i64 o.1, .int .i64 o.2] 72)) wr ∧ Below w.heap.size w wr ∧ Hid (LocN wr w.heap.size [.int .i64 o.1, .int .i64 o.2])) (fun _ iv _ => n - (intOf iv).toNat)
  case atStart => exact ⟨0, by omega, by go_num, Below.refl _ _, b0, HL⟩
  case round =>
    obtain ⟨i, hile, rfl, hbel0, hbel, HLr⟩ := hrel
    have BW : Hid (∀ W, Below wr.heap.size wr W → Below w.heap.size (w.alloc (.cells #[.int .i64 o.1, .int .i64 o.2] 72)) W ∧ Below w.heap.size w W ∧ Hid (LocN W w.heap.size [.int .i64 o.1, .int .i64 o.2])) := fun W b => ⟨hbel0.trans (b.mono hbel.size), hbel.trans (b.mono hbel.size), HLr.out.go b⟩
    have m0 := HLr.out.c 0 _ rfl; have m1 := HLr.out.c 1 _ rfl; have ml := HLr.out.lt
    by_cases hin : i < n
    · obtain ⟨y, hy⟩ : ∃ y, l[i]? = some y := ⟨l[i]'(by rw [← EN.out]; exact hin), List.getElem?_eq_getElem _⟩
      obtain ⟨g, off, rfl, _, gl, c0, c1⟩ := ((show RowO X w (.slice p n cap) l by rw [EN.out]; exact H.out).below hbel).at hy
      have j1 : (i : Int) < (n : Int) := by omega
      by_cases e1 : y = o
      · have hm' : i = m := by
          rcases Nat.lt_or_ge i m with q | q
          · exact absurd e1 (HNOO.out i y q hy)
          · omega
        have hr : res = (i : Int) := by
          rcases HRES.out with ⟨q1, _⟩ | ⟨_, q2⟩
          · have := EN.out; omega
          · rw [q2, hm']
        subst e1 hr
        clear hy hm'
        go_wp2_with fail
        go_quiet (fail)
        go_wp2
        go_ret
        exact ⟨rfl, (BW.out _ (by repeat (first | exact Below.refl _ _ | refine Below.drew ?_ | refine below_drewN ?_ _ | refine Below.trans ?_ (Below.mono (by assumption) (by first | omega | (simp; omega) | (simp; done))) | refine Below.alloc ?_ (by first | omega | (simp; omega) | (simp; done)) _ | refine Below.setCell ?_ (by first | omega | (simp; omega) | (simp; done)) _))).2.1⟩
      · have HNX : Hid (i + 1 ≤ m) := by
          rcases Nat.lt_or_ge i m with q | q
          · exact q
          · exfalso
            have q' : i = m := by omega
            rcases HRES.out with ⟨q1, _⟩ | ⟨q2, _⟩
            · have := EN.out; omega
            · rw [← q', hy] at q2; exact e1 (Option.some.inj q2)
        have hb : (o.1 == y.1 && o.2 == y.2) = false := by
          cases q : (o.1 == y.1 && o.2 == y.2) with
          | false => rfl
          | true =>
            simp at q
            exact absurd (Prod.ext q.1.symm q.2.symm) e1
        clear hy e1
        go_wp2_with fail
        go_quiet (fail)
        go_wp2
        go_round
        case rel => exact ⟨i + 1, HNX.out, by go_num, BW.out _ (by repeat (first | exact Below.refl _ _ | refine Below.drew ?_ | refine below_drewN ?_ _ | refine Below.trans ?_ (Below.mono (by assumption) (by first | omega | (simp; omega) | (simp; done))) | refine Below.alloc ?_ (by first | omega | (simp; omega) | (simp; done)) _ | refine Below.setCell ?_ (by first | omega | (simp; omega) | (simp; done)) _))⟩
        case measure => simp [intOf]; omega
    · have hr : res = -1 := by
        rcases HRES.out with ⟨_, q⟩ | ⟨q, _⟩
        · exact q
        · have := (List.getElem?_eq_some_iff.1 q).1
          have := EN.out; omega
      subst hr
      go_wp2
      go_ret
      exact ⟨rfl, (BW.out _ (Below.refl _ _)).2.1⟩
set_option maxHeartbeats 1000000 in
set_option maxRecDepth 100000 in
theorem has_ob (o : Ob) (h : RowO X w v l) (hl : l.length ≤ 65536) :
    Calls Tryz.prog 158 #[v, .agg #[.int .i64 o.1, .int .i64 o.2]] w fun r w' => r = .returned (.bool (decide (o ∈ l))) ∧ Below w.heap.size w w' := by
  have b0 : Below w.heap.size w (w.alloc (.cells #[.int .i64 o.1, .int .i64 o.2] 72)) := (by repeat (first | exact Below.refl _ _ | refine Below.drew ?_ | refine below_drewN ?_ _ | refine Below.trans ?_ (Below.mono (by assumption) (by first | omega | (simp; omega) | (simp; done))) | refine Below.alloc ?_ (by first | omega | (simp; omega) | (simp; done)) _ | refine Below.setCell ?_ (by first | omega | (simp; omega) | (simp; done)) _))
  have HB := Lib.hid b0
  rcases first_ob o l with q | ⟨m, q1, q2⟩
  · have IX := Lib.hid (index_ob o (h.below b0) hl l.length (Nat.le_refl _) (fun j y _ hy e => q (e ▸ List.mem_of_getElem? hy)) (-1) (.inl ⟨rfl, rfl⟩))
    have d : decide (o ∈ l) = false := decide_eq_false q
    rw [d]
    clear h d q b0
    go_enter Tryz.func158, Tryz.ntmps158
    go_wp2_with fail
    refine IX.out.mono ?_
    rintro r w1 ⟨rfl, hb1⟩
    go_wp2
    go_ret
    exact ⟨rfl, HB.out.trans (hb1.mono (by simp))⟩
  · have IX := Lib.hid (index_ob o (h.below b0) hl m (Nat.le_of_lt (List.getElem?_eq_some_iff.1 q1).1) q2 m (.inr ⟨q1, rfl⟩))
    have d : decide (o ∈ l) = true := decide_eq_true (List.mem_of_getElem? q1)
    have dm : decide ((0 : Int) ≤ (m : Int)) = true := decide_eq_true (by omega)
    rw [d]
    clear h d q1 q2 b0
    go_enter Tryz.func158, Tryz.ntmps158
    go_wp2_with fail
    refine IX.out.mono ?_
    rintro r w1 ⟨rfl, hb1⟩
    go_wp2
    go_ret
    exact ⟨rfl, HB.out.trans (hb1.mono (by simp))⟩
/-- the closure of lies -/
def liesF (b : Nat) : Value := .func (.func 160) #[] #[.pointer (some ⟨b, 0, none⟩)]
set_option maxHeartbeats 1000000 in
set_option maxRecDepth 100000 in
theorem lies1_any (o : Ob) (b : Nat) (h : RowO X w v l) (hl : l.length ≤ 65536) (hb : LocN w b [.int .i64 o.1, .int .i64 o.2]) :
    Calls Tryz.prog 160 #[v, .pointer (some ⟨b, 0, none⟩)] w fun r w' => r = .returned (.bool (decide (o ∈ l))) ∧ Below w.heap.size w w' := by
  have HH := Lib.hid (has_ob o h hl)
  have c0 := hb.c 0 _ rfl; have c1 := hb.c 1 _ rfl; have cl := hb.lt
  obtain ⟨bb, hbb⟩ : ∃ bb, bb = decide (o ∈ l) := ⟨_, rfl⟩
  rw [← hbb] at HH ⊢
  clear h hbb
  go_enter Tryz.func160, Tryz.ntmps160
  go_wp2_with fail
  refine HH.out.mono ?_
  rintro r w1 ⟨rfl, hb1⟩
  go_wp2
  go_ret
  exact ⟨rfl, hb1⟩
end
/-- the pile, as it reads -/
theorem DepB.pile {X : List Nat} {B : Nat} {w : World} {pd pc gh : Nat} {V : HV} {vp : Value} {U : List Value} {H : List Hd} {P : List (List Ob)} (h : DepB X B w pd pc gh V vp U H P) :
    ∃ q k, vp = .slice q P.length k ∧ P.length ≤ k ∧ k ≤ maxLen ∧ ∀ (j : Nat) (m : List Ob), P[j]? = some m → ∃ g p c, q = some ⟨g, 0, none⟩ ∧ g < w.heap.size ∧ w.cell? ⟨g, j, none⟩ = some (.slice p m.length c) ∧ RowO X w (.slice p m.length c) m := by
  have ho := h.row
  have hul := h.ul
  rcases h.row.2 with ⟨rfl, h3⟩ | ⟨g, cap, cur, rfl, hg, hh, hcap, hmax, _⟩
  · refine ⟨none, 0, by rw [h3], by omega, by unfold maxLen; omega, fun j m hj => ?_⟩
    have := (List.getElem?_eq_some_iff.1 hj).1
    omega
  · refine ⟨some ⟨g, 0, none⟩, cap, rfl, hcap, hmax, fun j m hj => ?_⟩
    have hlt := (List.getElem?_eq_some_iff.1 hj).1
    obtain ⟨u, hu⟩ : ∃ u, U[j]? = some u := ⟨U[j]'(by omega), List.getElem?_eq_getElem _⟩
    have r := h.po j u m hu hj
    obtain ⟨p, c, rfl, _, _⟩ := r.isSlice
    exact ⟨g, p, c, rfl, (ho.lt g rfl).2, by rw [ho.cellAt j (by omega)]; exact hu, r⟩
theorem first_mag (o : Ob) : ∀ P : List (List Ob), (∀ m ∈ P, o ∉ m) ∨ ∃ (i : Nat) (m : List Ob), P[i]? = some m ∧ o ∈ m ∧ ∀ (j : Nat) (y : List Ob), j < i → P[j]? = some y → o ∉ y
  | [] => .inl (fun m hm => by cases hm)
  | a :: P => by
    by_cases h : o ∈ a
    · exact .inr ⟨0, a, rfl, h, fun j y hj => by omega⟩
    · rcases first_mag o P with q | ⟨i, m, q1, q2, q3⟩
      · refine .inl fun m hm => ?_
        rcases List.mem_cons.1 hm with rfl | r
        · exact h
        · exact q m r
      · refine .inr ⟨i + 1, m, by simpa using q1, q2, fun j y hj hy => ?_⟩
        cases j with
        | zero => simp at hy; subst hy; exact h
        | succ j => exact q3 j y (by omega) (by simpa using hy)
section
variable {X : List Nat} {w : World}
set_option maxHeartbeats 1000000 in
set_option maxRecDepth 100000 in
theorem indexf_ob (o : Ob) (b : Nat) (q : Option Addr) (k : Nat) (P : List (List Ob)) (hp4 : ∀ m ∈ P, m.length = 4) (hpl : P.length ≤ 65536)
    (hrow : ∀ (j : Nat) (m : List Ob), P[j]? = some m → ∃ g p c, q = some ⟨g, 0, none⟩ ∧ g < w.heap.size ∧ w.cell? ⟨g, j, none⟩ = some (.slice p m.length c) ∧ RowO X w (.slice p m.length c) m) (hb : LocN w b [.int .i64 o.1, .int .i64 o.2])
    (i0 : Nat) (hm : i0 ≤ P.length) (hno : ∀ (j : Nat) (y : List Ob), j < i0 → P[j]? = some y → o ∉ y) (res : Int) (hres : (i0 = P.length ∧ res = -1) ∨ ((∃ m, P[i0]? = some m ∧ o ∈ m) ∧ res = i0)) :
    Calls Tryz.prog 172 #[.slice q P.length k, liesF b] w fun r w' => r = .returned (.int .i64 res) ∧ Below w.heap.size w w' := by
  have HROW := Lib.hid hrow; have HNOO := Lib.hid hno; have HRES := Lib.hid hres; have HB := Lib.hid hb; have HP4 := Lib.hid hp4
  obtain ⟨n, hn⟩ : ∃ n, n = P.length := ⟨_, rfl⟩
  have EN := Lib.hid hn
  rw [← hn] at hpl hm ⊢
  unfold liesF
  clear hrow hno hres hn hb hp4
  go_enter Tryz.func172, Tryz.ntmps172
  go_wp2_with fail
  go_loopw [5, 8] (fun _ iv wr => ∃ i : Nat, i ≤ i0 ∧ iv = .int .i64 i ∧ Below w.heap.size w wr) (fun _ iv _ => n - (intOf iv).toNat)
  case atStart => exact ⟨0, by omega, by go_num, Below.refl _ _⟩
  case round =>
    obtain ⟨i, hile, rfl, hbel⟩ := hrel
    have zr := hbel.size
    by_cases hin : i < n
    · obtain ⟨y, hy⟩ : ∃ y, P[i]? = some y := ⟨P[i]'(by rw [← EN.out]; exact hin), List.getElem?_eq_getElem _⟩
      obtain ⟨g, p, c, rfl, gl, c0, ro⟩ := HROW.out i y hy
      have c0' := (hbel.cell (p := ⟨g, i, none⟩) gl).trans c0
      have gl' : g < wr.heap.size := by omega
      have j1 : (i : Int) < (n : Int) := by omega
      have y4 := HP4.out y (List.mem_of_getElem? hy)
      have LI := Lib.hid (lies1_any o b (ro.below hbel) (by omega) (HB.out.go hbel))
      rw [y4] at c0' LI
      by_cases e1 : o ∈ y
      · have d : decide (o ∈ y) = true := decide_eq_true e1
        have hm' : i = i0 := by
          rcases Nat.lt_or_ge i i0 with q | q
          · exact absurd e1 (HNOO.out i y q hy)
          · omega
        have hr : res = (i : Int) := by
          rcases HRES.out with ⟨q1, _⟩ | ⟨_, q2⟩
          · have := EN.out; omega
          · rw [q2, hm']
        rw [d] at LI
        subst hr
        clear hy hm' c0 ro d e1
        go_wp2_with fail
        refine LI.out.mono ?_
        rintro r w1 ⟨rfl, hb1⟩
        go_wp2
        go_ret
        exact ⟨rfl, hbel.trans (hb1.mono zr)⟩
      · have d : decide (o ∈ y) = false := decide_eq_false e1
        have HNX : Hid (i + 1 ≤ i0) := by
          rcases Nat.lt_or_ge i i0 with q | q
          · exact q
          · exfalso
            have q' : i = i0 := by omega
            rcases HRES.out with ⟨q1, _⟩ | ⟨⟨m, q2, q3⟩, _⟩
            · have := EN.out; omega
            · rw [← q', hy] at q2; exact e1 (by rw [Option.some.inj q2]; exact q3)
        rw [d] at LI
        clear hy c0 ro d e1
        go_wp2_with fail
        refine LI.out.mono ?_
        rintro r w1 ⟨rfl, hb1⟩
        go_wp2
        go_round
        case rel => exact ⟨i + 1, HNX.out, by go_num, hbel.trans (hb1.mono zr)⟩
        case measure => simp [intOf]; omega
    · have hr : res = -1 := by
        rcases HRES.out with ⟨_, q⟩ | ⟨⟨m, q, _⟩, _⟩
        · exact q
        · have := (List.getElem?_eq_some_iff.1 q).1
          have := EN.out; omega
      subst hr
      go_wp2
      go_ret
      exact ⟨rfl, hbel⟩
set_option maxHeartbeats 1000000 in
theorem containsf_ob (o : Ob) (b : Nat) (q : Option Addr) (k : Nat) (P : List (List Ob)) (hp4 : ∀ m ∈ P, m.length = 4) (hpl : P.length ≤ 65536)
    (hrow : ∀ (j : Nat) (m : List Ob), P[j]? = some m → ∃ g p c, q = some ⟨g, 0, none⟩ ∧ g < w.heap.size ∧ w.cell? ⟨g, j, none⟩ = some (.slice p m.length c) ∧ RowO X w (.slice p m.length c) m) (hb : LocN w b [.int .i64 o.1, .int .i64 o.2]) :
    Calls Tryz.prog 159 #[.slice q P.length k, liesF b] w fun r w' => r = .returned (.bool (decide (o ∈ P.flatten))) ∧ Below w.heap.size w w' := by
  rcases first_mag o P with h | ⟨i, m, h1, h2, h3⟩
  · have IX := Lib.hid (indexf_ob (X := X) o b q k P hp4 hpl hrow hb P.length (Nat.le_refl _) (fun j y _ hy => h y (List.mem_of_getElem? hy)) (-1) (.inl ⟨rfl, rfl⟩))
    have d : decide (o ∈ P.flatten) = false := decide_eq_false (fun r => by
      obtain ⟨m, r1, r2⟩ := List.mem_flatten.1 r
      exact h m r1 r2)
    rw [d]
    clear hrow hb h d hp4
    obtain ⟨n, hn⟩ : ∃ n, n = P.length := ⟨_, rfl⟩
    rw [← hn] at IX ⊢
    clear hn
    go_enter Tryz.func159, Tryz.ntmps159
    go_wp2_with fail
    refine IX.out.mono ?_
    rintro r w1 ⟨rfl, hb1⟩
    go_wp2
    go_ret
    exact ⟨rfl, hb1⟩
  · have IX := Lib.hid (indexf_ob (X := X) o b q k P hp4 hpl hrow hb i (Nat.le_of_lt (List.getElem?_eq_some_iff.1 h1).1) h3 i (.inr ⟨⟨m, h1, h2⟩, rfl⟩))
    have d : decide (o ∈ P.flatten) = true := decide_eq_true (List.mem_flatten.2 ⟨m, List.mem_of_getElem? h1, h2⟩)
    have dm : decide ((0 : Int) ≤ (i : Int)) = true := decide_eq_true (by omega)
    rw [d]
    clear hrow hb h1 h2 h3 d hp4
    obtain ⟨n, hn⟩ : ∃ n, n = P.length := ⟨_, rfl⟩
    rw [← hn] at IX ⊢
    clear hn
    go_enter Tryz.func159, Tryz.ntmps159
    go_wp2_with fail
    refine IX.out.mono ?_
    rintro r w1 ⟨rfl, hb1⟩
    go_wp2
    go_ret
    exact ⟨rfl, hb1⟩
end
end Go.Proofs.YtcokmiidgdmdlaaGreatDoor
