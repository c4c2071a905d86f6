/- The statement FramesCover: its walk. -/
import Derived.Test.YtcooflachcimbaaDoorCovB
import Derived.Test.YtcooflachcimbaaDoorRow
import Derived.Test.YtcooflachcimbaaDoorFramesK
import Derived.Test.YtcooflachcimbaaDoorCode
import Derived.Test.YtcooflachcimbaaDoorLawA
namespace Go.Proofs.YtcooflachcimbaaDoor
open Go.RowKit
set_option linter.unusedSimpArgs false

theorem check_ok {B : Nat} {ev : Nat → Addr} (a k n : Int) (w : World) (hE : ErrC B ev w) (h : checkE a k n = 0) :
    Calls Tryd.prog 23 #[.agg #[.int .i64 a, .int .i64 k], .int .i64 n] w fun e w' => e = .returned .nilIface ∧ Below w.heap.size w w' :=
  (check_any a k n w hE).mono fun _ _ ⟨h1, h2⟩ => ⟨by rw [h1, h]; rfl, h2⟩
theorem checkE_mk {a k n : Int} (n1 : 1 ≤ n) (n2 : n ≤ 256) (k0 : 0 ≤ k) (k6 : k ≤ 6) (a0 : 0 ≤ a) (h : a + sz k ≤ n) (hm : a % sz k = 0) : checkE a k n = 0 := by
  unfold checkE
  rw [if_neg (by omega), if_pos hm]

theorem bnext {w a b : World} (h : Below w.heap.size w a) (k : Below a.heap.size a b) : Below w.heap.size w b := h.trans (k.mono h.size)
theorem Chain.le {e : Int} : ∀ {x : Int} {l : List (Int × Int)}, Chain e x l → x ≤ e
  | _, [], h => by simp [Chain] at h; omega
  | x, b :: r, h => by
    obtain ⟨_, h0, h6, _, h4, _⟩ := h
    have := (sz_bd h0 h6).1
    omega

set_option maxHeartbeats 2000000 in
set_option maxRecDepth 100000 in
theorem framesCover_yes {B : Nat} {ev : Nat → Addr} (a n : Int) (w : World) (hE : Errs B ev w) (a0 : 0 ≤ a) (n0 : 0 ≤ n) (h : a + n ≤ 256) :
    Calls Tryd.prog 7 #[.int .i64 a, .int .i64 n] w fun e w' => e = .returned (.bool true) ∧ Below w.heap.size w w' := by
  have hB := hE.size
  have hlen := covL_length n.toNat a n (Nat.le_refl _)
  have hch := covL_chain n.toNat a n (Nat.le_refl _) n0
  have hcA := fun w => cover_ok a n w a0 n0 h
  have hcB := fun w => coverOf_ok a n w a0 n0 h
  generalize covL a n = L at *
  have hl2 : L.length ≤ 256 := by omega
  have HA := Lib.hid hcA; have HBB := Lib.hid hcB; have HCH := Lib.hid hch
  clear hcA hcB hch hlen
  obtain ⟨e, he⟩ : ∃ e, e = a + n := ⟨_, rfl⟩
  have HE := Lib.hid he
  rw [← he] at h
  clear he
  go_enter Tryd.func7, Tryd.ntmps7
  go_wp2_with fail
  refine (halved_yes _ hE.c).mono ?_
  rintro e w1 ⟨rfl, hb1⟩; obtain ⟨c1, f1⟩ := bcell hb1; have z1 := hb1.size; try simp at z1 c1 f1
  have hE1 := hE.go hb1
  go_wp2_with fail
  refine (HA.out _).mono ?_
  rintro _ w2 ⟨v, rfl, hv⟩
  have hb2 := hv.2
  have hE2 := hE1.go hb2
  have hr := hv.row (by unfold maxLen; omega)
  clear hv
  go_wp2_with fail
  refine (HBB.out _).mono ?_
  rintro _ w3 ⟨v', rfl, hv'⟩
  have hb3 := hv'.2
  have hE3 := hE2.go hb3
  have hr' := hv'.row (by unfold maxLen; omega)
  have hr2 := hr.below hb3
  clear hv' hr
  go_wp2_with fail
  refine (same_yes v v' L _ hr2 hr').mono ?_
  rintro e w4 ⟨rfl, hb4⟩; obtain ⟨c4, f4⟩ := bcell hb4; have z4 := hb4.size; try simp at z4 c4 f4
  have hE4 := hE3.go hb4
  have hr4 : RowB w2.heap.size w4 v L := hr2.below (hb4.mono hb3.size)
  clear hr2 hr'
  rcases hr4 with ⟨rfl, rfl⟩ | ⟨g, cap, rfl, hm, hg, hN, hc⟩
  · have e0 : a = e := by simpa [Chain, HE.out] using HCH.out
    have en : n = 0 := by have := HE.out; omega
    subst en
    go_wp2_with fail
    refine wp_loop_rounds 1 ?_
    rw [rounds_succ]
    go_wp2
    go_ret
    exact ⟨rfl, bnext (bnext (bnext hb1 hb2) hb3) hb4⟩
  · have C1 := Lib.hid hc
    obtain ⟨N, hn⟩ : ∃ N, N = L.length := ⟨_, rfl⟩
    rw [← hn] at hm hl2 ⊢
    have HN := Lib.hid hn
    clear hn hc
    have hbel4 : Below w.heap.size w w4 := bnext (bnext (bnext hb1 hb2) hb3) hb4
    clear c1 f1 c4 f4 z1 z4
    go_wp2_with fail
    go_loopw [0, 1, 10] (fun xa xn i wr => ∃ (x m : Int) (j : Nat), xa = .int .i64 x ∧ xn = .int .i64 m ∧ i = .int .i64 j ∧ j ≤ N ∧ 0 ≤ x ∧ 0 ≤ m ∧ x + m = e ∧ Chain e x (L.drop j) ∧ Below w4.heap.size w4 wr) (fun _ _ i _ => N - (intOf i).toNat)
    case atStart => exact ⟨a, n, 0, rfl, rfl, rfl, Nat.zero_le _, a0, n0, HE.out.symm, by simpa [HE.out] using HCH.out, Below.refl _ _⟩
    case round =>
      obtain ⟨x, m, j, rfl, rfl, rfl, hj, x0, m0, hxm, hch, hbel⟩ := hrel
      have hEr := hE4.go hbel
      by_cases hlt : j < N
      · obtain ⟨b, hb⟩ : ∃ b, L[j]? = some b := ⟨L[j]'(by rw [← HN.out]; exact hlt), List.getElem?_eq_getElem _⟩
        obtain ⟨y, k⟩ := b
        rw [List.drop_eq_getElem_cons (List.getElem?_eq_some_iff.1 hb).1, (List.getElem?_eq_some_iff.1 hb).2] at hch
        obtain ⟨hy, k0, k6, hmod, hfit, hnext⟩ := hch
        simp only at hy k0 k6 hmod hfit hnext
        subst hy
        obtain ⟨p1, p2⟩ := C1.out j y k hb
        clear hb
        obtain ⟨s1, s2⟩ := sz_bd k0 k6
        have hck := checkE_mk (a := y) (k := k) (n := 256) (by omega) (by omega) k0 k6 x0 (by omega) hmod
        have hgr : g < wr.heap.size := by have := hbel.size; omega
        have hg4 : g < w4.heap.size := by omega
        have r1 : wr.cell? ⟨g, j * 2, none⟩ = some (.int .i64 y) := by rw [hbel.cell (p := ⟨g, j * 2, none⟩) hg4]; exact p1
        have r2 : wr.cell? ⟨g, j * 2 + 1, none⟩ = some (.int .i64 k) := by rw [hbel.cell (p := ⟨g, j * 2 + 1, none⟩) hg4]; exact p2
        have HM := Lib.hid hxm; have HK := Lib.hid hck; have HX := Lib.hid hnext
        have hmle : sz k ≤ m := by omega
        have hm256 : m ≤ 256 := by omega
        have hy256 : y ≤ 256 := by omega
        clear p1 p2 hmod hxm hck hnext
        go_wp2_with fail
        refine (check_ok _ _ _ _ hEr.c HK.out).mono ?_
        rintro e w5 ⟨rfl, hb5⟩; obtain ⟨c5, f5⟩ := bcell hb5; have z5 := hb5.size; try simp at z5 c5 f5
        have hEs := hEr.go hb5
        go_wp2_with (go_at_call 19; refine (size_yes _ _ ⟨k0, k6⟩).mono ?_; rintro e w' ⟨rfl, rfl⟩)
        go_roundw
        case rel => exact ⟨y + sz k, m - sz k, j + 1, rfl, rfl, by go_num, by omega, by omega, by omega, by have := HM.out; omega, HX.out, hbel.trans (hb5.mono hbel.size)⟩
        case measure => simp [intOf]; omega
      · have ej : j = L.length := by have := HN.out; omega
        rw [ej, List.drop_length] at hch
        have hx : x = e := by simpa [Chain] using hch
        have em : m = 0 := by omega
        subst em
        have hfin : Below w.heap.size w wr := hbel4.trans (hbel.mono hbel4.size)
        clear hx hxm hch ej
        go_wp2
        go_ret
        exact ⟨rfl, hfin⟩

set_option maxHeartbeats 1000000 in
theorem framesCover_walk {B : Nat} {ev : Nat → Addr} (a n : Int) (w : World) (hE : Errs B ev w) :
    Calls Tryd.prog 7 #[.int .i64 a, .int .i64 n] w fun e w' => e = .returned (.bool true) ∧ Below w.heap.size w w' := by
  by_cases h : 0 ≤ a ∧ 0 ≤ n ∧ a + n ≤ 256
  · exact framesCover_yes a n w hE h.1 h.2.1 h.2.2
  · have H := Lib.hid h
    clear h
    have hB := hE.size
    go_enter Tryd.func7, Tryd.ntmps7
    go_wp2_with fail
    refine (halved_yes _ hE.c).mono ?_
    rintro e w1 ⟨rfl, hb1⟩; obtain ⟨c1, f1⟩ := bcell hb1; have z1 := hb1.size; try simp at z1 c1 f1
    have hE1 := hE.go hb1
    go_wp2_with fail
    refine (cover_err _ _ _ hE1.c (by have := H.out; omega)).mono ?_
    rintro e w2 ⟨rfl, hb2⟩; obtain ⟨c2, f2⟩ := bcell hb2; have z2 := hb2.size; try simp at z2 c2 f2
    have hE2 := hE1.go hb2
    go_wp2_with fail
    refine (coverOf_no _ _ _ (by have := H.out; omega)).mono ?_
    rintro e w' ⟨rfl, rfl⟩
    go_wp2_with fail
    refine (coded_at 2 2 _ hE2 (by decide) rfl).mono ?_
    rintro e w3 ⟨rfl, hb3⟩; obtain ⟨c3, f3⟩ := bcell hb3; have z3 := hb3.size; try simp at z3 c3 f3
    go_wp2
    go_ret
    exact ⟨rfl, (by repeat (first | exact Below.refl _ _ | refine Below.drew ?_ | refine below_drewN ?_ _ | refine Below.trans ?_ (Below.mono (by assumption) (by first | omega | (simp; omega) | (simp; done))) | refine Below.alloc ?_ (by first | omega | (simp; omega) | (simp; done)) _ | refine Below.setCell ?_ (by first | omega | (simp; omega) | (simp; done)) _))⟩
end Go.Proofs.YtcooflachcimbaaDoor
