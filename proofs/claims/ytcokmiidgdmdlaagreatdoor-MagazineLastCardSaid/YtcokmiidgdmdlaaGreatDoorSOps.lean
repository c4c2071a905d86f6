/- Package slab: what only reads, by its contracts. -/
import Derived.Test.YtcokmiidgdmdlaaGreatDoorSB
import Derived.Deep.RegionHeld3
import Derived.Deep.DrawnRows
namespace Go.Proofs.YtcokmiidgdmdlaaGreatDoor
open Go.RowKit
set_option linter.unusedSimpArgs false
set_option linter.unusedVariables false
attribute [local go_sem ↓] Go.wp_at_zero Go.wp_at_succ

/-- the order of places -/
def ordP (n a m b : Int) : Int := if cmpI n m = 0 then cmpI a b else cmpI n m
theorem cmpI_is (a b : Int) : (cmpI a b < 0 ↔ a < b) ∧ (cmpI a b = 0 ↔ a = b) := by
  unfold cmpI
  split
  · omega
  · split <;> omega
theorem ordP_lt (s : Sl) (j a : Int) : decide (ordP s.nd s.pg j a < 0) = decide (ltP s j a) := by
  obtain ⟨p1, p2⟩ := cmpI_is s.nd j
  obtain ⟨q1, q2⟩ := cmpI_is s.pg a
  rw [Bool.eq_iff_iff]
  simp only [decide_eq_true_eq]
  unfold ordP ltP
  split
  · rename_i h
    rw [p2] at h; rw [q1]
    constructor
    · intro q; exact .inr ⟨h, q⟩
    · rintro (q | ⟨_, q⟩)
      · omega
      · exact q
  · rename_i h
    rw [p2] at h; rw [p1]
    constructor
    · intro q; exact .inl q
    · rintro (q | ⟨q, _⟩)
      · exact q
      · exact absurd q h

set_option maxHeartbeats 1000000 in
theorem or_two (g : Nat) (x y : Int) (w : World) (h0 : w.cell? ⟨g, 0, none⟩ = some (.int .i64 x)) (h1 : w.cell? ⟨g, 1, none⟩ = some (.int .i64 y)) (hl : g < w.heap.size) :
    Calls Tryz.prog 161 #[.slice (some ⟨g, 0, none⟩) 2 2] w fun e w' => e = .returned (.int .i64 (if x = 0 then y else x)) ∧ w = w' := by
  by_cases hx : x = 0
  · have d0 : (x != 0) = false := by simp [hx]
    rw [if_pos hx]
    by_cases hy : y = 0
    · have d1 : (y != 0) = false := by simp [hy]
      rw [hy]
      subst hx hy
      go_enter Tryz.func161, Tryz.ntmps161
      go_wp2
      go_loop [5, 8] (fun _ iv => ∃ i : Nat, i ≤ 2 ∧ iv = .int .i64 i) (fun _ iv => 2 - (intOf iv).toNat)
      case atStart => exact ⟨0, by omega, by go_num⟩
      case round =>
        obtain ⟨i, hi, rfl⟩ := hrel
        rcases (show i = 0 ∨ i = 1 ∨ i = 2 by omega) with rfl | rfl | rfl
        · go_wp2
          go_round
          case rel => exact ⟨1, by omega, by go_num⟩
          case measure => simp [intOf]
        · go_wp2
          go_round
          case rel => exact ⟨2, by omega, by go_num⟩
          case measure => simp [intOf]
        · go_wp2
          go_ret
          exact ⟨rfl, rfl⟩
    · have d1 : (y != 0) = true := by simp [hy]
      subst hx
      go_enter Tryz.func161, Tryz.ntmps161
      go_wp2
      go_loop [5, 8] (fun _ iv => ∃ i : Nat, i ≤ 1 ∧ iv = .int .i64 i) (fun _ iv => 2 - (intOf iv).toNat)
      case atStart => exact ⟨0, by omega, by go_num⟩
      case round =>
        obtain ⟨i, hi, rfl⟩ := hrel
        rcases (show i = 0 ∨ i = 1 by omega) with rfl | rfl
        · go_wp2
          go_round
          case rel => exact ⟨1, by omega, by go_num⟩
          case measure => simp [intOf]
        · go_wp2
          go_ret
          exact ⟨rfl, rfl⟩
  · have d0 : (x != 0) = true := by simp [hx]
    rw [if_neg hx]
    clear hx
    go_enter Tryz.func161, Tryz.ntmps161
    go_wp2
    go_loop [5, 8] (fun _ iv => iv = .int .i64 0) (fun _ _ => 0)
    case atStart => rfl
    case round =>
      subst hrel
      go_wp2
      go_ret
      exact ⟨rfl, rfl⟩

set_option maxHeartbeats 1000000 in
set_option maxRecDepth 100000 in
theorem place_order (n a k m b l : Int) (w : World) :
    Calls Tryz.prog 140 #[.agg #[.int .i64 n, .int .i64 a, .int .i64 k], .agg #[.int .i64 m, .int .i64 b, .int .i64 l]] w fun e w' => e = .returned (.int .i64 (ordP n a m b)) ∧ Below w.heap.size w w' := by
  have CC : Hid (∀ (x y : Int) (W : World), Calls Tryz.prog 68 #[.int .i64 x, .int .i64 y] W fun e w' => e = .returned (.int .i64 (cmpI x y)) ∧ w' = W) := fun x y W => (compare_int x y W).mono fun e w' ⟨h1, h2⟩ => ⟨h1, h2.symm⟩
  obtain ⟨c1, hc1⟩ : ∃ c1, c1 = cmpI n m := ⟨_, rfl⟩
  obtain ⟨c2, hc2⟩ : ∃ c2, c2 = cmpI a b := ⟨_, rfl⟩
  have CA : Hid (∀ W, Calls Tryz.prog 68 #[.int .i64 n, .int .i64 m] W fun e w' => e = .returned (.int .i64 c1) ∧ w' = W) := fun W => by rw [hc1]; exact CC.out n m W
  have CB : Hid (∀ W, Calls Tryz.prog 68 #[.int .i64 a, .int .i64 b] W fun e w' => e = .returned (.int .i64 c2) ∧ w' = W) := fun W => by rw [hc2]; exact CC.out a b W
  have hp : ordP n a m b = if c1 = 0 then c2 else c1 := by unfold ordP; rw [hc1, hc2]
  rw [hp]
  clear hc1 hc2 hp CC
  go_enter Tryz.func140, Tryz.ntmps140
  go_wp2_with fail
  refine wp_tail 12 (by kernel_rfl) (by kernel_rfl) ?_
  simp only [List.take_succ_cons, List.take_zero, List.drop_succ_cons, List.drop_zero]
  iterate 4 still_step
  still_call (CA.out _)
  iterate 6 still_step
  still_call (CB.out _)
  refine wpStill_nil ?_
  go_wp2_with fail
  refine (or_two (w.heap.size + 1 + 1) c1 c2 _ (by rw [World.cell?_drew, World.cell?_alloc_at _ _ _ _ (by simp)]; rfl) (by rw [World.cell?_drew, World.cell?_alloc_at _ _ _ _ (by simp)]; rfl) (by simp)).mono ?_
  rintro e w1 ⟨rfl, rfl⟩
  go_wp2
  all_goals
    go_ret
    exact ⟨rfl, (by repeat (first | exact Below.refl _ _ | refine Below.drew ?_ | refine below_drewN ?_ _ | refine Below.trans ?_ (Below.mono (by assumption) (by first | omega | (simp; omega) | (simp; done))) | refine Below.alloc ?_ (by first | omega | (simp; omega) | (simp; done)) _ | refine Below.setCell ?_ (by first | omega | (simp; omega) | (simp; done)) _))⟩

set_option maxHeartbeats 1000000 in
theorem index_bool {X : List Nat} (T : List Bool) (g k : Nat) (w : World) (h : LocN w g (bools T)) (hf : freeAt T = k) (hm : manyT T < T.length) (hl : T.length ≤ 64) :
    Calls Tryz.prog 91 #[.slice (some ⟨g, 0, none⟩) T.length T.length, .bool false] w fun e w' => e = .returned (.int .i64 k) ∧ w = w' := by
  obtain ⟨s1, s2, s3⟩ := freeAt_spec hm
  rw [hf] at s1 s2 s3
  have ck := h.c k _ (bools_get s2)
  have CB : Hid (∀ j, j < k → w.cell? ⟨g, j, none⟩ = some (.bool true)) := fun j hj => h.c j _ (bools_get (s3 j hj))
  have lt := h.lt
  obtain ⟨n, hn⟩ : ∃ n, n = T.length := ⟨_, rfl⟩
  rw [← hn] at s1 hl ⊢
  clear h hf hm s2 s3 hn
  go_enter Tryz.func91, Tryz.ntmps91
  go_wp2
  go_loop [5, 8] (fun _ iv => ∃ j : Nat, j ≤ k ∧ iv = .int .i64 j) (fun _ iv => n - (intOf iv).toNat)
  case atStart => exact ⟨0, by omega, by go_num⟩
  case round =>
    obtain ⟨j, hj, rfl⟩ := hrel
    have j0 : (0 : Int) ≤ (j : Int) := by omega
    have j1 : (j : Int) < (n : Int) := by omega
    by_cases hjk : j < k
    · have cj := CB.out j hjk
      go_wp2
      go_round
      case rel => exact ⟨j + 1, by omega, by go_num⟩
      case measure => simp [intOf]; omega
    · obtain rfl : j = k := by omega
      go_wp2
      go_ret
      exact ⟨rfl, rfl⟩

/-- a slab's five cells, as facts -/
theorem SlabB.cells {w : World} {p : Nat × Nat} {s : Sl} (h : SlabB w p s) : w.cell? ⟨p.1, 0, none⟩ = some (.int .i64 s.nd) ∧ w.cell? ⟨p.1, 1, none⟩ = some (.int .i64 s.pg) ∧ w.cell? ⟨p.1, 2, none⟩ = some (.int .i64 0) ∧ w.cell? ⟨p.1, 3, none⟩ = some (.slice (some ⟨p.2, 0, none⟩) s.T.length s.T.length) ∧ w.cell? ⟨p.1, 4, none⟩ = some (.int .i64 (manyS s)) ∧ p.1 < w.heap.size ∧ p.2 < w.heap.size :=
  ⟨h.1.c 0 _ rfl, h.1.c 1 _ rfl, h.1.c 2 _ rfl, h.1.c 3 _ rfl, h.1.c 4 _ rfl, h.1.lt, h.2.lt⟩

def growF : Value := .func (.func 139) #[] #[]
set_option maxHeartbeats 1000000 in
theorem grow1_any (p : Nat × Nat) (s : Sl) (j a : Int) (w : World) (h : SlabB w p s) :
    Calls Tryz.prog 139 #[.pointer (some ⟨p.1, 0, none⟩), .agg #[.int .i64 j, .int .i64 a, .int .i64 0]] w fun e w' => e = .returned (.int .i64 (ordP s.nd s.pg j a)) ∧ Below w.heap.size w w' := by
  have b0 : Below w.heap.size w (w.alloc (.cells #[.int .i64 j, .int .i64 a, .int .i64 0] 41)) := (by repeat (first | exact Below.refl _ _ | refine Below.drew ?_ | refine below_drewN ?_ _ | refine Below.trans ?_ (Below.mono (by assumption) (by first | omega | (simp; omega) | (simp; done))) | refine Below.alloc ?_ (by first | omega | (simp; omega) | (simp; done)) _ | refine Below.setCell ?_ (by first | omega | (simp; omega) | (simp; done)) _))
  have HB0 := Lib.hid b0
  obtain ⟨c0, c1, c2, _, _, l1, _⟩ := SlabB.cells h
  have l2 : p.1 ≠ w.heap.size := by omega
  have l3 : p.1 < w.heap.size + 1 := by omega
  have LP : LocN (w.alloc (.cells #[.int .i64 j, .int .i64 a, .int .i64 0] 41)) w.heap.size [.int .i64 j, .int .i64 a, .int .i64 0] := LocN.mk_ w [.int .i64 j, .int .i64 a, .int .i64 0] 41 rfl
  have p0 := LP.c 0 _ rfl; have p1 := LP.c 1 _ rfl; have p2 := LP.c 2 _ rfl; have pl := LP.lt
  have OR := Lib.hid (fun W => place_order s.nd s.pg 0 j a 0 W)
  obtain ⟨x, hx⟩ : ∃ x, x = ordP s.nd s.pg j a := ⟨_, rfl⟩
  rw [← hx] at OR ⊢
  clear h b0 LP hx
  go_enter Tryz.func139, Tryz.ntmps139
  go_wp2_with fail
  refine wp_region_behind (by kernel_rfl) (by kernel_rfl) ?_
  repeat (go_big_quiet_step (((go_at_call 140; exact Calls.behind (OR.out _)))))
  refine wpQuiet_nil ?_
  intro w1 hw'
  have hb1 := behind_out hw'
  clear hw'
  obtain ⟨c1, f1⟩ := bcell hb1; have z1 := hb1.size; try simp at z1 c1 f1
  go_wp2
  go_ret
  exact ⟨rfl, HB0.out.trans (hb1.mono (by simp))⟩

/-- does a slab begin at that page? -/
def hitS (j a : Int) (C : List Sl) : Bool := match C[posS j a C]? with
  | some s => ordP s.nd s.pg j a == 0
  | none => false
set_option maxHeartbeats 2000000 in
set_option maxRecDepth 100000 in
theorem bsearch_ok {X : List Nat} {B : Nat} {pc pz e : Nat} {v : Value} {A : SA} {C : List Sl} (j a : Int) (w : World) (h : CacB X B w pc pz e v A C) (hp : C.Pairwise ltS) (hn : C.length ≤ 1024) :
    Calls Tryz.prog 138 #[v, .agg #[.int .i64 j, .int .i64 a, .int .i64 0], growF] w fun r w' => r = .returned (.tuple #[.int .i64 (posS j a C), .bool (hitS j a C)]) ∧ Below w.heap.size w w' := by
  obtain ⟨q, k, rfl, hk1, hk2, hrow⟩ := h.form
  have HC := Lib.hid h; have HROW := Lib.hid hrow
  have hle := posS_le j a C
  have PL : Hid (∀ (i : Nat) (s : Sl), i < posS j a C → C[i]? = some s → ltP s j a) := fun i s hi hs => posS_lt hi hs
  have PG : Hid (∀ (i : Nat) (s : Sl), posS j a C ≤ i → C[i]? = some s → ¬ ltP s j a) := fun i s hi hs => posS_ge hp hi hs
  obtain ⟨n, hnn⟩ : ∃ n, n = C.length := ⟨_, rfl⟩
  have EN := Lib.hid hnn
  obtain ⟨m, hm⟩ : ∃ m, m = posS j a C := ⟨_, rfl⟩
  rw [← hnn] at hn hk1 hle ⊢
  have HT1 : Hid (∀ s, C[posS j a C]? = some s → hitS j a C = (ordP s.nd s.pg j a == 0)) := fun s hs => by unfold hitS; rw [hs]
  have HT2 : Hid (C.length ≤ posS j a C → hitS j a C = false) := fun hl => by unfold hitS; rw [List.getElem?_eq_none hl]
  obtain ⟨bb, hbb⟩ : ∃ bb, bb = hitS j a C := ⟨_, rfl⟩
  rw [← hbb] at HT1 HT2 ⊢
  rw [← hm] at PL PG HT1 HT2 hle ⊢
  clear hbb
  have LP := Lib.hid (show LocN (w.alloc (.cells #[.int .i64 j, .int .i64 a, .int .i64 0] 41)) w.heap.size [.int .i64 j, .int .i64 a, .int .i64 0] from LocN.mk_ w [.int .i64 j, .int .i64 a, .int .i64 0] 41 rfl)
  have HB0 := Lib.hid (show Below w.heap.size w (w.alloc (.cells #[.int .i64 j, .int .i64 a, .int .i64 0] 41)) from (by repeat (first | exact Below.refl _ _ | refine Below.drew ?_ | refine below_drewN ?_ _ | refine Below.trans ?_ (Below.mono (by assumption) (by first | omega | (simp; omega) | (simp; done))) | refine Below.alloc ?_ (by first | omega | (simp; omega) | (simp; done)) _ | refine Below.setCell ?_ (by first | omega | (simp; omega) | (simp; done)) _)))
  unfold maxLen at hk2
  unfold growF
  clear h hp hrow hnn hm
  go_enter Tryz.func138, Tryz.ntmps138
  go_wp2_with fail
  go_loopw [9, 10] (fun iv jv wr => ∃ x y : Nat, x ≤ m ∧ m ≤ y ∧ y ≤ n ∧ iv = .int .i64 x ∧ jv = .int .i64 y ∧ Hid (LocN wr w.heap.size [.int .i64 j, .int .i64 a, .int .i64 0]) ∧ Below w.heap.size w wr) (fun iv jv _ => (intOf jv - intOf iv).toNat)
  case atStart => exact ⟨0, n, by omega, hle, Nat.le_refl _, by go_num, rfl, LP, HB0.out⟩
  case round =>
    obtain ⟨x, y, hx, hy, hyn, rfl, rfl, HL, hbel⟩ := hrel
    have p0 := HL.out.c 0 _ rfl; have p1 := HL.out.c 1 _ rfl; have p2 := HL.out.c 2 _ rfl; have pl := HL.out.lt
    by_cases hxy : x < y
    · obtain ⟨d, hd⟩ : ∃ d, d = (x + y) / 2 := ⟨_, rfl⟩
      have d1 : x ≤ d := by omega
      have d2 : d < y := by omega
      obtain ⟨s, hs⟩ : ∃ s, C[d]? = some s := ⟨C[d]'(by rw [← EN.out]; omega), List.getElem?_eq_getElem _⟩
      obtain ⟨p, hp, hsl, _⟩ := (HC.out.below hbel).at hs
      obtain ⟨g, rfl, hg, hc0⟩ := HROW.out d p hp
      have ck : wr.cell? ⟨g, d, none⟩ = some (.pointer (some ⟨p.1, 0, none⟩)) := (hbel.cell (p := ⟨g, d, none⟩) hg).trans hc0
      have gl : g < wr.heap.size := Nat.lt_of_lt_of_le hg hbel.size
      have G1 := Lib.hid (fun W (b : Below wr.heap.size wr W) => grow1_any p s j a W (hsl.keep (Keep.of (S := []) b) (by simp) (by simp)))
      have hdi : ((x : Int) + (y : Int)) / 2 = (d : Int) := by omega
      have hdk : d < k := by omega
      have HPL := Lib.hid (PL.out d s); have HPG := Lib.hid (PG.out d s); have HS := Lib.hid hs; have HD := Lib.hid hd
      obtain ⟨r, hr⟩ : ∃ r, r = ordP s.nd s.pg j a := ⟨_, rfl⟩
      have HR := Lib.hid (show decide (r < 0) = decide (ltP s j a) by rw [hr]; exact ordP_lt s j a)
      rw [← hr] at G1
      clear hr hsl hs hd hc0 hp
      have LW : Hid (∀ W, Below wr.heap.size wr W → LocN W w.heap.size [.int .i64 j, .int .i64 a, .int .i64 0] ∧ Below w.heap.size w W) := fun W b => ⟨HL.out.go b, hbel.trans (b.mono hbel.size)⟩
      cases hlt : decide (r < 0) with
      | true =>
        go_wp2_with fail
        refine wp_region_behind (by kernel_rfl) (by kernel_rfl) ?_
        repeat (go_big_quiet_step (((go_at_call 139; exact Calls.behind (G1.out _ (Behind.h _))))))
        refine wpQuiet_nil ?_
        intro w4 hw'
        have hb4 := behind_out hw'
        clear hw'
        obtain ⟨c4, f4⟩ := bcell hb4; have z4 := hb4.size; try simp at z4 c4 f4
        go_wp2
        go_round
        case rel =>
          have hdm : d < m := Nat.lt_of_not_le fun q => HPG.out q HS.out (by have := HR.out; rw [hlt] at this; exact of_decide_eq_true this.symm)
          exact ⟨d + 1, y, by omega, by omega, hyn, by go_num, rfl, (LW.out _ (by assumption)).1, (LW.out _ (by assumption)).2⟩
        case measure => simp [intOf]; omega
      | false =>
        go_wp2_with fail
        refine wp_region_behind (by kernel_rfl) (by kernel_rfl) ?_
        repeat (go_big_quiet_step (((go_at_call 139; exact Calls.behind (G1.out _ (Behind.h _))))))
        refine wpQuiet_nil ?_
        intro w5 hw'
        have hb5 := behind_out hw'
        clear hw'
        obtain ⟨c5, f5⟩ := bcell hb5; have z5 := hb5.size; try simp at z5 c5 f5
        go_wp2
        go_round
        case rel =>
          have hnl : ¬ ltP s j a := by have := HR.out; rw [hlt] at this; exact of_decide_eq_false this.symm
          have hdm : m ≤ d := Nat.le_of_not_lt fun q => hnl (HPL.out q HS.out)
          exact ⟨x, d, hx, hdm, by omega, rfl, rfl, (LW.out _ (by assumption)).1, (LW.out _ (by assumption)).2⟩
        case measure => simp [intOf]; omega
    · obtain rfl : x = m := by omega
      have BW : Hid (∀ W, Below wr.heap.size wr W → Below w.heap.size w W) := fun W b => hbel.trans (b.mono hbel.size)
      by_cases hxn : x < n
      · obtain ⟨s, hs⟩ : ∃ s, C[x]? = some s := ⟨C[x]'(by rw [← EN.out]; omega), List.getElem?_eq_getElem _⟩
        obtain ⟨p, hp, hsl, _⟩ := (HC.out.below hbel).at hs
        obtain ⟨g, rfl, hg, hc0⟩ := HROW.out x p hp
        have ck : wr.cell? ⟨g, x, none⟩ = some (.pointer (some ⟨p.1, 0, none⟩)) := (hbel.cell (p := ⟨g, x, none⟩) hg).trans hc0
        have gl : g < wr.heap.size := Nat.lt_of_lt_of_le hg hbel.size
        have G1 := Lib.hid (fun W (b : Below wr.heap.size wr W) => grow1_any p s j a W (hsl.keep (Keep.of (S := []) b) (by simp) (by simp)))
        have hdk : x < k := by omega
        obtain ⟨r, hr⟩ : ∃ r, r = ordP s.nd s.pg j a := ⟨_, rfl⟩
        have HB1 := HT1.out s hs
        rw [← hr] at G1 HB1
        clear HT1 HT2
        subst HB1
        clear hr hsl hs hc0 hp
        go_wp2_with fail
        refine wp_region_behind (by kernel_rfl) (by kernel_rfl) ?_
        repeat (go_big_quiet_step (((go_at_call 139; exact Calls.behind (G1.out _ (Behind.h _))))))
        refine wpQuiet_nil ?_
        intro w6 hw'
        have hb6 := behind_out hw'
        clear hw'
        obtain ⟨c6, f6⟩ := bcell hb6; have z6 := hb6.size; try simp at z6 c6 f6
        go_wp2
        go_ret2
        exact ⟨rfl, BW.out _ (by assumption)⟩
      · have hb0 := HT2.out (by rw [← EN.out]; omega)
        clear HT1 HT2
        subst hb0
        obtain rfl : x = n := by omega
        go_wp2_with fail
        go_quiet (fail)
        go_wp2
        go_ret2
        exact ⟨rfl, BW.out _ (by repeat (first | exact Below.refl _ _ | refine Below.drew ?_ | refine below_drewN ?_ _ | refine Below.trans ?_ (Below.mono (by assumption) (by first | omega | (simp; omega) | (simp; done))) | refine Below.alloc ?_ (by first | omega | (simp; omega) | (simp; done)) _ | refine Below.setCell ?_ (by first | omega | (simp; omega) | (simp; done)) _))⟩
end Go.Proofs.YtcokmiidgdmdlaaGreatDoor
