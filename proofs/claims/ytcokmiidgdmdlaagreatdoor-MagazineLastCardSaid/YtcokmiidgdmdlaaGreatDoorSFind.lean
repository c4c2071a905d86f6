/- Package slab: find, Give by their contracts. -/
import Derived.Test.YtcokmiidgdmdlaaGreatDoorSTake
import Derived.Test.YtcokmiidgdmdlaaGreatDoorSArith
namespace Go.Proofs.YtcokmiidgdmdlaaGreatDoor
open Go.RowKit Go.Maps
set_option linter.unusedSimpArgs false
set_option linter.unusedVariables false
attribute [local go_sem ↓] Go.wp_at_zero Go.wp_at_succ

section
variable {B : Nat} {ev : Nat → Addr} {pc pz e : Nat} {mn lw hi : Int} {O : List (List Int)} {X : List Nat} {vs : Value} {A : SA} {c : Ca} {w : World}
set_option maxHeartbeats 8000000 in
set_option maxRecDepth 100000 in
theorem find_walk (n oa : Int) (h : CS B w pc pz mn lw hi O e X vs A c) (hI : InvC e c) (o1 : -9223372036854775808 ≤ oa) (o2 : oa ≤ 9223372036854775807) (m : Nat) (hm : m ≤ c.C.length) (hno : ∀ j s, j < m → c.C[j]? = some s → hasS e (n, oa) s = false) (res : Value) (k : Nat)
    (hres : (m = c.C.length ∧ res = .pointer none ∧ k = 0) ∨ (∃ s p, c.C[m]? = some s ∧ A[m]? = some p ∧ hasS e (n, oa) s = true ∧ res = .pointer (some ⟨p.1, 0, none⟩) ∧ k = kOf e (n, oa) s)) :
    Calls Tryz.prog 92 #[.pointer (some ⟨pc, 0, none⟩), .agg #[.int .i64 n, .int .i64 oa]] w fun r w' => r = .returned (.tuple #[res, .int .i64 k]) ∧ Below w.heap.size w w' := by
  obtain ⟨qv, kv, evs, kv1, kv2, hrow⟩ := h.ch.form
  subst evs
  have e1 := hI.e1; have e2 := hI.e2
  have few := hI.few
  have HIN := Lib.hid hI
  have b0 : Below w.heap.size w (w.alloc (.cells #[.int .i64 n, .int .i64 oa] 72)) := (by repeat (first | exact Below.refl _ _ | refine Below.drew ?_ | refine below_drewN ?_ _ | refine Below.trans ?_ (Below.mono (by assumption) (by first | omega | (simp; omega) | (simp; done))) | refine Below.alloc ?_ (by first | omega | (simp; omega) | (simp; done)) _ | refine Below.setCell ?_ (by first | omega | (simp; omega) | (simp; done)) _))
  have HL := Lib.hid (show LocN (w.alloc (.cells #[.int .i64 n, .int .i64 oa] 72)) w.heap.size [.int .i64 n, .int .i64 oa] from LocN.mk_ w [.int .i64 n, .int .i64 oa] 72 rfl)
  have HROW := Lib.hid hrow; have HC := Lib.hid h.ch; have HB0 := Lib.hid b0
  have HNOO := Lib.hid hno; have HRES := Lib.hid hres
  have c1 := h.ch.c.c 1 _ rfl; have c2 := h.ch.c.c 2 _ rfl; have cl := h.ch.c.lt
  obtain ⟨nn, hnn⟩ : ∃ nn, nn = c.C.length := ⟨_, rfl⟩
  have EN := Lib.hid hnn
  rw [← hnn] at c2 few kv1 hm
  unfold maxLen at kv2
  have en0 : ¬ ((e : Int) = 0) := by omega
  have en1 : ¬ (e = 0) := by omega
  clear h hI hrow hnn b0 hno hres
  go_enter Tryz.func92, Tryz.ntmps92
  go_wp2_with fail
  go_loopw [14] (fun iv wr => ∃ i : Nat, i ≤ m ∧ iv = .int .i64 i ∧ Below w.heap.size (w.alloc (.cells #[.int .i64 n, .int .i64 oa] 72)) wr ∧ Below w.heap.size w wr ∧ Hid (LocN wr w.heap.size [.int .i64 n, .int .i64 oa])) (fun iv _ => nn - (intOf iv).toNat)
  case atStart => exact ⟨0, by omega, by go_num, Below.refl _ _, HB0.out, HL⟩
  case round =>
    obtain ⟨i, hile, rfl, hbel0, hbel, HLr⟩ := hrel
    have BW : Hid (∀ W, Below wr.heap.size wr W → Below w.heap.size (w.alloc (.cells #[.int .i64 n, .int .i64 oa] 72)) W ∧ Below w.heap.size w W ∧ Hid (LocN W w.heap.size [.int .i64 n, .int .i64 oa])) := fun W b => ⟨hbel0.trans (b.mono hbel.size), hbel.trans (b.mono hbel.size), HLr.out.go b⟩
    have m0 := HLr.out.c 0 _ rfl; have m1 := HLr.out.c 1 _ rfl; have ml := HLr.out.lt
    have g1 : wr.cell? ⟨pc, 1, none⟩ = some (.int .i64 e) := (hbel.cell (p := ⟨pc, 1, none⟩) cl).trans c1
    have gl0 : pc < wr.heap.size := Nat.lt_of_lt_of_le cl hbel.size
    by_cases hin : i < nn
    · obtain ⟨s, hs⟩ : ∃ s, c.C[i]? = some s := ⟨c.C[i]'(by rw [← EN.out]; exact hin), List.getElem?_eq_getElem _⟩
      obtain ⟨p, hp, hsl, _⟩ := (HC.out.below hbel).at hs
      obtain ⟨g, rfl, hg, hc0⟩ := HROW.out i p hp
      have ck : wr.cell? ⟨g, i, none⟩ = some (.pointer (some ⟨p.1, 0, none⟩)) := (hbel.cell (p := ⟨g, i, none⟩) hg).trans hc0
      have gl : g < wr.heap.size := Nat.lt_of_lt_of_le hg hbel.size
      have hik : i < kv := by omega
      obtain ⟨d0, d1, _, d3, d4, dl, dl2⟩ := hsl.cells
      have hsm := List.mem_of_getElem? hs
      obtain ⟨r1, r2, r3, r4⟩ := HIN.out.rng hsm
      have hl64 : s.T.length ≤ 64 := by rw [HIN.out.len s hsm]; unfold roomE; exact Nat.div_le_self _ _
      have hW := hasS_W e1 e2 (n := n) o1 o2 r3 r4 hl64
      obtain ⟨f1, f2⟩ := offW_fit oa s.pg
      have qW := fun h => quo_W (oa := oa) (pg := s.pg) e1 h
      have KW := Lib.hid (kOf_W (n := n) e1 e2 o1 o2 r3 r4 hl64)
      have TB := Lib.hid (fun (j : Nat) (b : Bool) (hj : s.T[j]? = some b) => hsl.2.c j _ (bools_get hj))
      have hd : wrap64 (oa - s.pg * 64) = offW oa s.pg := by unfold offW; rw [IntWalk.i64_left]
      have qb : offW oa s.pg / (e : Int) ≤ 9223372036854775807 ∨ offW oa s.pg < 0 := by
        by_cases q : offW oa s.pg < 0
        · exact .inr q
        · left
          have : offW oa s.pg / (e : Int) ≤ offW oa s.pg := Int.ediv_le_self _ (by omega)
          omega
      have NO : hasS e (n, oa) s = false → i + 1 ≤ m := fun hf => by
        rcases Nat.lt_or_ge i m with q | q
        · exact q
        · exfalso
          obtain rfl : i = m := by omega
          rcases HRES.out with ⟨t, _⟩ | ⟨s', p', t1, _, t2, _⟩
          · have := EN.out; omega
          · rw [hs] at t1; obtain rfl := Option.some.inj t1
            rw [hf] at t2; cases t2
      have YES : hasS e (n, oa) s = true → res = .pointer (some ⟨p.1, 0, none⟩) ∧ k = kOf e (n, oa) s := fun ht => by
        rcases Nat.lt_or_ge i m with q | q
        · have := HNOO.out i s q hs
          rw [ht] at this; cases this
        · obtain rfl : i = m := by omega
          rcases HRES.out with ⟨t, _⟩ | ⟨s', p', t1, t3, _, t4, t5⟩
          · have := EN.out; omega
          · rw [hs] at t1; obtain rfl := Option.some.inj t1
            rw [hp] at t3; obtain rfl := Option.some.inj t3
            exact ⟨t4, t5⟩
      clear hc0
      by_cases h1 : s.nd = n
      · have b1 : (s.nd == n) = true := by simp [h1]
        have b1' : decide (s.nd = n) = true := by simp [h1]
        by_cases h2 : 0 ≤ offW oa s.pg
        · have b2 : decide (0 ≤ offW oa s.pg) = true := decide_eq_true h2
          obtain ⟨v1, v2⟩ := qW h2
          have m1' : 0 ≤ offW oa s.pg % (e : Int) := Int.emod_nonneg _ (by omega)
          have m2' : offW oa s.pg % (e : Int) < e := Int.emod_lt_of_pos _ (by omega)
          have qn : (numW e oa s.pg : Int) = offW oa s.pg / (e : Int) := by rw [← v1, Int.tdiv_eq_ediv_of_nonneg h2]
          have nb : (numW e oa s.pg : Int) ≤ 9223372036854775807 := by rw [qn]; omega
          have qn' := qn.symm
          clear qn
          have hwq : IntKind.i64.wrap ((numW e oa s.pg : Nat) : Int) = (numW e oa s.pg : Int) := IntWalk.i64_in _ (by omega)
          by_cases h3 : offW oa s.pg % (e : Int) = 0
          · have b3 : decide (offW oa s.pg % (e : Int) = 0) = true := decide_eq_true h3
            by_cases h4 : numW e oa s.pg < s.T.length
            · have b4 : decide (numW e oa s.pg < s.T.length) = true := decide_eq_true h4
              have b4' : decide ((numW e oa s.pg : Int) < (s.T.length : Int)) = true := decide_eq_true (by omega)
              obtain ⟨bt, hbt⟩ : ∃ bt, s.T[numW e oa s.pg]? = some bt := ⟨s.T[numW e oa s.pg], List.getElem?_eq_getElem h4⟩
              have ct := TB.out _ _ hbt
              have hW5 : hasS e (n, oa) s = bt := by rw [hW, b1', b2, b3, b4, hbt]; cases bt <;> rfl
              cases bt with
              | true =>
                obtain ⟨y1, y2⟩ := YES hW5
                have y3 := KW.out hW5
                rw [← y3] at y2
                clear y3
                clear hW NO YES KW qW hs hp hsl hbt qb HNOO HRES hsm
                generalize hdd : offW oa s.pg = d at *
                generalize numW e oa s.pg = q at *
                generalize d % (e : Int) = rr at *
                generalize s.T.length = l at *
                subst y1 y2
                go_wp2_with fail
                go_quiet (fail)
                go_wp2_with fail
                go_quiet (fail)
                go_wp2_with fail
                go_quiet (fail)
                go_wp2
                go_ret2
                exact ⟨rfl, (BW.out _ (by repeat (first | exact Below.refl _ _ | refine Below.drew ?_ | refine below_drewN ?_ _ | refine Below.trans ?_ (Below.mono (by assumption) (by first | omega | (simp; omega) | (simp; done))) | refine Below.alloc ?_ (by first | omega | (simp; omega) | (simp; done)) _ | refine Below.setCell ?_ (by first | omega | (simp; omega) | (simp; done)) _))).2.1⟩
              | false =>
                have HNO := Lib.hid (NO hW5)
                clear hW NO YES KW qW hbt qb HNOO HRES hsm
                generalize hdd : offW oa s.pg = d at *
                generalize numW e oa s.pg = q at *
                generalize d % (e : Int) = rr at *
                generalize s.T.length = l at *
                clear hs hp hsl
                go_wp2_with fail
                go_quiet (fail)
                go_wp2_with fail
                go_quiet (fail)
                go_wp2
                go_round
                case rel => exact ⟨i + 1, HNO.out, by go_num, BW.out _ (by repeat (first | exact Below.refl _ _ | refine Below.drew ?_ | refine below_drewN ?_ _ | refine Below.trans ?_ (Below.mono (by assumption) (by first | omega | (simp; omega) | (simp; done))) | refine Below.alloc ?_ (by first | omega | (simp; omega) | (simp; done)) _ | refine Below.setCell ?_ (by first | omega | (simp; omega) | (simp; done)) _))⟩
                case measure => simp [intOf]; omega
            · have b4 : decide (numW e oa s.pg < s.T.length) = false := decide_eq_false h4
              have b4' : decide ((numW e oa s.pg : Int) < (s.T.length : Int)) = false := decide_eq_false (by omega)
              have HNO := Lib.hid (NO (by rw [hW, b4]; simp))
              clear hW NO YES KW qW qb HNOO HRES hsm
              generalize hdd : offW oa s.pg = d at *
              generalize numW e oa s.pg = q at *
              generalize d % (e : Int) = rr at *
              generalize s.T.length = l at *
              clear hs hp hsl
              go_wp2_with fail
              go_quiet (fail)
              go_wp2_with fail
              go_quiet (fail)
              go_wp2
              go_round
              case rel => exact ⟨i + 1, HNO.out, by go_num, BW.out _ (by repeat (first | exact Below.refl _ _ | refine Below.drew ?_ | refine below_drewN ?_ _ | refine Below.trans ?_ (Below.mono (by assumption) (by first | omega | (simp; omega) | (simp; done))) | refine Below.alloc ?_ (by first | omega | (simp; omega) | (simp; done)) _ | refine Below.setCell ?_ (by first | omega | (simp; omega) | (simp; done)) _))⟩
              case measure => simp [intOf]; omega
          · have b3 : decide (offW oa s.pg % (e : Int) = 0) = false := decide_eq_false h3
            have b3' : (offW oa s.pg % (e : Int) == 0) = false := by simpa using h3
            have HNO := Lib.hid (NO (by rw [hW, b3]; simp))
            clear hW NO YES KW qW qb HNOO HRES hsm v1 qn' nb hwq
            generalize hdd : offW oa s.pg = d at *
            generalize d % (e : Int) = rr at *
            clear hs hp hsl
            go_wp2_with fail
            go_quiet (fail)
            go_wp2_with fail
            go_quiet (fail)
            go_wp2
            go_round
            case rel => exact ⟨i + 1, HNO.out, by go_num, BW.out _ (by repeat (first | exact Below.refl _ _ | refine Below.drew ?_ | refine below_drewN ?_ _ | refine Below.trans ?_ (Below.mono (by assumption) (by first | omega | (simp; omega) | (simp; done))) | refine Below.alloc ?_ (by first | omega | (simp; omega) | (simp; done)) _ | refine Below.setCell ?_ (by first | omega | (simp; omega) | (simp; done)) _))⟩
            case measure => simp [intOf]; omega
        · have b2 : decide (0 ≤ offW oa s.pg) = false := decide_eq_false h2
          have HNO := Lib.hid (NO (by rw [hW, b2]; simp))
          clear hW NO YES KW qW qb HNOO HRES hsm
          generalize hdd : offW oa s.pg = d at *
          clear hs hp hsl
          go_wp2_with fail
          go_quiet (fail)
          go_wp2_with fail
          go_quiet (fail)
          go_wp2
          go_round
          case rel => exact ⟨i + 1, HNO.out, by go_num, BW.out _ (by repeat (first | exact Below.refl _ _ | refine Below.drew ?_ | refine below_drewN ?_ _ | refine Below.trans ?_ (Below.mono (by assumption) (by first | omega | (simp; omega) | (simp; done))) | refine Below.alloc ?_ (by first | omega | (simp; omega) | (simp; done)) _ | refine Below.setCell ?_ (by first | omega | (simp; omega) | (simp; done)) _))⟩
          case measure => simp [intOf]; omega
      · have b1 : (s.nd == n) = false := by simp [h1]
        have b1' : decide (s.nd = n) = false := by simp [h1]
        have HNO := Lib.hid (NO (by rw [hW, b1']; simp))
        clear hW NO YES KW qW qb HNOO HRES hsm
        generalize hdd : offW oa s.pg = d at *
        clear hs hp hsl
        go_wp2_with fail
        go_quiet (fail)
        go_wp2_with fail
        go_quiet (fail)
        go_wp2
        go_round
        case rel => exact ⟨i + 1, HNO.out, by go_num, BW.out _ (by repeat (first | exact Below.refl _ _ | refine Below.drew ?_ | refine below_drewN ?_ _ | refine Below.trans ?_ (Below.mono (by assumption) (by first | omega | (simp; omega) | (simp; done))) | refine Below.alloc ?_ (by first | omega | (simp; omega) | (simp; done)) _ | refine Below.setCell ?_ (by first | omega | (simp; omega) | (simp; done)) _))⟩
        case measure => simp [intOf]; omega
    · have RS : res = .pointer none ∧ k = 0 := by
        rcases HRES.out with ⟨_, t1, t2⟩ | ⟨s', p', t1, _⟩
        · exact ⟨t1, t2⟩
        · have := (List.getElem?_eq_some_iff.1 t1).1
          have := EN.out; omega
      obtain ⟨rfl, rfl⟩ := RS
      obtain rfl : i = nn := by omega
      go_wp2
      go_ret2
      exact ⟨rfl, (BW.out _ (Below.refl _ _)).2.1⟩
theorem find_some (n oa : Int) (h : CS B w pc pz mn lw hi O e X vs A c) (hI : InvC e c) (o1 : -9223372036854775808 ≤ oa) (o2 : oa ≤ 9223372036854775807) {i : Nat} (hf : findS e (n, oa) c.C = some i) {s : Sl} {p : Nat × Nat} (hs : c.C[i]? = some s) (hp : A[i]? = some p) :
    Calls Tryz.prog 92 #[.pointer (some ⟨pc, 0, none⟩), .agg #[.int .i64 n, .int .i64 oa]] w fun r w' => r = .returned (.tuple #[.pointer (some ⟨p.1, 0, none⟩), .int .i64 (kOf e (n, oa) s)]) ∧ Below w.heap.size w w' := by
  obtain ⟨z, hz, hh, hn⟩ := findS_some hf
  rw [hs] at hz; obtain rfl := Option.some.inj hz
  exact find_walk n oa h hI o1 o2 i (Nat.le_of_lt (List.getElem?_eq_some_iff.1 hs).1) hn _ _ (.inr ⟨s, p, hs, hp, hh, rfl, rfl⟩)
theorem find_none (n oa : Int) (h : CS B w pc pz mn lw hi O e X vs A c) (hI : InvC e c) (o1 : -9223372036854775808 ≤ oa) (o2 : oa ≤ 9223372036854775807) (hf : findS e (n, oa) c.C = none) :
    Calls Tryz.prog 92 #[.pointer (some ⟨pc, 0, none⟩), .agg #[.int .i64 n, .int .i64 oa]] w fun r w' => r = .returned (.tuple #[.pointer none, .int .i64 (0 : Nat)]) ∧ Below w.heap.size w w' :=
  find_walk n oa h hI o1 o2 c.C.length (Nat.le_refl _) (fun j s _ hs => findS_none hf s (List.mem_of_getElem? hs)) _ _ (.inl ⟨rfl, rfl, rfl⟩)

set_option maxHeartbeats 2000000 in
/-- Give of an object that is taken -/
theorem sgive_yes (n oa : Int) (h : CS B w pc pz mn lw hi O e X vs A c) (hI : InvC e c) (o1 : -9223372036854775808 ≤ oa) (o2 : oa ≤ 9223372036854775807) {i : Nat} (hf : findS e (n, oa) c.C = some i) :
    Calls Tryz.prog 39 #[.pointer (some ⟨pc, 0, none⟩), .agg #[.int .i64 n, .int .i64 oa]] w fun r w' => r = .returned .nilIface ∧ CS B w' pc pz mn lw hi O e X vs A (giveC e c (n, oa)).1 ∧ Keep (cay pc vs A) w w' := by
  obtain ⟨s, hs, hh, hn⟩ := findS_some hf
  have hg : (giveC e c (n, oa)).1 = ⟨c.L, c.C.set i (useS s (kOf e (n, oa) s) false)⟩ := by unfold giveC; rw [hf]; simp only [hs]
  rw [hg]
  obtain ⟨p, hp, _, _⟩ := h.ch.at hs
  have b0 : Below w.heap.size w (w.alloc (.cells #[.int .i64 n, .int .i64 oa] 72)) := (by repeat (first | exact Below.refl _ _ | refine Below.drew ?_ | refine below_drewN ?_ _ | refine Below.trans ?_ (Below.mono (by assumption) (by first | omega | (simp; omega) | (simp; done))) | refine Below.alloc ?_ (by first | omega | (simp; omega) | (simp; done)) _ | refine Below.setCell ?_ (by first | omega | (simp; omega) | (simp; done)) _))
  have FS := Lib.hid (find_some n oa (h.below b0) hI o1 o2 hf hs hp)
  obtain ⟨k, hk⟩ : ∃ k, k = kOf e (n, oa) s := ⟨_, rfl⟩
  have kt := ((hasS_iff hI.e1).1 hh).1
  rw [← hk] at FS kt ⊢
  have klt := (List.getElem?_eq_some_iff.1 kt).1
  have hl64 : s.T.length ≤ 64 := by rw [hI.len s (List.mem_of_getElem? hs)]; unfold roomE; exact Nat.div_le_self _ _
  have HB0 := Lib.hid b0
  have HH := Lib.hid h; have HP := Lib.hid hp; have HS := Lib.hid hs
  have hms : manyS s ≤ 64 := Nat.le_trans (manyT_le s.T) hl64
  have hm1 : 1 ≤ manyS s := manyT_pos kt
  have HMS : ((manyS (useS s k false) : Nat) : Int) = (manyS s : Int) - 1 := by
    have h0 := manyT_set kt false
    have h1 : manyS (useS s k false) = manyT (s.T.set k false) := rfl
    have h2 : manyS s = manyT s.T := rfl
    simp at h0
    omega
  have ne12 : ¬ (p.1 = p.2) := (h.slab hp).2.2
  have ne21 : ¬ (p.2 = p.1) := fun q => ne12 q.symm
  have HMS' := Lib.hid HMS
  have HKT := Lib.hid kt
  clear h hI hf hh hn hg hp hs b0 hk kt HMS
  go_enter Tryz.func39, Tryz.ntmps39
  go_wp2_with fail
  refine FS.out.mono ?_
  rintro r w1 ⟨rfl, hb1⟩
  have B1 := Lib.hid (HB0.out.trans (hb1.mono (by simp)))
  have SLB := (HH.out.below B1.out).ch.sl i p s HP.out HS.out
  obtain ⟨d0, d1, _, d3, d4, dl, dl2⟩ := SLB.cells
  have fz : w1.frozen? ⟨p.2, k, none⟩ = false := SLB.2.f k (by rw [bools_length]; omega)
  have fz4 : w1.frozen? ⟨p.1, 4, none⟩ = false := SLB.1.f 4 (by simp [slabCells])
  have ck : w1.cell? ⟨p.2, k, none⟩ = some (.bool true) := SLB.2.c k _ (bools_get HKT.out)
  have HSP := Lib.hid (SlabB.put (k := k) false SLB ne12 klt)
  rw [HMS'.out] at HSP
  clear SLB FS hb1
  go_wp2
  go_ret
  refine ⟨rfl, (HH.out.below B1.out).use HP.out HSP.out.1 HSP.out.2, (Keep.of B1.out).then (HSP.out.2.mono fun y hy => ?_)⟩
  have m := HH.out.slab HP.out
  simp at hy
  rcases hy with rfl | rfl
  · exact m.1
  · exact m.2.1
end
end Go.Proofs.YtcokmiidgdmdlaaGreatDoor
