/- Package zone: is a config right? -/
import Derived.Test.YtigginpcokfihaaGreatDoorZIdx
namespace Go.Proofs.YtigginpcokfihaaGreatDoor
open Go.RowKit
set_option linter.unusedSimpArgs false
set_option linter.unusedVariables false

/-- a config's two lists lie in memory -/
structure Cfg (X : List Nat) (w : World) (vP vN : Value) (P : List Int) (N : List (List Int)) : Prop where
  p : RowV X w vP (ints P)
  n : RowR X w vN N
theorem Cfg.below {X : List Nat} {w w' : World} {vP vN : Value} {P : List Int} {N : List (List Int)} (h : Cfg X w vP vN P N) (k : Below w.heap.size w w') : Cfg X w' vP vN P N := ⟨h.p.below k, h.n.below k⟩
theorem Cfg.keep {X S : List Nat} {w w' : World} {vP vN : Value} {P : List Int} {N : List (List Int)} (h : Cfg X w vP vN P N) (k : Keep S w w') (hs : ∀ s ∈ S, s ∈ X ∨ w.heap.size ≤ s) : Cfg X w' vP vN P N := ⟨h.p.keep k hs, h.n.keep k hs⟩
def cfgL (vP vN : Value) (mn lw hi : Int) : List Value := [vP, vN, .int .i64 mn, .int .i64 lw, .int .i64 hi]

def farNo (l : List Int) : Bool := l.any noFar
def marksC (mn lw hi : Int) : Bool := decide (0 ≤ mn) && decide (mn ≤ lw) && decide (lw ≤ hi)
def bndC (P : List Int) (N : List (List Int)) (mn lw hi : Int) : Bool := decide (1 ≤ P.length) && decide (P.length ≤ 4) && !(P.any noPg) && !(N.any farNo) && marksC mn lw hi

set_option maxHeartbeats 2000000 in
theorem bounds_any (X : List Nat) (vP vN : Value) (P : List Int) (N : List (List Int)) (mn lw hi : Int) (w : World) (h : Cfg X w vP vN P N) :
    Calls Tryz.prog 37 #[.agg #[vP, vN, .int .i64 mn, .int .i64 lw, .int .i64 hi]] w fun e w' => e = .returned (.bool (bndC P N mn lw hi)) ∧ Below w.heap.size w w' := by
  obtain ⟨p, cap, rfl, hcp, hmx, _⟩ := h.p.int
  unfold maxLen at hmx
  by_cases h1 : P.length < 1
  · have e : bndC P N mn lw hi = false := by unfold bndC; simp; omega
    rw [e]
    have h1' : (P.length : Int) < 1 := by omega
    clear e h h1
    go_enter Tryz.func37, Tryz.ntmps37
    go_wp2
    go_ret
    exact ⟨rfl, (by repeat (first | exact Below.refl _ _ | refine Below.drew ?_ | refine below_drewN ?_ _ | refine Below.trans ?_ (Below.mono (by assumption) (by first | omega | (simp; omega) | (simp; done))) | refine Below.alloc ?_ (by first | omega | (simp; omega) | (simp; done)) _ | refine Below.setCell ?_ (by first | omega | (simp; omega) | (simp; done)) _))⟩
  by_cases h2 : 4 < P.length
  · have e : bndC P N mn lw hi = false := by unfold bndC; simp; omega
    rw [e]
    have h1' : ¬ (P.length : Int) < 1 := by omega
    have h2' : (4 : Int) < (P.length : Int) := by omega
    clear e h h1 h2
    go_enter Tryz.func37, Tryz.ntmps37
    go_wp2
    go_ret
    exact ⟨rfl, (by repeat (first | exact Below.refl _ _ | refine Below.drew ?_ | refine below_drewN ?_ _ | refine Below.trans ?_ (Below.mono (by assumption) (by first | omega | (simp; omega) | (simp; done))) | refine Below.alloc ?_ (by first | omega | (simp; omega) | (simp; done)) _ | refine Below.setCell ?_ (by first | omega | (simp; omega) | (simp; done)) _))⟩
  have h1' : ¬ (P.length : Int) < 1 := by omega
  have h2' : ¬ (4 : Int) < (P.length : Int) := by omega
  have L0 := LocN.new w [.slice p P.length cap, vN, .int .i64 mn, .int .i64 lw, .int .i64 hi] 36
  have hb0 : Below w.heap.size w (w.alloc (.cells [.slice p P.length cap, vN, .int .i64 mn, .int .i64 lw, .int .i64 hi].toArray 36)) := (by repeat (first | exact Below.refl _ _ | refine Below.drew ?_ | refine below_drewN ?_ _ | refine Below.trans ?_ (Below.mono (by assumption) (by first | omega | (simp; omega) | (simp; done))) | refine Below.alloc ?_ (by first | omega | (simp; omega) | (simp; done)) _ | refine Below.setCell ?_ (by first | omega | (simp; omega) | (simp; done)) _))
  have PG := Lib.hid (pg_has X _ P _ (h.p.below hb0))
  have HN := Lib.hid h.n
  have eb : bndC P N mn lw hi = (!(P.any noPg) && !(N.any farNo) && marksC mn lw hi) := by
    unfold bndC
    rw [decide_eq_true (show 1 ≤ P.length by omega), decide_eq_true (show P.length ≤ 4 by omega)]
    rfl
  rw [eb]
  clear eb h h1 h2
  cases hq : P.any noPg with
  | true =>
    rw [hq] at PG
    clear hq
    go_enter Tryz.func37, Tryz.ntmps37
    go_wp2_with fail
    refine PG.out.mono ?_
    rintro e w1 ⟨rfl, hb1⟩
    go_wp2
    go_ret
    exact ⟨rfl, hb0.trans (hb1.mono (by simp))⟩
  | false =>
    rw [hq] at PG
    clear hq
    go_enter Tryz.func37, Tryz.ntmps37
    go_wp2_with fail
    refine PG.out.mono ?_
    rintro e w1 ⟨rfl, hb1⟩
    have L1 := Lib.hid (L0.go hb1)
    have K1 : Below w.heap.size w w1 := hb0.trans (hb1.mono (by simp))
    have RN := HN.out.below K1
    obtain ⟨q, k, rfl, hck, hkm, hc⟩ := RN.form
    unfold maxLen at hkm
    have C := Lib.hid hc
    have l1 := L1.out.c 1 _ rfl
    have ll := L1.out.lt
    obtain ⟨n, hn⟩ : ∃ n, n = N.length := ⟨_, rfl⟩
    rw [← hn] at hck l1 L1 ⊢
    have HL := Lib.hid hn
    clear hn PG L0 RN hc hb0 hb1
    go_wp2_with fail
    go_loopw [23] (fun iv wr => ∃ j : Nat, j ≤ n ∧ iv = .int .i64 j ∧ Hid ((N.take j).any farNo = false) ∧ Below w1.heap.size w1 wr) (fun iv _ => n - (intOf iv).toNat)
    case atStart => exact ⟨0, Nat.zero_le _, by go_num, (show _ = _ by simp), Below.refl _ _⟩
    case round =>
      obtain ⟨j, hj, rfl, hall, hbel⟩ := hrel
      have zr := hbel.size
      have zz := K1.size
      by_cases hjn : j < n
      · obtain ⟨x, hx⟩ : ∃ x, N[j]? = some x := ⟨N[j]'(by rw [← HL.out]; exact hjn), List.getElem?_eq_getElem _⟩
        have hsn := any_snoc (p := farNo) hx
        rw [hall.out, Bool.false_or] at hsn
        have SN := Lib.hid hsn
        clear hsn
        obtain ⟨g, off, u, rfl, _, hg, hc, hu⟩ := C.out j x hx
        have r1 := (hbel.cell (p := ⟨g, off + j, none⟩) hg).trans hc
        have gr : g < wr.heap.size := by omega
        have CL := far_has X u x wr (hu.below hbel)
        obtain ⟨q, k, rfl, _⟩ := hu.int
        clear hc hx
        cases hq : farNo x with
        | true =>
          have hr : Hid (N.any farNo = true) := any_of_take (SN.out.trans hq)
          rw [show x.any noFar = true from hq] at CL
          have CL' := Lib.hid CL
          clear hq CL SN
          go_wp2_with fail
          refine CL'.out.mono ?_
          rintro e w2 ⟨rfl, hb2⟩
          go_wp2
          go_ret
          exact ⟨by rw [hr.out]; simp, K1.trans ((hbel.trans (hb2.mono zr)).mono zz)⟩
        | false =>
          have hr : Hid ((N.take (j + 1)).any farNo = false) := SN.out.trans hq
          rw [show x.any noFar = false from hq] at CL
          have CL' := Lib.hid CL
          clear hq CL SN
          go_wp2_with fail
          refine CL'.out.mono ?_
          rintro e w2 ⟨rfl, hb2⟩
          go_wp2
          go_roundw
          case rel => exact ⟨j + 1, by omega, by go_num, hr, hbel.trans (hb2.mono zr)⟩
          case measure => simp [intOf]; omega
      · have ej : j = n := by omega
        have hr : Hid (N.any farNo = false) := by have := hall.out; rwa [ej, HL.out, List.take_length] at this
        have L2 := L1.out.go hbel
        have m0 := L2.c 2 _ rfl; have m1 := L2.c 3 _ rfl; have m2 := L2.c 4 _ rfl; have ml := L2.lt
        have K2 := Lib.hid (K1.trans (hbel.mono zz))
        clear ej hall L2 L1 C HN
        by_cases a1 : 0 ≤ mn
        · by_cases a2 : mn ≤ lw
          · have fin : Hid (marksC mn lw hi = decide (lw ≤ hi)) := show _ = _ by unfold marksC; simp [a1, a2]
            go_wp2
            go_ret
            exact ⟨by rw [hr.out, fin.out]; simp, K2.out⟩
          · have fin : Hid (marksC mn lw hi = false) := show _ = _ by unfold marksC; simp [a1, a2]
            have a2' : decide (mn ≤ lw) = false := decide_eq_false a2
            go_wp2
            go_ret
            exact ⟨by rw [hr.out, fin.out]; simp, K2.out⟩
        · have fin : Hid (marksC mn lw hi = false) := show _ = _ by unfold marksC; simp [a1]
          have a1' : decide (0 ≤ mn) = false := decide_eq_false a1
          go_wp2
          go_ret
          exact ⟨by rw [hr.out, fin.out]; simp, K2.out⟩

def sqC (P : List Int) (N : List (List Int)) : Bool := decide (N.length = P.length) && !(N.any (lenNe P.length))
/-- node j is not farther from node i (whose row is l) than node i itself -/
def badB (i : Nat) (l : List Int) (j : Nat) : Bool := decide (i ≠ j) && decide (l.getD j 0 ≤ l.getD i 0)
def badRow (i : Nat) (l : List Int) : Bool := (List.range l.length).any (badB i l)
def badAt (N : List (List Int)) (i : Nat) : Bool := badRow i (N.getD i [])
def badC (N : List (List Int)) : Bool := (List.range N.length).any (badAt N)
/-- a config's error, by its number -/
def cfgE (P : List Int) (N : List (List Int)) (mn lw hi : Int) : Nat := if bndC P N mn lw hi = false then 2 else if sqC P N && !badC N then 0 else 3
def codeN (b : Bool) : Nat := if b then 3 else 0
theorem range_snoc (f : Nat → Bool) (j : Nat) : (List.range (j + 1)).any f = ((List.range j).any f || f j) := by rw [List.range_succ, List.any_append]; simp
theorem range_of {f : Nat → Bool} {j n : Nat} (hj : j < n) (h : f j = true) : (List.range n).any f = true := List.any_eq_true.2 ⟨j, List.mem_range.2 hj, h⟩
theorem getD_of {α : Type} {l : List α} {j : Nat} {x d : α} (h : l[j]? = some x) : l.getD j d = x := by rw [List.getD_eq_getElem?_getD, h]; rfl

set_option maxHeartbeats 4000000 in
theorem check_any {B : Nat} {ev : Nat → Addr} (X : List Nat) (vP vN : Value) (P : List Int) (N : List (List Int)) (mn lw hi : Int) (w : World) (hE : ErrC B ev w) (h : Cfg X w vP vN P N) :
    Calls Tryz.prog 15 #[.agg #[vP, vN, .int .i64 mn, .int .i64 lw, .int .i64 hi]] w fun e w' => e = .returned (errV ev (cfgE P N mn lw hi)) ∧ Below w.heap.size w w' := by
  have hB := hE.size
  obtain ⟨p, cap, rfl, hcp, hmx, _⟩ := h.p.int
  obtain ⟨q, k, rfl, hck, hkm, hc⟩ := h.n.form
  have C := Lib.hid hc
  unfold maxLen at hmx hkm
  have L0 := LocN.new w [.slice p P.length cap, .slice q N.length k, .int .i64 mn, .int .i64 lw, .int .i64 hi] 36
  have hb0 : Below w.heap.size w (w.alloc (.cells [.slice p P.length cap, .slice q N.length k, .int .i64 mn, .int .i64 lw, .int .i64 hi].toArray 36)) := (by repeat (first | exact Below.refl _ _ | refine Below.drew ?_ | refine below_drewN ?_ _ | refine Below.trans ?_ (Below.mono (by assumption) (by first | omega | (simp; omega) | (simp; done))) | refine Below.alloc ?_ (by first | omega | (simp; omega) | (simp; done)) _ | refine Below.setCell ?_ (by first | omega | (simp; omega) | (simp; done)) _))
  have BD := Lib.hid (bounds_any X _ _ P N mn lw hi _ (h.below hb0))
  have HH := Lib.hid h
  clear hc h
  cases hq : bndC P N mn lw hi with
  | false =>
    have ce : cfgE P N mn lw hi = 2 := by unfold cfgE; rw [if_pos hq]
    rw [ce]
    rw [hq] at BD
    clear hq ce C
    go_enter Tryz.func15, Tryz.ntmps15
    go_wp2_with fail
    refine BD.out.mono ?_
    rintro e w1 ⟨rfl, hb1⟩
    have hE1 := hE.below ((hb0.trans (hb1.mono (by simp))).mono hB)
    have e1 := hE1.c2; have e2 := hE1.z2
    go_wp2
    go_ret
    exact ⟨rfl, hb0.trans (hb1.mono (by simp))⟩
  | true =>
    rw [hq] at BD
    have ce0 : cfgE P N mn lw hi = if sqC P N && !badC N then 0 else 3 := by unfold cfgE; rw [if_neg (by rw [hq]; simp)]
    rw [ce0]
    have hP4 : P.length ≤ 4 := by
      unfold bndC at hq
      simp at hq
      omega
    clear hq ce0
    by_cases hl : N.length = P.length
    · have hl1 : ((N.length : Int) != (P.length : Int)) = false := bne_eq_false_iff_eq.2 (by omega)
      cases hq : N.any (lenNe P.length) with
      | true =>
        have ce : (if sqC P N && !badC N then 0 else 3) = 3 := by unfold sqC; rw [hq]; simp
        rw [ce]
        clear ce hl
        go_enter Tryz.func15, Tryz.ntmps15
        go_wp2_with fail
        refine BD.out.mono ?_
        rintro e w1 ⟨rfl, hb1⟩
        have K1 : Below w.heap.size w w1 := hb0.trans (hb1.mono (by simp))
        have L1 := L0.go hb1
        have l0 := L1.c 0 _ rfl; have l1 := L1.c 1 _ rfl; have ll := L1.lt
        have z1 := K1.size
        have LQ := lenNe_has X (.slice q N.length k) N P.length w1.heap.size (w1.alloc (.cells #[.int .i64 P.length] 3)) ((HH.out.below K1).n.below (by repeat (first | exact Below.refl _ _ | refine Below.drew ?_ | refine below_drewN ?_ _ | refine Below.trans ?_ (Below.mono (by assumption) (by first | omega | (simp; omega) | (simp; done))) | refine Below.alloc ?_ (by first | omega | (simp; omega) | (simp; done)) _ | refine Below.setCell ?_ (by first | omega | (simp; omega) | (simp; done)) _))) (by rw [World.cell?_alloc_at _ _ _ _ (by simp)]; rfl) (by simp)
        rw [hq] at LQ
        have LQ' := Lib.hid LQ
        clear hq LQ BD L1 L0
        go_wp2_with fail
        refine LQ'.out.mono ?_
        rintro e w2 ⟨rfl, hb2⟩
        have K2 : Below w.heap.size w w2 := Below.trans (K1.alloc z1 _) (hb2.mono (by simp; omega))
        have hE2 := hE.below (K2.mono hB)
        have e1 := hE2.c3; have e2 := hE2.z3
        go_wp2
        go_ret
        exact ⟨rfl, K2⟩
      | false =>
        have ce : (if sqC P N && !badC N then 0 else 3) = codeN (badC N) := by
          unfold sqC; rw [hq, decide_eq_true hl]
          cases badC N <;> rfl
        rw [ce]
        have hsq : Hid (∀ (j : Nat) (l : List Int), N[j]? = some l → l.length = P.length) := fun j l hj => by
          have := List.any_eq_false.1 hq l (List.mem_of_getElem? hj)
          unfold lenNe at this
          simp at this
          omega
        obtain ⟨n, hn⟩ : ∃ n, n = N.length := ⟨_, rfl⟩
        have hn4 : n ≤ 4 := by omega
        have LQh : Hid (∀ w' c, RowR X w' (.slice q n k) N → w'.cell? ⟨c, 0, none⟩ = some (.int .i64 P.length) → c < w'.heap.size → Calls Tryz.prog 38 #[.slice q n k, .func (.func 39) #[] #[.pointer (some ⟨c, 0, none⟩)]] w' fun e w'' => e = .returned (.bool false) ∧ Below w'.heap.size w' w'') := fun w' c r1 r2 r3 => by
          have := lenNe_has X (.slice q n k) N P.length c w' r1 r2 r3
          rwa [hq] at this
        rw [← hn] at hl1 hck HH L0 BD hb0 ⊢
        have HN := Lib.hid hn
        have hln : Hid (n = P.length) := show _ = _ by omega
        clear ce hl hq hn
        go_enter Tryz.func15, Tryz.ntmps15
        go_wp2_with fail
        refine BD.out.mono ?_
        rintro e w1 ⟨rfl, hb1⟩
        have K1 : Below w.heap.size w w1 := hb0.trans (hb1.mono (by simp))
        have L1 := L0.go hb1
        have l0 := L1.c 0 _ rfl; have l1 := L1.c 1 _ rfl; have ll := L1.lt
        have z1 := K1.size
        have LQ := Lib.hid (LQh.out (w1.alloc (.cells #[.int .i64 P.length] 3)) w1.heap.size ((HH.out.below K1).n.below (by repeat (first | exact Below.refl _ _ | refine Below.drew ?_ | refine below_drewN ?_ _ | refine Below.trans ?_ (Below.mono (by assumption) (by first | omega | (simp; omega) | (simp; done))) | refine Below.alloc ?_ (by first | omega | (simp; omega) | (simp; done)) _ | refine Below.setCell ?_ (by first | omega | (simp; omega) | (simp; done)) _))) (by rw [World.cell?_alloc_at _ _ _ _ (by simp)]; rfl) (by simp))
        have HL1 := Lib.hid L1
        clear LQh BD L0 L1
        go_wp2_with fail
        refine LQ.out.mono ?_
        rintro e w2 ⟨rfl, hb2⟩
        have K2 : Below w.heap.size w w2 := Below.trans (K1.alloc z1 _) (hb2.mono (by simp; omega))
        have hE2 := hE.below (K2.mono hB)
        have e1 := hE2.c3; have e2 := hE2.z3
        have L2 := (HL1.out.below (w' := w2) (n := w1.heap.size) (Below.trans (by repeat (first | exact Below.refl _ _ | refine Below.drew ?_ | refine below_drewN ?_ _ | refine Below.trans ?_ (Below.mono (by assumption) (by first | omega | (simp; omega) | (simp; done))) | refine Below.alloc ?_ (by first | omega | (simp; omega) | (simp; done)) _ | refine Below.setCell ?_ (by first | omega | (simp; omega) | (simp; done)) _)) (hb2.mono (by simp))) HL1.out.lt)
        have m1 := L2.c 1 _ rfl; have ml := L2.lt
        have z2 := K2.size
        clear LQ HL1 L2 l0 l1 ll
        go_wp2_with fail
        go_loop [30] (fun iv => ∃ i : Nat, i ≤ n ∧ iv = .int .i64 i ∧ Hid ((List.range i).any (badAt N) = false)) (fun iv => n - (intOf iv).toNat)
        case atStart => exact ⟨0, Nat.zero_le _, by go_num, (show _ = _ by simp)⟩
        case round =>
          obtain ⟨i, hi, rfl, hall⟩ := hrel
          by_cases hin : i < n
          · obtain ⟨l, hx⟩ : ∃ x, N[i]? = some x := ⟨N[i]'(by rw [← HN.out]; exact hin), List.getElem?_eq_getElem _⟩
            have hsn := range_snoc (badAt N) i
            rw [hall.out, Bool.false_or] at hsn
            have hbr : badAt N i = badRow i l := by unfold badAt; rw [getD_of hx]
            rw [hbr] at hsn
            have SN := Lib.hid hsn; have BR := Lib.hid hbr
            obtain ⟨g, off, u, rfl, _, hg, hc, hu⟩ := C.out i l hx
            have r1 := (K2.cell (p := ⟨g, off + i, none⟩) hg).trans hc
            have gr : g < w2.heap.size := by omega
            have hll := hsq.out i l hx
            rw [← hln.out] at hll
            obtain ⟨q', k', rfl, hk1, hk2, hcl⟩ := hu.int
            rw [hll] at hk1
            unfold maxLen at hk2
            have CL := Lib.hid hcl
            have HLL := Lib.hid hll
            obtain ⟨vi, hvi⟩ : ∃ x, l[i]? = some x := ⟨l[i]'(by rw [hll]; exact hin), List.getElem?_eq_getElem _⟩
            obtain ⟨g', off', rfl, _, hg', hci⟩ := CL.out i vi hvi
            have r2 := (K2.cell (p := ⟨g', off' + i, none⟩) hg').trans hci
            have gr' : g' < w2.heap.size := by omega
            have HVI := Lib.hid (getD_of (d := (0 : Int)) hvi)
            rw [hll] at r1
            clear hc hx hu hcl hci hvi hll hsn hbr
            go_wp2_with fail
            go_loop [37] (fun jv => ∃ j : Nat, j ≤ n ∧ jv = .int .i64 j ∧ Hid ((List.range j).any (badB i l) = false)) (fun jv => n - (intOf jv).toNat)
            case atStart => exact ⟨0, Nat.zero_le _, by go_num, (show _ = _ by simp)⟩
            case round =>
              obtain ⟨j, hj, rfl, hal2⟩ := hrel
              by_cases hjn : j < n
              · obtain ⟨vj, hvj⟩ : ∃ x, l[j]? = some x := ⟨l[j]'(by rw [HLL.out]; exact hjn), List.getElem?_eq_getElem _⟩
                obtain ⟨g2, off2, e2', _, hg2, hcj⟩ := CL.out j vj hvj
                have : g2 = g' ∧ off2 = off' := by injection e2' with e2'; injection e2' with a b; exact ⟨a.symm, b.symm⟩
                obtain ⟨rfl, rfl⟩ := this
                have r3 := (K2.cell (p := ⟨g2, off2 + j, none⟩) hg2).trans hcj
                have hsn := range_snoc (badB i l) j
                rw [hal2.out, Bool.false_or] at hsn
                have ebj : badB i l j = (decide (i ≠ j) && decide (vj ≤ vi)) := by unfold badB; rw [getD_of hvj, HVI.out]
                rw [ebj] at hsn
                have SJ := Lib.hid hsn
                have EBJ := Lib.hid ebj
                clear hvj hcj e2' hsn ebj
                by_cases eij : i = j
                · have d1 : ((i : Int) != (j : Int)) = false := bne_eq_false_iff_eq.2 (by omega)
                  have hr : Hid ((List.range (j + 1)).any (badB i l) = false) := by have := SJ.out; rwa [decide_eq_false (by simpa using eij), Bool.false_and] at this
                  clear eij
                  go_wp2
                  go_round
                  case rel => exact ⟨j + 1, by omega, by go_num, hr⟩
                  case measure => simp [intOf]; omega
                · have d1 : ((i : Int) != (j : Int)) = true := bne_iff_ne.2 (by omega)
                  by_cases hv : vj ≤ vi
                  · have hbad : Hid (badC N = true) := range_of (j := i) (by rw [← HN.out]; omega) (BR.out.trans (range_of (j := j) (by rw [HLL.out]; exact hjn) (EBJ.out.trans (by simp [eij, hv]))))
                    clear eij
                    go_wp2
                    go_ret
                    exact ⟨by rw [hbad.out]; rfl, K2⟩
                  · have hr : Hid ((List.range (j + 1)).any (badB i l) = false) := by have := SJ.out; rwa [decide_eq_false hv, Bool.and_false] at this
                    have hv' : decide (vj ≤ vi) = false := decide_eq_false hv
                    clear eij
                    go_wp2
                    go_round
                    case rel => exact ⟨j + 1, by omega, by go_num, hr⟩
                    case measure => simp [intOf]; omega
              · have ej : j = n := by omega
                have hr : Hid ((List.range (i + 1)).any (badAt N) = false) := by
                  have := hal2.out
                  rw [ej, ← HLL.out] at this
                  exact SN.out.trans this
                clear ej
                go_wp2
                go_round
                case rel => exact ⟨i + 1, by omega, by go_num, hr⟩
                case measure => simp [intOf]; omega
          · have ei : i = n := by omega
            have hr : Hid (badC N = false) := by have := hall.out; rw [ei, HN.out] at this; exact this
            clear ei
            go_wp2
            go_ret
            exact ⟨by rw [hr.out]; rfl, K2⟩
    · have hl1 : ((N.length : Int) != (P.length : Int)) = true := bne_iff_ne.2 (by omega)
      have ce : (if sqC P N && !badC N then 0 else 3) = 3 := by unfold sqC; rw [decide_eq_false hl]; simp
      rw [ce]
      clear ce hl
      go_enter Tryz.func15, Tryz.ntmps15
      go_wp2_with fail
      refine BD.out.mono ?_
      rintro e w1 ⟨rfl, hb1⟩
      have K1 : Below w.heap.size w w1 := hb0.trans (hb1.mono (by simp))
      have L1 := L0.go hb1
      have l0 := L1.c 0 _ rfl; have l1 := L1.c 1 _ rfl; have ll := L1.lt
      have z1 := K1.size
      have hE2 := hE.below (K1.mono hB)
      have e1 := hE2.c3; have e2 := hE2.z3
      clear BD L1 L0
      go_wp2
      go_ret
      exact ⟨rfl, K1.alloc z1 _⟩
end Go.Proofs.YtigginpcokfihaaGreatDoor
