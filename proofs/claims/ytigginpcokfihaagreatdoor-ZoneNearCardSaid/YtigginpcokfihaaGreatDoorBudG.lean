/- (*Buddy).Give by its contracts. -/
import Derived.Test.YtigginpcokfihaaGreatDoorBudK
namespace Go.Proofs.YtigginpcokfihaaGreatDoor
open Go.RowKit Go.Maps
set_option linter.unusedSimpArgs false

set_option maxHeartbeats 400000 in
theorem give_none {B : Nat} {ev : Nat → Addr} (pb : Nat) (n : Int) (bf bt : Nat) (F T : List (Int × Int)) (a k : Int) (w : World) (hE : ErrC B ev w) (hb : Bud w pb n bf bt F T) (ha : (Lit.int .i64 a).wf = true) (h : hasL T a k = false) :
    Calls Tryz.prog 41 #[.pointer (some ⟨pb, 0, none⟩), .agg #[.int .i64 a, .int .i64 k]] w fun e w' => e = .returned (errV ev 4) ∧ Below w.heap.size w w' := by
  have hB := hE.size
  have lp := hb.ltp
  have bud : Bud (w.alloc (.cells #[.int .i64 a, .int .i64 k] 39)) pb n bf bt F T := hb.below (by repeat (first | exact Below.refl _ _ | refine Below.drew ?_ | refine below_drewN ?_ _ | refine Below.trans ?_ (Below.mono (by assumption) (by first | omega | (simp; omega) | (simp; done))) | refine Below.alloc ?_ (by first | omega | (simp; omega) | (simp; done)) _ | refine Below.setCell ?_ (by first | omega | (simp; omega) | (simp; done)) _))
  have HH := Lib.hid (has_ok pb n bf bt F T a k _ bud ha (by first | omega | (simp; omega) | (simp; done)))
  rw [h] at HH
  clear hb ha h bud
  go_enter Tryz.func41, Tryz.ntmps41
  go_wp2_with fail
  refine HH.out.mono ?_
  rintro e w1 ⟨rfl, hb1⟩
  have z1 := hb1.size
  simp at z1
  have hE1 : ErrC B ev w1 := hE.below (by repeat (first | exact Below.refl _ _ | refine Below.drew ?_ | refine below_drewN ?_ _ | refine Below.trans ?_ (Below.mono (by assumption) (by first | omega | (simp; omega) | (simp; done))) | refine Below.alloc ?_ (by first | omega | (simp; omega) | (simp; done)) _ | refine Below.setCell ?_ (by first | omega | (simp; omega) | (simp; done)) _))
  have c4 := hE1.c4
  have z4 := hE1.z4
  go_wp2
  go_ret
  exact ⟨rfl, (by repeat (first | exact Below.refl _ _ | refine Below.drew ?_ | refine below_drewN ?_ _ | refine Below.trans ?_ (Below.mono (by assumption) (by first | omega | (simp; omega) | (simp; done))) | refine Below.alloc ?_ (by first | omega | (simp; omega) | (simp; done)) _ | refine Below.setCell ?_ (by first | omega | (simp; omega) | (simp; done)) _))⟩

theorem hasL_mem {T : List (Int × Int)} {a k : Int} (hA : Asc T) : hasL T a k = true ↔ (a, k) ∈ T := by
  unfold hasL
  rw [mem_asc hA]
  simp
theorem upF_stop {a k : Int} {F : List (Int × Int)} (k0 : 0 ≤ k) (k6 : k ≤ 6) (h : k < 6 → getL F (budA a k) ≠ some k) : upF (6 - k).toNat a k F = ((a, k), F) := by
  by_cases e : k = 6
  · subst e; rfl
  · obtain ⟨d, hd⟩ : ∃ d, (6 - k).toNat = d + 1 := ⟨(6 - k).toNat - 1, by omega⟩
    rw [hd, upF, if_neg (h (by omega))]
theorem upF_go {a k : Int} {F : List (Int × Int)} (k6 : k < 6) (h : getL F (budA a k) = some k) : upF (6 - k).toNat a k F = upF (6 - (k + 1)).toNat (parA a k) (k + 1) (delL (budA a k) F) := by
  obtain ⟨d, hd⟩ : ∃ d, (6 - k).toNat = d + 1 := ⟨(6 - k).toNat - 1, by omega⟩
  have e : (6 - (k + 1)).toNat = d := by omega
  rw [hd, upF, if_pos h, e]
def upP (a k : Int) (F : List (Int × Int)) : List (Int × Int) := putL (upF (6 - k).toNat a k F).1.1 (upF (6 - k).toNat a k F).1.2 (upF (6 - k).toNat a k F).2
theorem upP_stop {a k : Int} {F : List (Int × Int)} (k0 : 0 ≤ k) (k6 : k ≤ 6) (h : k < 6 → getL F (budA a k) ≠ some k) : upP a k F = putL a k F := by unfold upP; rw [upF_stop k0 k6 h]
theorem upP_go {a k : Int} {F : List (Int × Int)} (k6 : k < 6) (h : getL F (budA a k) = some k) : upP a k F = upP (parA a k) (k + 1) (delL (budA a k) F) := by unfold upP; rw [upF_go k6 h]

set_option maxHeartbeats 4000000 in
set_option maxRecDepth 100000 in
theorem give_ok {B : Nat} {ev : Nat → Addr} (pb : Nat) (n : Int) (bf bt : Nat) (F T : List (Int × Int)) (a k : Int) (w : World) (hE : ErrC B ev w) (hBf : B ≤ bf) (hBt : B ≤ bt) (hb : Bud w pb n bf bt F T) (hI : Inv n F T) (hx : (a, k) ∈ T) :
    Calls Tryz.prog 41 #[.pointer (some ⟨pb, 0, none⟩), .agg #[.int .i64 a, .int .i64 k]] w fun e w' => e = .returned .nilIface ∧ Bud w' pb n bf bt (giveF a k F) (delL a T) ∧ Keep [bf, bt] w w' := by
  have hB := hE.size
  have lp := hb.ltp
  have lf := hb.ltf
  have lt := hb.ltt
  have hrx := hI.rngT hx
  simp only at hrx
  have ha := wfInt hrx.1 hrx.2.1
  have bud : Bud (w.alloc (.cells #[.int .i64 a, .int .i64 k] 39)) pb n bf bt F T := hb.below (by repeat (first | exact Below.refl _ _ | refine Below.drew ?_ | refine below_drewN ?_ _ | refine Below.trans ?_ (Below.mono (by assumption) (by first | omega | (simp; omega) | (simp; done))) | refine Below.alloc ?_ (by first | omega | (simp; omega) | (simp; done)) _ | refine Below.setCell ?_ (by first | omega | (simp; omega) | (simp; done)) _))
  have HH := Lib.hid (has_ok pb n bf bt F T a k _ bud ha (by first | omega | (simp; omega) | (simp; done)))
  rw [(hasL_mem hI.ta).2 hx] at HH
  have BU := Lib.hid bud
  have ih := Lib.hid (hI.handT hx)
  have GF := Lib.hid (show upP a k F = giveF a k F from rfl)
  clear hb hI hx bud
  go_enter Tryz.func41, Tryz.ntmps41
  go_wp2_with fail
  refine HH.out.mono ?_
  rintro e w1 ⟨rfl, hb1⟩
  clear HH
  have z1 := hb1.size
  simp at z1
  have K1 : Keep [] w w1 := Keep.of (by repeat (first | exact Below.refl _ _ | refine Below.drew ?_ | refine below_drewN ?_ _ | refine Below.trans ?_ (Below.mono (by assumption) (by first | omega | (simp; omega) | (simp; done))) | refine Below.alloc ?_ (by first | omega | (simp; omega) | (simp; done)) _ | refine Below.setCell ?_ (by first | omega | (simp; omega) | (simp; done)) _))
  have B1 := BU.out.below hb1
  have c2 := B1.c2
  have X1 := (Loc2.new w a k 39).below hb1 (by simp)
  have x0 := X1.c0
  have ka : Keep [] w1 w1.drew := (Keep.refl _ _).drew
  have lp1 : pb < w1.heap.size := by omega
  obtain ⟨w2, hrun, hdrop, hturn⟩ := (B1.taken.keep ka (by simp)).drop (a := a) ha 0
  have k12 : Keep [bt] w1 w2 := (ka.mono (fun s q => by cases q)).grown hturn.grown (.inl (by simp))
  have B2 := Lib.hid (B1.turnT hdrop k12)
  have nt1 : w.heap.size ≠ bt := by omega
  have nf1 : w.heap.size ≠ bf := by omega
  have X2 := Lib.hid (X1.keep k12 (by simpa using nt1))
  have K2 : Keep [bf, bt] w w2 := (K1.mono (fun s q => by cases q)).then (k12.mono (fun s hs => by simp at hs ⊢; exact .inr hs))
  clear hdrop hturn k12 B1 X1 ka K1
  go_wp2_with fail
  refine wp_tail 6 (by kernel_rfl) (by kernel_rfl) ?_
  simp only [List.take_succ_cons, List.take_zero, List.drop_succ_cons, List.drop_zero]
  repeat still_step
  refine wpStill_nil ?_
  go_wp2
  clear hrun c2 x0
  go_loopg [5, 6, 7, 8] 8 (fun gg _ _ _ _ wr => ∃ (q p : Int) (F' : List (Int × Int)), (6 - q).toNat < gg ∧ 0 ≤ q ∧ q ≤ 6 ∧ 0 ≤ p ∧ p < 256 ∧ Hid (Bud wr pb n bf bt F' (delL a T)) ∧ Hid (InvH n F' (delL a T) (p, q)) ∧ Hid (upP p q F' = giveF a k F) ∧ Hid (Loc2 wr w.heap.size p q) ∧ Keep [bf, bt] w wr ∧ w.heap.size < wr.heap.size)
  case atStart => exact ⟨k, a, F, by omega, by omega, by omega, by omega, by omega, B2, ih, GF, X2, K2, X2.out.lt⟩
  case round =>
    obtain ⟨q, p, F', hgg, q0, q6, p0, p256, HBr, IHr, DFr, Xr, Kr, zr⟩ := hrel
    clear B2 ih GF X2 K2
    have x0 := Xr.out.c0; have x1 := Xr.out.c1
    have hblk := IHr.out.blk
    have al : aloneE p q = 0 := aloneE_mk p0 (by omega) q0 q6 hblk.2.2.2
    have hEr : ErrC B ev wr := hE.below (Kr.below (B := B) (by omega) (fun s hs => by simp at hs; rcases hs with rfl | rfl; (· exact hBf); (· exact hBt)))
    have zrw := Kr.size
    clear hblk
    by_cases h6 : q = 6
    · have HNO : Hid (q < 6 → getL F' (budA p q) ≠ some q) := fun h => absurd h (by omega)
      have HO := Lib.hid (buddy_err p q 3 wr hEr (by unfold upE; rw [if_pos al, if_pos h6]))
      clear hEr al h6
      go_wp2_with fail
      refine HO.out.mono ?_
      rintro e w5 ⟨rfl, hb5⟩
      clear HO
      have z5 := hb5.size
      have c1 := (hb5.cell (p := ⟨pb, 1, none⟩) (show pb < wr.heap.size by omega)).trans HBr.out.c1
      have lp5 : pb < w5.heap.size := by omega
      have lk := fun m => lookm_any (((HBr.out.free.keep (Keep.of (S := []) hb5) (by simp)).keep (((Keep.refl [] _).alloc (.cells #[.int .i64 0, .int .i64 0] 39)).drewN m) (by simp))) (a := 0) (wfInt (by omega) (by omega))
      go_wp2
      go_quiet (fail)
      have Bn := HBr.out.keep (Keep.of (S := []) hb5) (by simp) (by simp) (by simp)
      have ky : Keep [] w5 ((((w5.alloc (.cells #[.int .i64 0, .int .i64 0] 39)).drewN (nq + 1)))) := ((Keep.refl _ _).alloc _).drewN _
      have hput := IHr.out
      have hfin := hput.putF HNO.out
      obtain ⟨w7, hrun, hpt, hgr⟩ := (Bn.free.keep ky (by simp)).put (hput.rng (List.mem_cons_self ..)) (asc_len256 hfin.fa (fun z hz => hfin.rngF hz))
      have k57 : Keep [bf] w5 w7 := (ky.mono (fun s q => by cases q)).grown hgr (.inl (by simp))
      have B7 := Bn.turnF hpt k57
      rw [← upP_stop q0 q6 HNO.out, DFr.out] at B7
      have HB7 := Lib.hid B7
      have K7 : Keep [bf, bt] w w7 := (Kr.step hb5).then (k57.mono (fun s hs => by simp at hs ⊢; exact .inl hs))
      have HK7 := Lib.hid K7
      have c1 := Bn.c1
      have lp5 : pb < w5.heap.size := by omega
      have s0 := (hb5.cell (p := ⟨w.heap.size, 0, none⟩) zr).trans x0
      have s1 := (hb5.cell (p := ⟨w.heap.size, 1, none⟩) zr).trans x1
      have lw5 : w.heap.size < w5.heap.size := by omega
      clear hput hfin hpt hgr k57 B7 K7 ky Bn
      go_wp2
      refine wp_tail 8 (by kernel_rfl) (by kernel_rfl) ?_
      simp only [List.take_succ_cons, List.take_zero, List.drop_succ_cons, List.drop_zero]
      repeat still_step
      refine wpStill_nil ?_
      go_wp2

      go_ret
      exact ⟨rfl, HB7.out, HK7.out⟩
    · have kb : 0 ≤ budA p q ∧ budA p q < 256 := by
        obtain ⟨⟨u1, u2, _⟩, _⟩ := kin p0 (by omega) q0 (by omega) (aloneE_zero al).2.2.2.2
        omega
      cases hg : getL F' (budA p q) with
      | none =>
        have HNO : Hid (q < 6 → getL F' (budA p q) ≠ some q) := fun _ e => by rw [hg] at e; cases e
        have HO := Lib.hid (buddy_ok p q wr hEr (upE_mk al (by omega)))
        clear hEr al
        go_wp2_with fail
        refine HO.out.mono ?_
        rintro e w5 ⟨rfl, hb5⟩
        clear HO
        have z5 := hb5.size
        have c1 := (hb5.cell (p := ⟨pb, 1, none⟩) (show pb < wr.heap.size by omega)).trans HBr.out.c1
        have lp5 : pb < w5.heap.size := by omega
        have lk := fun m => lookm_any (((HBr.out.free.keep (Keep.of (S := []) hb5) (by simp)).keep (((Keep.refl [] _).alloc (.cells #[.int .i64 (budA p q), .int .i64 q] 39)).drewN m) (by simp))) (a := budA p q) (wfInt kb.1 kb.2)
        rw [hg] at lk
        simp only [Option.getD_none, Option.isSome_none] at lk
        clear hg kb h6
        go_wp2
        go_quiet (fail)
        have Bn := HBr.out.keep (Keep.of (S := []) hb5) (by simp) (by simp) (by simp)
        have ky : Keep [] w5 ((((w5.alloc (.cells #[.int .i64 (budA p q), .int .i64 q] 39)).drewN (nq + 1)))) := ((Keep.refl _ _).alloc _).drewN _
        have hput := IHr.out
        have hfin := hput.putF HNO.out
        obtain ⟨w7, hrun, hpt, hgr⟩ := (Bn.free.keep ky (by simp)).put (hput.rng (List.mem_cons_self ..)) (asc_len256 hfin.fa (fun z hz => hfin.rngF hz))
        have k57 : Keep [bf] w5 w7 := (ky.mono (fun s q => by cases q)).grown hgr (.inl (by simp))
        have B7 := Bn.turnF hpt k57
        rw [← upP_stop q0 q6 HNO.out, DFr.out] at B7
        have HB7 := Lib.hid B7
        have K7 : Keep [bf, bt] w w7 := (Kr.step hb5).then (k57.mono (fun s hs => by simp at hs ⊢; exact .inl hs))
        have HK7 := Lib.hid K7
        have c1 := Bn.c1
        have lp5 : pb < w5.heap.size := by omega
        have s0 := (hb5.cell (p := ⟨w.heap.size, 0, none⟩) zr).trans x0
        have s1 := (hb5.cell (p := ⟨w.heap.size, 1, none⟩) zr).trans x1
        have lw5 : w.heap.size < w5.heap.size := by omega
        clear hput hfin hpt hgr k57 B7 K7 ky Bn
        go_wp2
        refine wp_tail 8 (by kernel_rfl) (by kernel_rfl) ?_
        simp only [List.take_succ_cons, List.take_zero, List.drop_succ_cons, List.drop_zero]
        repeat still_step
        refine wpStill_nil ?_
        go_wp2

        go_ret
        exact ⟨rfl, HB7.out, HK7.out⟩
      | some k2 =>
        by_cases hk2 : k2 = q
        · subst hk2
          have hup := IHr.out.up (by omega) hg
          have DF2 := Lib.hid ((upP_go (by omega) hg).symm.trans DFr.out)
          have UP := Lib.hid hup
          have al2 := al
          have kpp := kin_p p0 (by omega) q0 (by omega) (aloneE_zero al).2.2.2.2
          have hub := hup.rng (List.mem_cons_self ..)
          simp only at hub
          have HO := Lib.hid (buddy_ok p k2 wr hEr (upE_mk al (by omega)))
          clear hEr al
          go_wp2_with fail
          refine HO.out.mono ?_
          rintro e w5 ⟨rfl, hb5⟩
          clear HO
          have z5 := hb5.size
          have c1 := (hb5.cell (p := ⟨pb, 1, none⟩) (show pb < wr.heap.size by omega)).trans HBr.out.c1
          have lp5 : pb < w5.heap.size := by omega
          have lk := fun m => lookm_any (((HBr.out.free.keep (Keep.of (S := []) hb5) (by simp)).keep (((Keep.refl [] _).alloc (.cells #[.int .i64 (budA p k2), .int .i64 k2] 39)).drewN m) (by simp))) (a := budA p k2) (wfInt kb.1 kb.2)
          rw [hg] at lk
          simp only [Option.getD_some, Option.isSome_some] at lk
          have hne : (k2 != k2) = false := by simp
          clear hg h6 hup
          go_wp2
          go_quiet (fail)
          have Bn := HBr.out.keep (Keep.of (S := []) hb5) (by simp) (by simp) (by simp)
          have ky : Keep [] w5 ((w5.alloc (.cells #[.int .i64 (budA p k2), .int .i64 k2] 39)).drewN (nq + 1)) := ((Keep.refl _ _).alloc _).drewN _
          obtain ⟨w7, hrun, hpt, hturn⟩ := (Bn.free.keep ky (by simp)).drop (a := budA p k2) (wfInt kb.1 kb.2) 0
          have k57 : Keep [bf] w5 w7 := (ky.mono (fun s q => by cases q)).grown hturn.grown (.inl (by simp))
          have B7 := Bn.turnF hpt k57
          have k7r : Keep [bf, bt] w w7 := (Kr.step hb5).then (k57.mono (fun s hs => by simp at hs ⊢; exact .inl hs))
          have kr7 : Keep [bf] wr w7 := (Keep.of hb5).then k57
          have X7 := Xr.out.keep kr7 (by simpa using nf1)
          have hE7 : ErrC B ev w7 := hE.below (k7r.below (B := B) (by omega) (fun s hs => by simp at hs; rcases hs with rfl | rfl; (· exact hBf); (· exact hBt)))
          have s0 := X7.c0; have s1 := X7.c1
          have z7 := k57.size
          have HB7 := Lib.hid B7; have HX7 := Lib.hid X7; have K7 := Lib.hid k7r
          have PO := Lib.hid (parent_ok p k2 w7 hE7 (upE_mk al2 (by omega)))
          have lw5 : w.heap.size < w5.heap.size := by omega
          clear hpt hturn k57 B7 k7r kr7 X7 ky Bn hE7 kb lk x0 x1
          go_wp2
          refine wp_tail 6 (by kernel_rfl) (by kernel_rfl) ?_
          simp only [List.take_succ_cons, List.take_zero, List.drop_succ_cons, List.drop_zero]
          repeat still_step
          refine wpStill_nil ?_
          go_wp2_with fail
          refine PO.out.mono ?_
          rintro e w8 ⟨rfl, hb8⟩
          have z8 := hb8.size
          have X8 := HX7.out.below hb8 (show w.heap.size < w7.heap.size by omega)
          have t0 := X8.c0; have t1 := X8.c1; have t2 := X8.f0; have t3 := X8.f1
          have ks : Keep [w.heap.size] w8 ((w8.setCell ⟨w.heap.size, 0, none⟩ (.int .i64 (parA p k2))).setCell ⟨w.heap.size, 1, none⟩ (.int .i64 (k2 + 1))) := (Keep.refl _ _).store2 (.inl (by simp)) _ _
          have np : pb ≠ w.heap.size := by omega
          have B8 := Lib.hid ((HB7.out.below hb8).keep ks (by simpa using np) (by simpa using nf1.symm) (by simpa using nt1.symm))
          have HX8 := Lib.hid (X8.store (parA p k2) (k2 + 1))
          have K8 := Lib.hid ((K7.out.step hb8).store2 (b := w.heap.size) (.inr (Nat.le_refl _)) (.int .i64 (parA p k2)) (.int .i64 (k2 + 1)))
          clear ks X8 hrun
          go_wp2
          go_roundg ((6 - (k2 + 1)).toNat + 1)
          case measure => omega
          case rel => exact ⟨k2 + 1, parA p k2, _, by omega, by omega, by omega, kpp.1, by omega, B8, UP, DF2, HX8, K8.out, by simp [World.setCell]; omega⟩
        · have HNO : Hid (q < 6 → getL F' (budA p q) ≠ some q) := fun _ e => hk2 (Option.some.inj (hg.symm.trans e))
          have hne : (k2 != q) = true := by rw [bne_iff_ne]; exact hk2
          have hne' : (k2 == q) = false := beq_eq_false_iff_ne.2 hk2
          have HO := Lib.hid (buddy_ok p q wr hEr (upE_mk al (by omega)))
          clear hEr al
          go_wp2_with fail
          refine HO.out.mono ?_
          rintro e w5 ⟨rfl, hb5⟩
          clear HO
          have z5 := hb5.size
          have c1 := (hb5.cell (p := ⟨pb, 1, none⟩) (show pb < wr.heap.size by omega)).trans HBr.out.c1
          have lp5 : pb < w5.heap.size := by omega
          have lk := fun m => lookm_any (((HBr.out.free.keep (Keep.of (S := []) hb5) (by simp)).keep (((Keep.refl [] _).alloc (.cells #[.int .i64 (budA p q), .int .i64 q] 39)).drewN m) (by simp))) (a := budA p q) (wfInt kb.1 kb.2)
          rw [hg] at lk
          simp only [Option.getD_some, Option.isSome_some] at lk
          clear hg kb h6 hk2
          go_wp2
          go_quiet (fail)
          have Bn := HBr.out.keep (Keep.of (S := []) hb5) (by simp) (by simp) (by simp)
          have ky : Keep [] w5 ((((w5.alloc (.cells #[.int .i64 (budA p q), .int .i64 q] 39)).drewN (nq + 1)))) := ((Keep.refl _ _).alloc _).drewN _
          have hput := IHr.out
          have hfin := hput.putF HNO.out
          obtain ⟨w7, hrun, hpt, hgr⟩ := (Bn.free.keep ky (by simp)).put (hput.rng (List.mem_cons_self ..)) (asc_len256 hfin.fa (fun z hz => hfin.rngF hz))
          have k57 : Keep [bf] w5 w7 := (ky.mono (fun s q => by cases q)).grown hgr (.inl (by simp))
          have B7 := Bn.turnF hpt k57
          rw [← upP_stop q0 q6 HNO.out, DFr.out] at B7
          have HB7 := Lib.hid B7
          have K7 : Keep [bf, bt] w w7 := (Kr.step hb5).then (k57.mono (fun s hs => by simp at hs ⊢; exact .inl hs))
          have HK7 := Lib.hid K7
          have c1 := Bn.c1
          have lp5 : pb < w5.heap.size := by omega
          have s0 := (hb5.cell (p := ⟨w.heap.size, 0, none⟩) zr).trans x0
          have s1 := (hb5.cell (p := ⟨w.heap.size, 1, none⟩) zr).trans x1
          have lw5 : w.heap.size < w5.heap.size := by omega
          clear hput hfin hpt hgr k57 B7 K7 ky Bn
          go_wp2
          refine wp_tail 8 (by kernel_rfl) (by kernel_rfl) ?_
          simp only [List.take_succ_cons, List.take_zero, List.drop_succ_cons, List.drop_zero]
          repeat still_step
          refine wpStill_nil ?_
          go_wp2

          go_ret
          exact ⟨rfl, HB7.out, HK7.out⟩
end Go.Proofs.YtigginpcokfihaaGreatDoor
