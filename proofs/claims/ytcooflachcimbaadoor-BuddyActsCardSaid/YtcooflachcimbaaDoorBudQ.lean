/- (*Buddy).Split by its contracts. -/
import Derived.Test.YtcooflachcimbaaDoorBudG
import Derived.Test.YtcooflachcimbaaDoorEnt
import Derived.BigRegion
namespace Go.Proofs.YtcooflachcimbaaDoor
open Go.RowKit Go.Maps
set_option linter.unusedSimpArgs false

set_option maxHeartbeats 400000 in
theorem split_none {B : Nat} {ev : Nat → Addr} (pb : Nat) (n : Int) (bf bt : Nat) (F T : List (Int × Int)) (a k : Int) (w : World) (hE : ErrC B ev w) (hb : Bud w pb n bf bt F T) (ha : (Lit.int .i64 a).wf = true) (h : hasL T a k = false) :
    Calls Tryd.prog 37 #[.pointer (some ⟨pb, 0, none⟩), .agg #[.int .i64 a, .int .i64 k]] w fun e w' => e = .returned (errV ev 4) ∧ Below w.heap.size w w' := by
  have hB := hE.size
  have lp := hb.ltp
  have bud : Bud (w.alloc (.cells #[.int .i64 a, .int .i64 k] 23)) pb n bf bt F T := hb.below (by repeat (first | exact Below.refl _ _ | refine Below.drew ?_ | refine below_drewN ?_ _ | refine Below.trans ?_ (Below.mono (by assumption) (by first | omega | (simp; omega) | (simp; done))) | refine Below.alloc ?_ (by first | omega | (simp; omega) | (simp; done)) _ | refine Below.setCell ?_ (by first | omega | (simp; omega) | (simp; done)) _))
  have HH := Lib.hid (has_ok pb n bf bt F T a k _ bud ha (by first | omega | (simp; omega) | (simp; done)))
  rw [h] at HH
  clear hb ha h bud
  go_enter Tryd.func37, Tryd.ntmps37
  go_wp2_with fail
  refine HH.out.mono ?_
  rintro e w1 ⟨rfl, hb1⟩
  have z1 := hb1.size
  simp at z1
  have hE1 : ErrC B ev w1 := hE.below (by repeat (first | exact Below.refl _ _ | refine Below.drew ?_ | refine below_drewN ?_ _ | refine Below.trans ?_ (Below.mono (by assumption) (by first | omega | (simp; omega) | (simp; done))) | refine Below.alloc ?_ (by first | omega | (simp; omega) | (simp; done)) _ | refine Below.setCell ?_ (by first | omega | (simp; omega) | (simp; done)) _))
  have c4 := hE1.c4
  have z4 := hE1.z4
  go_wp2
  go_ret
  exact ⟨rfl, (by repeat (first | exact Below.refl _ _ | refine Below.drew ?_ | refine below_drewN ?_ _ | refine Below.trans ?_ (Below.mono (by assumption) (by first | omega | (simp; omega) | (simp; done))) | refine Below.alloc ?_ (by first | omega | (simp; omega) | (simp; done)) _ | refine Below.setCell ?_ (by first | omega | (simp; omega) | (simp; done)) _))⟩

set_option maxHeartbeats 400000 in
theorem split_shape {B : Nat} {ev : Nat → Addr} (pb : Nat) (n : Int) (bf bt : Nat) (F T : List (Int × Int)) (a : Int) (w : World) (hE : ErrC B ev w) (hb : Bud w pb n bf bt F T) (hI : Inv n F T) (hx : (a, 0) ∈ T) :
    Calls Tryd.prog 37 #[.pointer (some ⟨pb, 0, none⟩), .agg #[.int .i64 a, .int .i64 0]] w fun e w' => e = .returned (errV ev 3) ∧ Below w.heap.size w w' := by
  have hB := hE.size
  have lp := hb.ltp
  have hrx := hI.rngT hx
  simp only at hrx
  have ha := wfInt hrx.1 hrx.2.1
  have bud : Bud (w.alloc (.cells #[.int .i64 a, .int .i64 0] 23)) pb n bf bt F T := hb.below (by repeat (first | exact Below.refl _ _ | refine Below.drew ?_ | refine below_drewN ?_ _ | refine Below.trans ?_ (Below.mono (by assumption) (by first | omega | (simp; omega) | (simp; done))) | refine Below.alloc ?_ (by first | omega | (simp; omega) | (simp; done)) _ | refine Below.setCell ?_ (by first | omega | (simp; omega) | (simp; done)) _))
  have HH := Lib.hid (has_ok pb n bf bt F T a 0 _ bud ha (by first | omega | (simp; omega) | (simp; done)))
  rw [(hasL_mem hI.ta).2 hx] at HH
  have hdn : downE a 0 = 3 + 1 := by
    have al : aloneE a 0 = 0 := aloneE_mk hrx.1 (by omega) (by omega) (by omega) (hI.t.blk (hI.memT hx)).2.2.2
    unfold downE; rw [if_pos al]; rfl
  clear hb hI hx bud
  go_enter Tryd.func37, Tryd.ntmps37
  go_wp2_with fail
  refine HH.out.mono ?_
  rintro e w1 ⟨rfl, hb1⟩
  have z1 := hb1.size
  simp at z1
  have X1 := (Loc2.new w a 0 23).below hb1 (by simp)
  have x0 := X1.c0; have x1 := X1.c1
  have hE1 : ErrC B ev w1 := hE.below (by repeat (first | exact Below.refl _ _ | refine Below.drew ?_ | refine below_drewN ?_ _ | refine Below.trans ?_ (Below.mono (by assumption) (by first | omega | (simp; omega) | (simp; done))) | refine Below.alloc ?_ (by first | omega | (simp; omega) | (simp; done)) _ | refine Below.setCell ?_ (by first | omega | (simp; omega) | (simp; done)) _))
  clear X1 HH
  go_wp2_with fail
  refine (halves_err a 0 3 w1 hE1 hdn).mono ?_
  rintro e w2 ⟨rfl, hb2⟩
  have z2 := hb2.size
  have hE2 : ErrC B ev w2 := hE1.below (hb2.mono (by omega))
  have c3 := hE2.c3
  have z3 := hE2.z3
  go_wp2
  go_ret
  exact ⟨rfl, (by repeat (first | exact Below.refl _ _ | refine Below.drew ?_ | refine below_drewN ?_ _ | refine Below.trans ?_ (Below.mono (by assumption) (by first | omega | (simp; omega) | (simp; done))) | refine Below.alloc ?_ (by first | omega | (simp; omega) | (simp; done)) _ | refine Below.setCell ?_ (by first | omega | (simp; omega) | (simp; done)) _))⟩

set_option maxHeartbeats 4000000 in
set_option maxRecDepth 100000 in
theorem split_ok {B : Nat} {ev : Nat → Addr} (pb : Nat) (n : Int) (bf bt : Nat) (F T : List (Int × Int)) (a k : Int) (w : World) (hE : ErrC B ev w) (hb : Bud w pb n bf bt F T) (hI : Inv n F T) (hx : (a, k) ∈ T) (k1 : 1 ≤ k) :
    Calls Tryd.prog 37 #[.pointer (some ⟨pb, 0, none⟩), .agg #[.int .i64 a, .int .i64 k]] w fun e w' => e = .returned .nilIface ∧ Bud w' pb n bf bt F (putL (a + sz (k - 1)) (k - 1) (putL a (k - 1) T)) ∧ Keep [bt] w w' := by
  have hB := hE.size
  have lp := hb.ltp
  have lt := hb.ltt
  have hrx := hI.rngT hx
  simp only at hrx
  have ha := wfInt hrx.1 hrx.2.1
  have bud : Bud (w.alloc (.cells #[.int .i64 a, .int .i64 k] 23)) pb n bf bt F T := hb.below (by repeat (first | exact Below.refl _ _ | refine Below.drew ?_ | refine below_drewN ?_ _ | refine Below.trans ?_ (Below.mono (by assumption) (by first | omega | (simp; omega) | (simp; done))) | refine Below.alloc ?_ (by first | omega | (simp; omega) | (simp; done)) _ | refine Below.setCell ?_ (by first | omega | (simp; omega) | (simp; done)) _))
  have HH := Lib.hid (has_ok pb n bf bt F T a k _ bud ha (by first | omega | (simp; omega) | (simp; done)))
  rw [(hasL_mem hI.ta).2 hx] at HH
  have al : aloneE a k = 0 := aloneE_mk hrx.1 (by omega) (by omega) (by omega) (hI.t.blk (hI.memT hx)).2.2.2
  have hdn : downE a k = 0 := downE_mk al (by omega)
  have hsp := hI.split k1 hx
  have SP := Lib.hid hsp
  have hin2 := hsp.rngT ((mem_putL (hI.ta.put _ _)).2 (.inl rfl))
  have hl2 := hsp.lenT
  simp only at hin2
  have BU := Lib.hid bud
  have hl1 : (putL a (k - 1) T).length ≤ 256 := asc_len256 (hI.ta.put _ _) (fun p hp => by
    rcases putL_mem hp with rfl | hp
    · exact ⟨hrx.1, hrx.2.1, by show (0 : Int) ≤ k - 1; omega, by show k - 1 ≤ 6; omega⟩
    · exact hI.rngT hp)
  clear hb hI hx bud al hsp
  go_enter Tryd.func37, Tryd.ntmps37
  go_wp2_with fail
  refine HH.out.mono ?_
  rintro e w1 ⟨rfl, hb1⟩
  have z1 := hb1.size
  simp at z1
  have X1 := (Loc2.new w a k 23).below hb1 (by simp)
  have x0 := X1.c0; have x1 := X1.c1
  have hE1 : ErrC B ev w1 := hE.below (by repeat (first | exact Below.refl _ _ | refine Below.drew ?_ | refine below_drewN ?_ _ | refine Below.trans ?_ (Below.mono (by assumption) (by first | omega | (simp; omega) | (simp; done))) | refine Below.alloc ?_ (by first | omega | (simp; omega) | (simp; done)) _ | refine Below.setCell ?_ (by first | omega | (simp; omega) | (simp; done)) _))
  have K1 : Keep [] w w1 := Keep.of (by repeat (first | exact Below.refl _ _ | refine Below.drew ?_ | refine below_drewN ?_ _ | refine Below.trans ?_ (Below.mono (by assumption) (by first | omega | (simp; omega) | (simp; done))) | refine Below.alloc ?_ (by first | omega | (simp; omega) | (simp; done)) _ | refine Below.setCell ?_ (by first | omega | (simp; omega) | (simp; done)) _))
  have B1 := BU.out.below hb1
  have B1H := Lib.hid B1
  clear X1 HH B1
  go_wp2_with fail
  refine (halves_ok a k w1 hE1 hdn).mono ?_
  rintro e w2 ⟨rfl, hb2⟩
  have z2 := hb2.size
  have B2 := B1H.out.below hb2
  have K2 := K1.step hb2
  have ka : Keep [] w2 (((w2.alloc (.cells #[.int .i64 a, .int .i64 (k - 1)] 23)).alloc (.cells #[.int .i64 (a + sz (k - 1)), .int .i64 (k - 1)] 23)).drew) := (((Keep.refl _ _).alloc _).alloc _).drew
  obtain ⟨v0, s0, W1, W2, r1, r2, m2, k1', k2'⟩ := (B2.taken.keep ka (by simp)).put2 (a := a) (k := k - 1) ⟨hrx.1, hrx.2.1, by omega, by omega⟩ hl1
  obtain ⟨v1, s1, W3, W4, r3, r4, m4, k3', k4'⟩ := m2.put2 (a := a + sz (k - 1)) (k := k - 1) hin2 hl2
  have c2 := B2.c2
  have lp2 : pb < w2.heap.size := by omega
  have kc1 : Keep [bt] w2 W1 := (ka.mono (fun s q => by cases q)).then k1'
  have kc2 : Keep [bt] w2 W2 := (ka.mono (fun s q => by cases q)).then k2'
  have kc3 : Keep [bt] w2 W3 := kc2.then k3'
  have kc4 : Keep [bt] w2 W4 := kc2.then k4'
  have nb0 : w2.heap.size ≠ bt := by omega
  have nb1 : w2.heap.size + 1 ≠ bt := by omega
  have npb : pb ≠ bt := B2.ne.2.2
  have lo0 := (Loc2.new w2 a (k - 1) 23).keep ((Keep.refl [] _).alloc (.cells #[.int .i64 (a + sz (k - 1)), .int .i64 (k - 1)] 23)).drew (by simp)
  have hi0 := (Loc2.new (w2.alloc (.cells #[.int .i64 a, .int .i64 (k - 1)] 23)) (a + sz (k - 1)) (k - 1) 23).keep ((Keep.refl [] _).drew) (by simp)
  simp at hi0
  have lo1 := lo0.keep k1' (by simpa using nb0); have hi1 := hi0.keep k1' (by simpa using nb1)
  have lo2 := lo0.keep k2' (by simpa using nb0); have hi2 := hi0.keep k2' (by simpa using nb1)
  have lo3 := lo2.keep k3' (by simpa using nb0); have hi3 := hi2.keep k3' (by simpa using nb1)
  have p1 := (kc1.cell lp2 (by simpa using npb)).trans c2
  have p2 := (kc2.cell lp2 (by simpa using npb)).trans c2
  have p3 := (kc3.cell lp2 (by simpa using npb)).trans c2
  have a1 := lo1.c0; have a2 := lo1.c1; have a3 := hi1.c0; have a4 := hi1.c1
  have b1 := lo2.c0; have b2 := lo2.c1; have b3 := hi2.c0; have b4 := hi2.c1
  have d1 := lo3.c0; have d2 := lo3.c1; have d3 := hi3.c0; have d4 := hi3.c1
  have B4 := Lib.hid (B2.turnT m4 kc4)
  have K4 := Lib.hid ((K2.mono (fun s q => by cases q)).then kc4)
  clear hE1 hdn x0 x1 lo0 hi0 lo1 hi1 lo2 hi2 lo3 hi3 kc1 kc2 kc3 kc4 k1' k2' k3' k4' m2 m4 ka B2
  go_wp2
  go_region
  all_goals go_wp2
  all_goals go_ret
  all_goals exact ⟨rfl, B4.out, K4.out⟩
end Go.Proofs.YtcooflachcimbaaDoor
