/- (*Buddy).Take by its contracts. (*Buddy).Give by its contracts. -/
import Derived.Test.YtcokmiidgdmdlaaGreatDoorBud
namespace Go.Proofs.YtcokmiidgdmdlaaGreatDoor
open Go.RowKit Go.Maps
set_option linter.unusedSimpArgs false

set_option maxHeartbeats 400000 in
theorem take_bound {B : Nat} {ev : Nat → Addr} (pb : Addr) (k : Int) (w : World) (hE : ErrC B ev w) (h : k < 0 ∨ 6 < k) :
    Calls Tryz.prog 60 #[.pointer (some pb), .int .i64 k] w fun e w' => e = .returned (.tuple #[.agg #[.int .i64 0, .int .i64 0], errV ev 2]) ∧ Below w.heap.size w w' := by
  have hB := hE.size
  have e2 : errV ev 2 = .iface 291 (.pointer (some (ev (1 + 1)))) := rfl
  go_enter Tryz.func60, Tryz.ntmps60
  go_wp2_with fail
  refine (size_no k _ (hE.below (by repeat (first | exact Below.refl _ _ | refine Below.drew ?_ | refine below_drewN ?_ _ | refine Below.trans ?_ (Below.mono (by assumption) (by first | omega | (simp; omega) | (simp; done))) | refine Below.alloc ?_ (by first | omega | (simp; omega) | (simp; done)) _ | refine Below.setCell ?_ (by first | omega | (simp; omega) | (simp; done)) _))) h).mono ?_
  rintro e w1 ⟨rfl, hb⟩
  obtain ⟨hc, hf⟩ := bcell hb
  have hz := hb.size
  simp at hz hc hf
  have z0 : w.heap.size < w1.heap.size := by omega
  have z1 : w.heap.size + 1 < w1.heap.size := by omega
  go_wp2
  exact bodyPost_ret (v := .tuple #[.agg #[.int .i64 0, .int .i64 0], errV ev 2]) (by simp [results, Tryz.results60, go_sem, hc, z0, z1]; rfl) rfl ⟨rfl, (by repeat (first | exact Below.refl _ _ | refine Below.drew ?_ | refine below_drewN ?_ _ | refine Below.trans ?_ (Below.mono (by assumption) (by first | omega | (simp; omega) | (simp; done))) | refine Below.alloc ?_ (by first | omega | (simp; omega) | (simp; done)) _ | refine Below.setCell ?_ (by first | omega | (simp; omega) | (simp; done)) _))⟩

theorem fitL_nil_of {k : Int} {F : List (Int × Int)} (h : bestL k F = none) : fitL k F = [] := by
  unfold bestL at h
  split at h
  · assumption
  · cases h
theorem fitL_cons_of {k : Int} {F : List (Int × Int)} {x : Int × Int} (h : bestL k F = some x) : ∃ y r, fitL k F = y :: r ∧ minL y r = x := by
  unfold bestL at h
  split at h
  · cases h
  · rename_i y r e
    exact ⟨y, r, e, Option.some.inj h⟩

set_option maxHeartbeats 1000000 in
theorem take_full {B : Nat} {ev : Nat → Addr} (pb : Nat) (n : Int) (bf bt : Nat) (F T : List (Int × Int)) (k : Int) (w : World) (hE : ErrD B ev w) (hb : Bud w pb n bf bt F T) (k0 : 0 ≤ k) (k6 : k ≤ 6) (h : bestL k F = none) :
    Calls Tryz.prog 60 #[.pointer (some ⟨pb, 0, none⟩), .int .i64 k] w fun e w' => e = .returned (.tuple #[.agg #[.int .i64 0, .int .i64 0], errV ev 5]) ∧ Below w.heap.size w w' := by
  have hB := hE.size
  have hmf : ∀ (fn : Fn) (first cap : Array Value) (w : World), (Instr.makeFunc fn first cap).run Tryz.prog w = .ok (.func fn first cap) w := fun _ _ _ _ => rfl
  have c1 := hb.c1
  have lp := hb.ltp
  have HF := Lib.hid hb.free
  have lf := hb.ltf
  have few := hb.free.few
  have fit := fitL_nil_of h
  have FIT := Lib.hid fit
  clear hb h fit
  go_enter Tryz.func60, Tryz.ntmps60
  go_wp2_with (go_at_call 58; refine (size_yes _ _ ⟨k0, k6⟩).mono ?_; rintro e w' ⟨rfl, rfl⟩)
  refine (sorted_ok bf F _ (HF.out.below (n := w.heap.size) (by repeat (first | exact Below.refl _ _ | refine Below.drew ?_ | refine below_drewN ?_ _ | refine Below.trans ?_ (Below.mono (by assumption) (by first | omega | (simp; omega) | (simp; done))) | refine Below.alloc ?_ (by first | omega | (simp; omega) | (simp; done)) _ | refine Below.setCell ?_ (by first | omega | (simp; omega) | (simp; done)) _)) lf)).mono ?_
  rintro e w1 ⟨v, rfl, hv⟩
  have hb1 := hv.2
  have z1 := hb1.size
  simp at z1
  have kc : w1.cell? ⟨w.heap.size, 0, none⟩ = some (.int .i64 k) := (hb1.cell (p := ⟨w.heap.size, 0, none⟩) (by first | omega | (simp; omega) | (simp; done))).trans (by rw [World.cell?_alloc_past _ _ _ (by first | omega | (simp; omega) | (simp; done)), World.cell?_alloc_at _ _ _ _ (by simp)]; rfl)
  have r0 : w1.cell? ⟨w.heap.size + 1, 0, none⟩ = some (.int .i64 0) := (hb1.cell (p := ⟨w.heap.size + 1, 0, none⟩) (by first | omega | (simp; omega) | (simp; done))).trans (by rw [World.cell?_alloc_at _ _ _ _ (by simp)]; rfl)
  have r1 : w1.cell? ⟨w.heap.size + 1, 1, none⟩ = some (.int .i64 0) := (hb1.cell (p := ⟨w.heap.size + 1, 1, none⟩) (by simp)).trans (by rw [World.cell?_alloc_at _ _ _ _ (by simp)]; rfl)
  have f0 : w1.frozen? ⟨w.heap.size + 1, 0, none⟩ = false := (hb1.frozen (p := ⟨w.heap.size + 1, 0, none⟩) (by simp)).trans (World.frozen?_alloc_at _ _ _ _ (by simp))
  have f1 : w1.frozen? ⟨w.heap.size + 1, 1, none⟩ = false := (hb1.frozen (p := ⟨w.heap.size + 1, 1, none⟩) (by simp)).trans (World.frozen?_alloc_at _ _ _ _ (by simp))
  have hE1 : ErrD B ev w1 := hE.below (by repeat (first | exact Below.refl _ _ | refine Below.drew ?_ | refine below_drewN ?_ _ | refine Below.trans ?_ (Below.mono (by assumption) (by first | omega | (simp; omega) | (simp; done))) | refine Below.alloc ?_ (by first | omega | (simp; omega) | (simp; done)) _ | refine Below.setCell ?_ (by first | omega | (simp; omega) | (simp; done)) _))
  have K1 : Below w.heap.size w w1 := (by repeat (first | exact Below.refl _ _ | refine Below.drew ?_ | refine below_drewN ?_ _ | refine Below.trans ?_ (Below.mono (by assumption) (by first | omega | (simp; omega) | (simp; done))) | refine Below.alloc ?_ (by first | omega | (simp; omega) | (simp; done)) _ | refine Below.setCell ?_ (by first | omega | (simp; omega) | (simp; done)) _))
  have z5 := hE1.z5
  have c5 := hE1.c5
  have HE1 := Lib.hid hE1
  -- what DeleteFunc leaves: nothing
  have key : Calls Tryz.prog 108 #[v, clos w.heap.size] w1 fun e w' => ∃ p c, e = .returned (.slice p 0 c) ∧ Below (w.heap.size + 2) w1 w' := by
    rcases hv.mrow with ⟨rfl, hnil⟩ | ⟨g, cap, rfl, hg0, hg, hcap, hc⟩
    · exact (delF_nil _ _).mono fun e w' ⟨h1, h2⟩ => ⟨_, _, h1, by rw [← h2]; exact Below.refl _ _⟩
    · have hg1 : w.heap.size + 2 ≤ g := by simpa using hg0
      have hcl : w.heap.size < w1.heap.size := by omega
      have hcg : w.heap.size ≠ g := by omega
      refine (delF_any g cap w.heap.size k F w1 hc hg few hcap kc hcl hcg).mono fun e w' ⟨h1, _, h3⟩ => ?_
      rw [FIT.out] at h1
      exact ⟨_, _, h1, h3.below (by omega) (fun s hs => by rw [List.mem_singleton.1 hs]; exact hg1)⟩
  have KEY := Lib.hid key
  clear key hv
  unfold clos at KEY
  go_wp2_with fail
  refine KEY.out.mono ?_
  rintro e w2 ⟨p, c, rfl, hb2⟩
  have z2 := hb2.size
  have c5' : w2.cell? ⟨1, 0, none⟩ = some (errV ev 5) := (hb2.cell (p := ⟨1, 0, none⟩) (show 1 < w.heap.size + 2 by have := hE.z5; omega)).trans c5
  have r0' : w2.cell? ⟨w.heap.size + 1, 0, none⟩ = some (.int .i64 0) := (hb2.cell (p := ⟨w.heap.size + 1, 0, none⟩) (by simp)).trans r0
  have r1' : w2.cell? ⟨w.heap.size + 1, 1, none⟩ = some (.int .i64 0) := (hb2.cell (p := ⟨w.heap.size + 1, 1, none⟩) (by simp)).trans r1
  have f0' : w2.frozen? ⟨w.heap.size + 1, 0, none⟩ = false := (hb2.frozen (p := ⟨w.heap.size + 1, 0, none⟩) (by simp)).trans f0
  have f1' : w2.frozen? ⟨w.heap.size + 1, 1, none⟩ = false := (hb2.frozen (p := ⟨w.heap.size + 1, 1, none⟩) (by simp)).trans f1
  clear c5 r0 r1 f0 f1 kc
  have z5' := hE.z5
  have ne5 : ¬ (w.heap.size + 1 = 1) := by omega
  have ne5' : ¬ (1 = w.heap.size + 1) := by omega
  go_wp2
  go_region
  all_goals go_wp2
  all_goals
    have e0 := set_cell_same (.int .i64 0) r0'
    have e1 := set_cell_same (w := w2.setCell ⟨w.heap.size + 1, 0, none⟩ (.int .i64 0)) (.int .i64 0) ((set_cell_other _ (by omega)).trans r1')
    have e2 := (set_cell_other (w := w2.setCell ⟨w.heap.size + 1, 0, none⟩ (.int .i64 0)) (g := w.heap.size + 1) (o := 1) (o' := 0) (.int .i64 0) (by omega)).trans e0
    exact bodyPost_ret (v := .tuple #[.agg #[.int .i64 0, .int .i64 0], errV ev 5]) (by simp [e0, e1, e2, results, Tryz.results60, go_sem]) rfl ⟨rfl, (by repeat (first | exact Below.refl _ _ | refine Below.drew ?_ | refine below_drewN ?_ _ | refine Below.trans ?_ (Below.mono (by assumption) (by first | omega | (simp; omega) | (simp; done))) | refine Below.alloc ?_ (by first | omega | (simp; omega) | (simp; done)) _ | refine Below.setCell ?_ (by first | omega | (simp; omega) | (simp; done)) _))⟩
/-- a block of pages in a local variable: what its two cells hold; it may be written -/
structure Loc2 (w : World) (b : Nat) (a m : Int) : Prop where
  lt : b < w.heap.size
  c0 : w.cell? ⟨b, 0, none⟩ = some (.int .i64 a)
  c1 : w.cell? ⟨b, 1, none⟩ = some (.int .i64 m)
  f0 : w.frozen? ⟨b, 0, none⟩ = false
  f1 : w.frozen? ⟨b, 1, none⟩ = false
theorem Loc2.keep {S : List Nat} {w w' : World} {b : Nat} {a m : Int} (h : Loc2 w b a m) (k : Keep S w w') (hb : b ∉ S) : Loc2 w' b a m :=
  ⟨Nat.lt_of_lt_of_le h.lt k.size, (k.cell h.lt hb).trans h.c0, (k.cell h.lt hb).trans h.c1, (k.frozen h.lt hb).trans h.f0, (k.frozen h.lt hb).trans h.f1⟩
theorem Loc2.below {w w' : World} {b : Nat} {a m : Int} (h : Loc2 w b a m) {n : Nat} (k : Below n w w') (hb : b < n) : Loc2 w' b a m :=
  ⟨Nat.lt_of_lt_of_le h.lt k.size, (k.cell (p := ⟨b, 0, none⟩) hb).trans h.c0, (k.cell (p := ⟨b, 1, none⟩) hb).trans h.c1, (k.frozen (p := ⟨b, 0, none⟩) hb).trans h.f0, (k.frozen (p := ⟨b, 1, none⟩) hb).trans h.f1⟩
theorem Loc2.new (w : World) (a m : Int) (t : TypeId) : Loc2 (w.alloc (.cells #[.int .i64 a, .int .i64 m] t)) w.heap.size a m :=
  ⟨by simp, by rw [World.cell?_alloc_at _ _ _ _ (by simp)]; rfl, by rw [World.cell?_alloc_at _ _ _ _ (by simp)]; rfl, World.frozen?_alloc_at _ _ _ _ (by simp), World.frozen?_alloc_at _ _ _ _ (by simp)⟩
theorem Loc2.store {w : World} {b : Nat} {a m : Int} (h : Loc2 w b a m) (a' m' : Int) : Loc2 ((w.setCell ⟨b, 0, none⟩ (.int .i64 a')).setCell ⟨b, 1, none⟩ (.int .i64 m')) b a' m' := by
  have e0 := set_cell_same (.int .i64 a') h.c0
  exact ⟨by simpa [World.setCell] using h.lt, (set_cell_other (.int .i64 m') (by omega)).trans e0, set_cell_same _ ((set_cell_other _ (by omega)).trans h.c1), by rw [set_frozen, set_frozen]; exact h.f0, by rw [set_frozen, set_frozen]; exact h.f1⟩
theorem Keep.store2 {S : List Nat} {w0 w : World} {b : Nat} (h : Keep S w0 w) (hb : b ∈ S ∨ w0.heap.size ≤ b) (u v : Value) : Keep S w0 ((w.setCell ⟨b, 0, none⟩ u).setCell ⟨b, 1, none⟩ v) := (h.setCell (p := ⟨b, 0, none⟩) hb u).setCell (p := ⟨b, 1, none⟩) hb v

theorem downF_succ {k m : Int} {a : Int} {F : List (Int × Int)} (h : k < m) : downF (m - k).toNat a k F = downF (m - 1 - k).toNat a k (putL (a + sz (m - 1)) (m - 1) F) := by
  obtain ⟨d, hd⟩ : ∃ d, (m - k).toNat = d + 1 := ⟨(m - k).toNat - 1, by omega⟩
  have e1 : (m - 1 - k).toNat = d := by omega
  have e2 : k + (d : Int) = m - 1 := by omega
  rw [hd, e1, downF, e2]
theorem Bud.MapF {w : World} {pb : Nat} {n : Int} {bf bt : Nat} {F T : List (Int × Int)} (h : Bud w pb n bf bt F T) {S : List Nat} {w' : World} (k : Keep S w w') (hs : bf ∉ S) : MapB w' bf F := h.free.keep k hs
theorem InvH.down0 {n : Int} {F T : List (Int × Int)} {a k : Int} (h : InvH n F T (a, k)) : downE a k = 0 ↔ k ≠ 0 := by
  obtain ⟨b0, b1, b2, b3⟩ := h.blk
  have bn := h.t.bound (List.mem_cons_self ..)
  have := sz_pos k
  have := h.n2
  simp only at b0 b1 b2 b3 bn
  have ha : aloneE a k = 0 := aloneE_mk b0 (by omega) b1 b2 b3
  exact ⟨fun q => (downE_zero q).2, fun q => downE_mk ha q⟩

set_option maxHeartbeats 4000000 in
set_option maxRecDepth 100000 in
theorem take_ok {B : Nat} {ev : Nat → Addr} (pb : Nat) (n : Int) (bf bt : Nat) (F T : List (Int × Int)) (k : Int) (x : Int × Int) (w : World) (hE : ErrC B ev w) (hBf : B ≤ bf) (hb : Bud w pb n bf bt F T) (hI : Inv n F T) (k0 : 0 ≤ k) (k6 : k ≤ 6) (h : bestL k F = some x) :
    Calls Tryz.prog 60 #[.pointer (some ⟨pb, 0, none⟩), .int .i64 k] w fun e w' => e = .returned (.tuple #[.agg #[.int .i64 x.1, .int .i64 k], .nilIface]) ∧ Bud w' pb n bf bt (takeF k x F) (putL x.1 k T) ∧ Keep [bf, bt] w w' := by
  have hB := hE.size
  have hmf : ∀ (fn : Fn) (first cap : Array Value) (w : World), (Instr.makeFunc fn first cap).run Tryz.prog w = .ok (.func fn first cap) w := fun _ _ _ _ => rfl
  have c1 := hb.c1
  have lp := hb.ltp
  have lf := hb.ltf
  have lt := hb.ltt
  have few := hb.free.few
  obtain ⟨y, r, hfit, hmin⟩ := fitL_cons_of h
  obtain ⟨hxF, hkx⟩ := bestL_some h
  have hIH := hI.hand hxF
  have hfin := hI.take k0 h
  have hrx := hI.rngF hxF
  have FIT := Lib.hid hfit; have MIN := Lib.hid hmin; have IH := Lib.hid hIH; have HB := Lib.hid hb; have HI := Lib.hid hI; have FIN := Lib.hid hfin; have XF := Lib.hid hxF
  have hfl : (fitL k F).length ≤ 256 := Nat.le_trans (List.length_filter_le _ _) few
  rw [hfit] at hfl
  clear hb h hfit hmin hIH hfin hI hxF
  go_enter Tryz.func60, Tryz.ntmps60
  go_wp2_with (go_at_call 58; refine (size_yes _ _ ⟨k0, k6⟩).mono ?_; rintro e w' ⟨rfl, rfl⟩)
  refine (sorted_ok bf F _ (HB.out.free.below (n := w.heap.size) (by repeat (first | exact Below.refl _ _ | refine Below.drew ?_ | refine below_drewN ?_ _ | refine Below.trans ?_ (Below.mono (by assumption) (by first | omega | (simp; omega) | (simp; done))) | refine Below.alloc ?_ (by first | omega | (simp; omega) | (simp; done)) _ | refine Below.setCell ?_ (by first | omega | (simp; omega) | (simp; done)) _)) lf)).mono ?_
  rintro e w1 ⟨v, rfl, hv⟩
  have hb1 := hv.2
  have z1 := hb1.size
  simp at z1
  have kc : w1.cell? ⟨w.heap.size, 0, none⟩ = some (.int .i64 k) := (hb1.cell (p := ⟨w.heap.size, 0, none⟩) (by first | omega | (simp; omega) | (simp; done))).trans (by rw [World.cell?_alloc_past _ _ _ (by first | omega | (simp; omega) | (simp; done)), World.cell?_alloc_at _ _ _ _ (by simp)]; rfl)
  have r0 : w1.cell? ⟨w.heap.size + 1, 0, none⟩ = some (.int .i64 0) := (hb1.cell (p := ⟨w.heap.size + 1, 0, none⟩) (by first | omega | (simp; omega) | (simp; done))).trans (by rw [World.cell?_alloc_at _ _ _ _ (by simp)]; rfl)
  have r1 : w1.cell? ⟨w.heap.size + 1, 1, none⟩ = some (.int .i64 0) := (hb1.cell (p := ⟨w.heap.size + 1, 1, none⟩) (by first | omega | (simp; omega) | (simp; done))).trans (by rw [World.cell?_alloc_at _ _ _ _ (by simp)]; rfl)
  have f0 : w1.frozen? ⟨w.heap.size + 1, 0, none⟩ = false := (hb1.frozen (p := ⟨w.heap.size + 1, 0, none⟩) (by simp)).trans (World.frozen?_alloc_at _ _ _ _ (by simp))
  have f1 : w1.frozen? ⟨w.heap.size + 1, 1, none⟩ = false := (hb1.frozen (p := ⟨w.heap.size + 1, 1, none⟩) (by simp)).trans (World.frozen?_alloc_at _ _ _ _ (by simp))
  have K1 : Keep [] w w1 := Keep.of ((by repeat (first | exact Below.refl _ _ | refine Below.drew ?_ | refine below_drewN ?_ _ | refine Below.trans ?_ (Below.mono (by assumption) (by first | omega | (simp; omega) | (simp; done))) | refine Below.alloc ?_ (by first | omega | (simp; omega) | (simp; done)) _ | refine Below.setCell ?_ (by first | omega | (simp; omega) | (simp; done)) _)))
  -- what DeleteFunc leaves
  have key : ∃ g cap, w.heap.size + 2 ≤ g ∧ Calls Tryz.prog 108 #[v, clos w.heap.size] w1 fun e w' => e = .returned (.slice (some ⟨g, 0, none⟩) (y :: r).length cap) ∧ Row2 w' g (y :: r) ∧ Keep [g] w1 w' ∧ g < w'.heap.size := by
    rcases hv.mrow with ⟨rfl, hnil⟩ | ⟨g, cap, rfl, hg0, hg, hcap, hc⟩
    · have := XF.out
      rw [hnil] at this
      cases this
    · have hg1 : w.heap.size + 2 ≤ g := by simpa using hg0
      have hcl : w.heap.size < w1.heap.size := by omega
      have hcg : w.heap.size ≠ g := by omega
      refine ⟨g, cap, hg1, (delF_any g cap w.heap.size k F w1 hc hg few hcap kc hcl hcg).mono fun e w' ⟨h1, h2, h3⟩ => ?_⟩
      rw [FIT.out] at h1 h2
      exact ⟨h1, h2, h3, by have := h3.size; omega⟩
  obtain ⟨g, cap, hg, key⟩ := key
  have KEY := Lib.hid key
  clear key hv XF FIT
  unfold clos at KEY
  obtain ⟨m, hm⟩ : ∃ m, m = (y :: r).length := ⟨_, rfl⟩
  have hm1 : 1 ≤ m := by rw [hm]; simp
  rw [← hm] at KEY hfl
  have hm0 : ((m : Int) == 0) = false := beq_eq_false_iff_ne.2 (by omega)
  have HM := Lib.hid hm
  clear hm
  go_wp2_with fail
  refine KEY.out.mono ?_
  rintro e w2 ⟨rfl, row2, hk2, hg2⟩
  have z2 := hk2.size
  have r0' := (hk2.cell (b := w.heap.size + 1) (o := 0) (by first | omega | (simp; omega) | (simp; done)) (by simp; omega)).trans r0
  have r1' := (hk2.cell (b := w.heap.size + 1) (o := 1) (by first | omega | (simp; omega) | (simp; done)) (by simp; omega)).trans r1
  have f0' := (hk2.frozen (b := w.heap.size + 1) (o := 0) (by first | omega | (simp; omega) | (simp; done)) (by simp; omega)).trans f0
  have f1' := (hk2.frozen (b := w.heap.size + 1) (o := 1) (by first | omega | (simp; omega) | (simp; done)) (by simp; omega)).trans f1
  have kc' := (hk2.cell (b := w.heap.size) (o := 0) (by first | omega | (simp; omega) | (simp; done)) (by simp; omega)).trans kc
  have K2 : Keep [] w w2 := K1.trans hk2 (fun s hs => .inr (by rw [List.mem_singleton.1 hs]; omega))
  have MF := Lib.hid (minF_any g cap y r w2 row2 hg2 (by rw [← HM.out]; exact hfl))
  rw [← HM.out, MIN.out] at MF
  clear kc r0 r1 f0 f1 hk2 row2
  go_wp2_with fail
  refine MF.out.mono ?_
  rintro e w3 ⟨rfl, hb3⟩
  clear MF hm0
  have z3 := hb3.size
  have K3 : Keep [] w w3 := K2.step hb3
  have r0 := (hb3.cell (p := ⟨w.heap.size + 1, 0, none⟩) (by first | omega | (simp; omega) | (simp; done))).trans r0'
  have r1 := (hb3.cell (p := ⟨w.heap.size + 1, 1, none⟩) (by first | omega | (simp; omega) | (simp; done))).trans r1'
  have f0 := (hb3.frozen (p := ⟨w.heap.size + 1, 0, none⟩) (by first | omega | (simp; omega) | (simp; done))).trans f0'
  have f1 := (hb3.frozen (p := ⟨w.heap.size + 1, 1, none⟩) (by first | omega | (simp; omega) | (simp; done))).trans f1'
  have kc := (hb3.cell (p := ⟨w.heap.size, 0, none⟩) (by first | omega | (simp; omega) | (simp; done))).trans kc'
  clear r0' r1' f0' f1' kc'
  obtain ⟨a, m0⟩ := x
  simp only at hrx hkx
  have L1 : Loc2 w3 (w.heap.size + 1) 0 0 := ⟨by omega, r0, r1, f0, f1⟩
  have HL1 := Lib.hid L1
  have lp3 : pb < w3.heap.size := by omega
  have c1' := (K3.cell (o := 1) lp (by simp)).trans c1
  have ka : Keep [] w3 ((w3.alloc (.cells #[.int .i64 a, .int .i64 m0] 39)).drew) := ((Keep.refl _ _).alloc _).drew
  have M3 : MapB ((w3.alloc (.cells #[.int .i64 a, .int .i64 m0] 39)).drew) bf F := (HB.out.free.keep K3 (by simp)).keep ka (by simp)
  obtain ⟨w4, hrun, hdrop, hturn⟩ := M3.drop (a := a) (wfInt hrx.1 hrx.2.1) 0
  have ne3 : bf ≠ w3.heap.size := by omega
  have ne1 : bf ≠ w.heap.size := by omega
  have ne2 : bf ≠ w.heap.size + 1 := by omega
  have k34 : Keep [bf] w3 w4 := (ka.mono (fun s q => by cases q)).grown hturn.grown (.inl (by simp))
  have kb4 : Keep [bf] ((w3.alloc (.cells #[.int .i64 a, .int .i64 m0] 39)).drew) w4 := (Keep.refl _ _).grown hturn.grown (.inl (by simp))
  have D := Lib.hid hdrop
  have X4 := Lib.hid (((Loc2.new w3 a m0 39).keep (Keep.drew (Keep.refl [] _)) (by simp)).keep kb4 (by simpa using ne3.symm))
  have R4 := Lib.hid (L1.keep k34 (by simpa using ne2.symm))
  have O4 := Lib.hid ((k34.cell (b := w.heap.size) (o := 0) (by omega) (by simpa using ne1.symm)).trans kc)
  have B4 := Lib.hid ((HB.out.keep K3 (by simp) (by simp) (by simp)).turnF hdrop k34)
  have K4 : Keep [bf] w w4 := (K3.mono (fun s q => by cases q)).then k34
  clear hdrop hturn L1 r0 r1 f0 f1 kb4 M3 ka
  go_wp2_with fail
  refine wp_tail 6 (by kernel_rfl) (by kernel_rfl) ?_
  simp only [List.take_succ_cons, List.take_zero, List.drop_succ_cons, List.drop_zero]
  repeat still_step
  refine wpStill_nil ?_
  go_wp2
  clear hrun kc c1' c1
  have z4 := k34.size
  have IH4 := Lib.hid (show InvH n (delL a F) T (a, m0) from IH.out)
  have DF4 := Lib.hid (show downF (m0 - k).toNat a k (delL a F) = takeF k (a, m0) F from rfl)
  clear IH k34 HL1
  go_loopg [10, 11, 12] 7 (fun gg _ _ _ wr => ∃ (q : Int) (F' : List (Int × Int)), (q - k).toNat < gg ∧ k ≤ q ∧ q ≤ 6 ∧ Hid (Bud wr pb n bf bt F' T) ∧ Hid (InvH n F' T (a, q)) ∧ Hid (downF (q - k).toNat a k F' = takeF k (a, m0) F) ∧ Hid (Loc2 wr w3.heap.size a q) ∧ Hid (Loc2 wr (w.heap.size + 1) 0 0)
    ∧ Hid (wr.cell? ⟨w.heap.size, 0, none⟩ = some (.int .i64 k)) ∧ Keep [bf] w wr ∧ w3.heap.size < wr.heap.size)
  case atStart => exact ⟨m0, delL a F, by omega, hkx, by omega, B4, IH4, DF4, X4, R4, O4, K4, X4.out.lt⟩
  case round =>
    obtain ⟨q, F', hgg, hkq, hq6, HBr, IHr, DFr, Xr, Rr, Or, Kr, zr⟩ := hrel
    clear B4 IH4 DF4 X4 R4 O4 K4
    have x0 := Xr.out.c0; have x1 := Xr.out.c1
    have o0 := Or.out
    by_cases hlt : k < q
    · have hcut := InvH.cut (n := n) (F := F') (T := T) (a := a) (k := q - 1) (by omega) (by rw [show q - 1 + 1 = q by omega]; exact IHr.out)
      have hdn := (InvH.down0 IHr.out).2 (by omega)
      have hEr : ErrC B ev wr := hE.below (Kr.below (B := B) (by omega) (fun s hs => by rw [List.mem_singleton.1 hs]; exact hBf))
      have hrg := hcut.rng (p := (a + sz (q - 1), q - 1)) (List.mem_cons_of_mem _ (List.mem_append_left _ ((mem_putL IHr.out.fa).2 (.inl rfl))))
      have hln := asc_len256 hcut.fa (fun p hp => hcut.rng (List.mem_cons_of_mem _ (List.mem_append_left _ hp)))
      have CUT := Lib.hid hcut
      have HO := Lib.hid (halves_ok a q wr hEr hdn)
      clear hcut hdn hEr
      go_wp2_with fail
      refine HO.out.mono ?_
      rintro e w5 ⟨rfl, hb5⟩
      clear HO
      have z5 := hb5.size
      have q1 := (hb5.cell (p := ⟨pb, 1, none⟩) (show pb < wr.heap.size by omega)).trans HBr.out.c1
      have lp5 : pb < w5.heap.size := by omega
      have ka : Keep [] w5 (((w5.alloc (.cells #[.int .i64 a, .int .i64 (q - 1)] 39)).alloc (.cells #[.int .i64 (a + sz (q - 1)), .int .i64 (q - 1)] 39)).drew) := (((Keep.refl _ _).alloc _).alloc _).drew
      have kr5 : Keep [] wr w5 := Keep.of hb5
      have B5 := HBr.out.keep kr5 (by simp) (by simp) (by simp)
      obtain ⟨w7, hrun, hput, hgr⟩ := (B5.free.keep ka (by simp)).put hrg hln
      have k57 : Keep [bf] w5 w7 := (ka.mono (fun s q => by cases q)).grown hgr (.inl (by simp))
      have z7 := k57.size
      have kl : Keep [bf] (((w5.alloc (.cells #[.int .i64 a, .int .i64 (q - 1)] 39)).alloc (.cells #[.int .i64 (a + sz (q - 1)), .int .i64 (q - 1)] 39)).drew) w7 := (Keep.refl _ _).grown hgr (.inl (by simp))
      have nl : w5.heap.size ≠ bf := by omega
      have LO := ((Loc2.new w5 a (q - 1) 39).keep (((Keep.refl [] _).alloc (.cells #[.int .i64 (a + sz (q - 1)), .int .i64 (q - 1)] 39)).drew) (by simp)).keep kl (by simpa using nl)
      have l0 := LO.c0; have l1 := LO.c1
      have kr7 : Keep [bf] wr w7 := (kr5.mono (fun s q => by cases q)).then k57
      have X7 := Xr.out.keep kr7 (by simpa using ne3.symm)
      have R7 := Rr.out.keep kr7 (by simpa using ne2.symm)
      have x2 := X7.c0; have x3 := X7.c1; have x4 := X7.f0; have x5 := X7.f1
      have B7 := B5.turnF hput k57
      have O7 := (kr7.cell (b := w.heap.size) (o := 0) (by omega) (by simpa using ne1.symm)).trans o0
      have np : pb ≠ w3.heap.size := by omega
      have nt' : bt ≠ w3.heap.size := by omega
      have nw1 : w.heap.size ≠ w3.heap.size := by omega
      have nw2 : w.heap.size + 1 ≠ w3.heap.size := by omega
      have ks : Keep [w3.heap.size] w7 ((w7.setCell ⟨w3.heap.size, 0, none⟩ (.int .i64 a)).setCell ⟨w3.heap.size, 1, none⟩ (.int .i64 (q - 1))) := (Keep.refl _ _).store2 (.inl (by simp)) _ _
      have B8 := Lib.hid (B7.keep ks (by simpa using np) (by simpa using ne3) (by simpa using nt'))
      have X8 := Lib.hid (X7.store a (q - 1))
      have R8 := Lib.hid (R7.keep ks (by simpa using nw2))
      have O8 := Lib.hid ((ks.cell (b := w.heap.size) (o := 0) (by omega) (by simpa using nw1)).trans O7)
      have K8 := Lib.hid ((Kr.then kr7).store2 (b := w3.heap.size) (.inr (by omega)) (.int .i64 a) (.int .i64 (q - 1)))
      clear hput hgr ka kr5 B5 k57 kl LO kr7 X7 R7 B7 O7 ks o0 x0 x1 hrg hln
      go_wp2_with fail
      refine wp_tail 8 (by kernel_rfl) (by kernel_rfl) ?_
      simp only [List.take_succ_cons, List.take_zero, List.drop_succ_cons, List.drop_zero]
      repeat still_step
      refine wpStill_nil ?_
      go_wp2
      go_roundg ((q - 1 - k).toNat + 1)
      case measure => omega
      case rel => exact ⟨q - 1, _, by omega, by omega, by omega, B8, CUT, by rw [← DFr.out, downF_succ hlt]; rfl, X8, R8, O8, K8.out, by simp [World.setCell]; omega⟩
    · have eq : q = k := by omega
      subst eq
      have hput := IHr.out
      have e0 : (q - q).toNat = 0 := by omega
      have hF : F' = takeF q (a, m0) F := by have := DFr.out; rwa [e0] at this
      have br := HBr.out
      have c2 := br.c2
      have lpr : pb < wr.heap.size := by omega
      have ka : Keep [] wr wr.drew := (Keep.refl _ _).drew
      have hrg := hput.rng (p := (a, q)) (List.mem_cons_self ..)
      have hln := asc_len256 hput.putT.ta (fun p hp => hput.putT.rngT hp)
      obtain ⟨w7, hrun, hpt, hgr⟩ := (br.taken.keep ka (by simp)).put hrg hln
      have k7 : Keep [bt] wr w7 := (ka.mono (fun s q => by cases q)).grown hgr (.inl (by simp))
      have nt1 : w3.heap.size ≠ bt := by omega
      have nt2 : w.heap.size + 1 ≠ bt := by omega
      have X7 := Xr.out.keep k7 (by simpa using nt1)
      have R7 := Rr.out.keep k7 (by simpa using nt2)
      have x2 := X7.c0; have x3 := X7.c1
      have y0 := R7.c0; have y1 := R7.c1; have y2 := R7.f0; have y3 := R7.f1
      have B7 := br.turnT hpt k7
      have K7 : Keep [bf, bt] w w7 := (Kr.mono (fun s hs => by simp at hs ⊢; exact .inl hs)).then (k7.mono (fun s hs => by simp at hs ⊢; exact .inr hs))
      have np : pb ≠ w.heap.size + 1 := by omega
      have nf : bf ≠ w.heap.size + 1 := by omega
      have nt' : bt ≠ w.heap.size + 1 := by omega
      have ks : Keep [w.heap.size + 1] w7 ((w7.setCell ⟨w.heap.size + 1, 0, none⟩ (.int .i64 a)).setCell ⟨w.heap.size + 1, 1, none⟩ (.int .i64 q)) := (Keep.refl _ _).store2 (.inl (by simp)) _ _
      have B8 := B7.keep ks (by simpa using np) (by simpa using nf) (by simpa using nt')
      rw [hF] at B8
      have HB8 := Lib.hid B8
      have R8 := R7.store a q
      have rc0 := R8.c0; have rc1 := R8.c1
      have K8 := Lib.hid (K7.store2 (b := w.heap.size + 1) (.inr (by omega)) (.int .i64 a) (.int .i64 q))
      have RR := Lib.hid R8
      clear hput hF br hrg hln hpt hgr k7 X7 R7 B7 K7 ks B8 ka R8
      have hnlt : ¬ q < q := by omega
      go_wp2_with fail
      refine wp_tail 8 (by kernel_rfl) (by kernel_rfl) ?_
      simp only [List.take_succ_cons, List.take_zero, List.drop_succ_cons, List.drop_zero]
      repeat still_step
      refine wpStill_nil ?_
      go_wp2
      have e0 := set_cell_same (.int .i64 a) y0
      exact bodyPost_ret (v := .tuple #[.agg #[.int .i64 a, .int .i64 q], .nilIface]) (by simp [e0, rc0, rc1, results, Tryz.results60, go_sem]) rfl ⟨rfl, HB8.out, K8.out⟩
end Go.Proofs.YtcokmiidgdmdlaaGreatDoor

namespace Go.Proofs.YtcokmiidgdmdlaaGreatDoor
open Go.RowKit Go.Maps
set_option linter.unusedSimpArgs false

set_option maxHeartbeats 400000 in
theorem give_none {B : Nat} {ev : Nat → Addr} (pb : Nat) (n : Int) (bf bt : Nat) (F T : List (Int × Int)) (a k : Int) (w : World) (hE : ErrC B ev w) (hb : Bud w pb n bf bt F T) (ha : (Lit.int .i64 a).wf = true) (h : hasL T a k = false) :
    Calls Tryz.prog 73 #[.pointer (some ⟨pb, 0, none⟩), .agg #[.int .i64 a, .int .i64 k]] w fun e w' => e = .returned (errV ev 4) ∧ Below w.heap.size w w' := by
  have hB := hE.size
  have lp := hb.ltp
  have bud : Bud (w.alloc (.cells #[.int .i64 a, .int .i64 k] 39)) pb n bf bt F T := hb.below (by repeat (first | exact Below.refl _ _ | refine Below.drew ?_ | refine below_drewN ?_ _ | refine Below.trans ?_ (Below.mono (by assumption) (by first | omega | (simp; omega) | (simp; done))) | refine Below.alloc ?_ (by first | omega | (simp; omega) | (simp; done)) _ | refine Below.setCell ?_ (by first | omega | (simp; omega) | (simp; done)) _))
  have HH := Lib.hid (has_ok pb n bf bt F T a k _ bud ha (by first | omega | (simp; omega) | (simp; done)))
  rw [h] at HH
  clear hb ha h bud
  go_enter Tryz.func73, Tryz.ntmps73
  go_wp2_with fail
  refine HH.out.mono ?_
  rintro e w1 ⟨rfl, hb1⟩
  have z1 := hb1.size
  simp at z1
  have hE1 : ErrC B ev w1 := hE.below (by repeat (first | exact Below.refl _ _ | refine Below.drew ?_ | refine below_drewN ?_ _ | refine Below.trans ?_ (Below.mono (by assumption) (by first | omega | (simp; omega) | (simp; done))) | refine Below.alloc ?_ (by first | omega | (simp; omega) | (simp; done)) _ | refine Below.setCell ?_ (by first | omega | (simp; omega) | (simp; done)) _))
  have c4 := hE1.c4
  have z4 := hE1.z4
  go_wp2
  go_ret
  exact ⟨rfl, (by repeat (first | exact Below.refl _ _ | refine Below.drew ?_ | refine below_drewN ?_ _ | refine Below.trans ?_ (Below.mono (by assumption) (by first | omega | (simp; omega) | (simp; done))) | refine Below.alloc ?_ (by first | omega | (simp; omega) | (simp; done)) _ | refine Below.setCell ?_ (by first | omega | (simp; omega) | (simp; done)) _))⟩

theorem hasL_mem {T : List (Int × Int)} {a k : Int} (hA : Asc T) : hasL T a k = true ↔ (a, k) ∈ T := by
  unfold hasL
  rw [mem_asc hA]
  simp
theorem upF_stop {a k : Int} {F : List (Int × Int)} (k0 : 0 ≤ k) (k6 : k ≤ 6) (h : k < 6 → getL F (budA a k) ≠ some k) : upF (6 - k).toNat a k F = ((a, k), F) := by
  by_cases e : k = 6
  · subst e; rfl
  · obtain ⟨d, hd⟩ : ∃ d, (6 - k).toNat = d + 1 := ⟨(6 - k).toNat - 1, by omega⟩
    rw [hd, upF, if_neg (h (by omega))]
theorem upF_go {a k : Int} {F : List (Int × Int)} (k6 : k < 6) (h : getL F (budA a k) = some k) : upF (6 - k).toNat a k F = upF (6 - (k + 1)).toNat (parA a k) (k + 1) (delL (budA a k) F) := by
  obtain ⟨d, hd⟩ : ∃ d, (6 - k).toNat = d + 1 := ⟨(6 - k).toNat - 1, by omega⟩
  have e : (6 - (k + 1)).toNat = d := by omega
  rw [hd, upF, if_pos h, e]
def upP (a k : Int) (F : List (Int × Int)) : List (Int × Int) := putL (upF (6 - k).toNat a k F).1.1 (upF (6 - k).toNat a k F).1.2 (upF (6 - k).toNat a k F).2
theorem upP_stop {a k : Int} {F : List (Int × Int)} (k0 : 0 ≤ k) (k6 : k ≤ 6) (h : k < 6 → getL F (budA a k) ≠ some k) : upP a k F = putL a k F := by unfold upP; rw [upF_stop k0 k6 h]
theorem upP_go {a k : Int} {F : List (Int × Int)} (k6 : k < 6) (h : getL F (budA a k) = some k) : upP a k F = upP (parA a k) (k + 1) (delL (budA a k) F) := by unfold upP; rw [upF_go k6 h]

set_option maxHeartbeats 4000000 in
set_option maxRecDepth 100000 in
theorem give_ok {B : Nat} {ev : Nat → Addr} (pb : Nat) (n : Int) (bf bt : Nat) (F T : List (Int × Int)) (a k : Int) (w : World) (hE : ErrC B ev w) (hBf : B ≤ bf) (hBt : B ≤ bt) (hb : Bud w pb n bf bt F T) (hI : Inv n F T) (hx : (a, k) ∈ T) :
    Calls Tryz.prog 73 #[.pointer (some ⟨pb, 0, none⟩), .agg #[.int .i64 a, .int .i64 k]] w fun e w' => e = .returned .nilIface ∧ Bud w' pb n bf bt (giveF a k F) (delL a T) ∧ Keep [bf, bt] w w' := by
  have hB := hE.size
  have lp := hb.ltp
  have lf := hb.ltf
  have lt := hb.ltt
  have hrx := hI.rngT hx
  simp only at hrx
  have ha := wfInt hrx.1 hrx.2.1
  have bud : Bud (w.alloc (.cells #[.int .i64 a, .int .i64 k] 39)) pb n bf bt F T := hb.below (by repeat (first | exact Below.refl _ _ | refine Below.drew ?_ | refine below_drewN ?_ _ | refine Below.trans ?_ (Below.mono (by assumption) (by first | omega | (simp; omega) | (simp; done))) | refine Below.alloc ?_ (by first | omega | (simp; omega) | (simp; done)) _ | refine Below.setCell ?_ (by first | omega | (simp; omega) | (simp; done)) _))
  have HH := Lib.hid (has_ok pb n bf bt F T a k _ bud ha (by first | omega | (simp; omega) | (simp; done)))
  rw [(hasL_mem hI.ta).2 hx] at HH
  have BU := Lib.hid bud
  have ih := Lib.hid (hI.handT hx)
  have GF := Lib.hid (show upP a k F = giveF a k F from rfl)
  clear hb hI hx bud
  go_enter Tryz.func73, Tryz.ntmps73
  go_wp2_with fail
  refine HH.out.mono ?_
  rintro e w1 ⟨rfl, hb1⟩
  clear HH
  have z1 := hb1.size
  simp at z1
  have K1 : Keep [] w w1 := Keep.of (by repeat (first | exact Below.refl _ _ | refine Below.drew ?_ | refine below_drewN ?_ _ | refine Below.trans ?_ (Below.mono (by assumption) (by first | omega | (simp; omega) | (simp; done))) | refine Below.alloc ?_ (by first | omega | (simp; omega) | (simp; done)) _ | refine Below.setCell ?_ (by first | omega | (simp; omega) | (simp; done)) _))
  have B1 := BU.out.below hb1
  have c2 := B1.c2
  have X1 := (Loc2.new w a k 39).below hb1 (by simp)
  have x0 := X1.c0
  have ka : Keep [] w1 w1.drew := (Keep.refl _ _).drew
  have lp1 : pb < w1.heap.size := by omega
  obtain ⟨w2, hrun, hdrop, hturn⟩ := (B1.taken.keep ka (by simp)).drop (a := a) ha 0
  have k12 : Keep [bt] w1 w2 := (ka.mono (fun s q => by cases q)).grown hturn.grown (.inl (by simp))
  have B2 := Lib.hid (B1.turnT hdrop k12)
  have nt1 : w.heap.size ≠ bt := by omega
  have nf1 : w.heap.size ≠ bf := by omega
  have X2 := Lib.hid (X1.keep k12 (by simpa using nt1))
  have K2 : Keep [bf, bt] w w2 := (K1.mono (fun s q => by cases q)).then (k12.mono (fun s hs => by simp at hs ⊢; exact .inr hs))
  clear hdrop hturn k12 B1 X1 ka K1
  go_wp2_with fail
  refine wp_tail 6 (by kernel_rfl) (by kernel_rfl) ?_
  simp only [List.take_succ_cons, List.take_zero, List.drop_succ_cons, List.drop_zero]
  repeat still_step
  refine wpStill_nil ?_
  go_wp2
  clear hrun c2 x0
  go_loopg [5, 6, 7, 8] 8 (fun gg _ _ _ _ wr => ∃ (q p : Int) (F' : List (Int × Int)), (6 - q).toNat < gg ∧ 0 ≤ q ∧ q ≤ 6 ∧ 0 ≤ p ∧ p < 256 ∧ Hid (Bud wr pb n bf bt F' (delL a T)) ∧ Hid (InvH n F' (delL a T) (p, q)) ∧ Hid (upP p q F' = giveF a k F) ∧ Hid (Loc2 wr w.heap.size p q) ∧ Keep [bf, bt] w wr ∧ w.heap.size < wr.heap.size)
  case atStart => exact ⟨k, a, F, by omega, by omega, by omega, by omega, by omega, B2, ih, GF, X2, K2, X2.out.lt⟩
  case round =>
    obtain ⟨q, p, F', hgg, q0, q6, p0, p256, HBr, IHr, DFr, Xr, Kr, zr⟩ := hrel
    clear B2 ih GF X2 K2
    have x0 := Xr.out.c0; have x1 := Xr.out.c1
    have hblk := IHr.out.blk
    have al : aloneE p q = 0 := aloneE_mk p0 (by omega) q0 q6 hblk.2.2.2
    have hEr : ErrC B ev wr := hE.below (Kr.below (B := B) (by omega) (fun s hs => by simp at hs; rcases hs with rfl | rfl; (· exact hBf); (· exact hBt)))
    have zrw := Kr.size
    clear hblk
    by_cases h6 : q = 6
    · have HNO : Hid (q < 6 → getL F' (budA p q) ≠ some q) := fun h => absurd h (by omega)
      have HO := Lib.hid (buddy_err p q 3 wr hEr (by unfold upE; rw [if_pos al, if_pos h6]))
      clear hEr al h6
      go_wp2_with fail
      refine HO.out.mono ?_
      rintro e w5 ⟨rfl, hb5⟩
      clear HO
      have z5 := hb5.size
      have c1 := (hb5.cell (p := ⟨pb, 1, none⟩) (show pb < wr.heap.size by omega)).trans HBr.out.c1
      have lp5 : pb < w5.heap.size := by omega
      have lk := fun m => lookm_any (((HBr.out.free.keep (Keep.of (S := []) hb5) (by simp)).keep (((Keep.refl [] _).alloc (.cells #[.int .i64 0, .int .i64 0] 39)).drewN m) (by simp))) (a := 0) (wfInt (by omega) (by omega))
      go_wp2
      go_quiet (fail)
      have Bn := HBr.out.keep (Keep.of (S := []) hb5) (by simp) (by simp) (by simp)
      have ky : Keep [] w5 ((((w5.alloc (.cells #[.int .i64 0, .int .i64 0] 39)).drewN (nq + 1)))) := ((Keep.refl _ _).alloc _).drewN _
      have hput := IHr.out
      have hfin := hput.putF HNO.out
      obtain ⟨w7, hrun, hpt, hgr⟩ := (Bn.free.keep ky (by simp)).put (hput.rng (List.mem_cons_self ..)) (asc_len256 hfin.fa (fun z hz => hfin.rngF hz))
      have k57 : Keep [bf] w5 w7 := (ky.mono (fun s q => by cases q)).grown hgr (.inl (by simp))
      have B7 := Bn.turnF hpt k57
      rw [← upP_stop q0 q6 HNO.out, DFr.out] at B7
      have HB7 := Lib.hid B7
      have K7 : Keep [bf, bt] w w7 := (Kr.step hb5).then (k57.mono (fun s hs => by simp at hs ⊢; exact .inl hs))
      have HK7 := Lib.hid K7
      have c1 := Bn.c1
      have lp5 : pb < w5.heap.size := by omega
      have s0 := (hb5.cell (p := ⟨w.heap.size, 0, none⟩) zr).trans x0
      have s1 := (hb5.cell (p := ⟨w.heap.size, 1, none⟩) zr).trans x1
      have lw5 : w.heap.size < w5.heap.size := by omega
      clear hput hfin hpt hgr k57 B7 K7 ky Bn
      go_wp2
      refine wp_tail 8 (by kernel_rfl) (by kernel_rfl) ?_
      simp only [List.take_succ_cons, List.take_zero, List.drop_succ_cons, List.drop_zero]
      repeat still_step
      refine wpStill_nil ?_
      go_wp2

      go_ret
      exact ⟨rfl, HB7.out, HK7.out⟩
    · have kb : 0 ≤ budA p q ∧ budA p q < 256 := by
        obtain ⟨⟨u1, u2, _⟩, _⟩ := kin p0 (by omega) q0 (by omega) (aloneE_zero al).2.2.2.2
        omega
      cases hg : getL F' (budA p q) with
      | none =>
        have HNO : Hid (q < 6 → getL F' (budA p q) ≠ some q) := fun _ e => by rw [hg] at e; cases e
        have HO := Lib.hid (buddy_ok p q wr hEr (upE_mk al (by omega)))
        clear hEr al
        go_wp2_with fail
        refine HO.out.mono ?_
        rintro e w5 ⟨rfl, hb5⟩
        clear HO
        have z5 := hb5.size
        have c1 := (hb5.cell (p := ⟨pb, 1, none⟩) (show pb < wr.heap.size by omega)).trans HBr.out.c1
        have lp5 : pb < w5.heap.size := by omega
        have lk := fun m => lookm_any (((HBr.out.free.keep (Keep.of (S := []) hb5) (by simp)).keep (((Keep.refl [] _).alloc (.cells #[.int .i64 (budA p q), .int .i64 q] 39)).drewN m) (by simp))) (a := budA p q) (wfInt kb.1 kb.2)
        rw [hg] at lk
        simp only [Option.getD_none, Option.isSome_none] at lk
        clear hg kb h6
        go_wp2
        go_quiet (fail)
        have Bn := HBr.out.keep (Keep.of (S := []) hb5) (by simp) (by simp) (by simp)
        have ky : Keep [] w5 ((((w5.alloc (.cells #[.int .i64 (budA p q), .int .i64 q] 39)).drewN (nq + 1)))) := ((Keep.refl _ _).alloc _).drewN _
        have hput := IHr.out
        have hfin := hput.putF HNO.out
        obtain ⟨w7, hrun, hpt, hgr⟩ := (Bn.free.keep ky (by simp)).put (hput.rng (List.mem_cons_self ..)) (asc_len256 hfin.fa (fun z hz => hfin.rngF hz))
        have k57 : Keep [bf] w5 w7 := (ky.mono (fun s q => by cases q)).grown hgr (.inl (by simp))
        have B7 := Bn.turnF hpt k57
        rw [← upP_stop q0 q6 HNO.out, DFr.out] at B7
        have HB7 := Lib.hid B7
        have K7 : Keep [bf, bt] w w7 := (Kr.step hb5).then (k57.mono (fun s hs => by simp at hs ⊢; exact .inl hs))
        have HK7 := Lib.hid K7
        have c1 := Bn.c1
        have lp5 : pb < w5.heap.size := by omega
        have s0 := (hb5.cell (p := ⟨w.heap.size, 0, none⟩) zr).trans x0
        have s1 := (hb5.cell (p := ⟨w.heap.size, 1, none⟩) zr).trans x1
        have lw5 : w.heap.size < w5.heap.size := by omega
        clear hput hfin hpt hgr k57 B7 K7 ky Bn
        go_wp2
        refine wp_tail 8 (by kernel_rfl) (by kernel_rfl) ?_
        simp only [List.take_succ_cons, List.take_zero, List.drop_succ_cons, List.drop_zero]
        repeat still_step
        refine wpStill_nil ?_
        go_wp2

        go_ret
        exact ⟨rfl, HB7.out, HK7.out⟩
      | some k2 =>
        by_cases hk2 : k2 = q
        · subst hk2
          have hup := IHr.out.up (by omega) hg
          have DF2 := Lib.hid ((upP_go (by omega) hg).symm.trans DFr.out)
          have UP := Lib.hid hup
          have al2 := al
          have kpp := kin_p p0 (by omega) q0 (by omega) (aloneE_zero al).2.2.2.2
          have hub := hup.rng (List.mem_cons_self ..)
          simp only at hub
          have HO := Lib.hid (buddy_ok p k2 wr hEr (upE_mk al (by omega)))
          clear hEr al
          go_wp2_with fail
          refine HO.out.mono ?_
          rintro e w5 ⟨rfl, hb5⟩
          clear HO
          have z5 := hb5.size
          have c1 := (hb5.cell (p := ⟨pb, 1, none⟩) (show pb < wr.heap.size by omega)).trans HBr.out.c1
          have lp5 : pb < w5.heap.size := by omega
          have lk := fun m => lookm_any (((HBr.out.free.keep (Keep.of (S := []) hb5) (by simp)).keep (((Keep.refl [] _).alloc (.cells #[.int .i64 (budA p k2), .int .i64 k2] 39)).drewN m) (by simp))) (a := budA p k2) (wfInt kb.1 kb.2)
          rw [hg] at lk
          simp only [Option.getD_some, Option.isSome_some] at lk
          have hne : (k2 != k2) = false := by simp
          clear hg h6 hup
          go_wp2
          go_quiet (fail)
          have Bn := HBr.out.keep (Keep.of (S := []) hb5) (by simp) (by simp) (by simp)
          have ky : Keep [] w5 ((w5.alloc (.cells #[.int .i64 (budA p k2), .int .i64 k2] 39)).drewN (nq + 1)) := ((Keep.refl _ _).alloc _).drewN _
          obtain ⟨w7, hrun, hpt, hturn⟩ := (Bn.free.keep ky (by simp)).drop (a := budA p k2) (wfInt kb.1 kb.2) 0
          have k57 : Keep [bf] w5 w7 := (ky.mono (fun s q => by cases q)).grown hturn.grown (.inl (by simp))
          have B7 := Bn.turnF hpt k57
          have k7r : Keep [bf, bt] w w7 := (Kr.step hb5).then (k57.mono (fun s hs => by simp at hs ⊢; exact .inl hs))
          have kr7 : Keep [bf] wr w7 := (Keep.of hb5).then k57
          have X7 := Xr.out.keep kr7 (by simpa using nf1)
          have hE7 : ErrC B ev w7 := hE.below (k7r.below (B := B) (by omega) (fun s hs => by simp at hs; rcases hs with rfl | rfl; (· exact hBf); (· exact hBt)))
          have s0 := X7.c0; have s1 := X7.c1
          have z7 := k57.size
          have HB7 := Lib.hid B7; have HX7 := Lib.hid X7; have K7 := Lib.hid k7r
          have PO := Lib.hid (parent_ok p k2 w7 hE7 (upE_mk al2 (by omega)))
          have lw5 : w.heap.size < w5.heap.size := by omega
          clear hpt hturn k57 B7 k7r kr7 X7 ky Bn hE7 kb lk x0 x1
          go_wp2
          refine wp_tail 6 (by kernel_rfl) (by kernel_rfl) ?_
          simp only [List.take_succ_cons, List.take_zero, List.drop_succ_cons, List.drop_zero]
          repeat still_step
          refine wpStill_nil ?_
          go_wp2_with fail
          refine PO.out.mono ?_
          rintro e w8 ⟨rfl, hb8⟩
          have z8 := hb8.size
          have X8 := HX7.out.below hb8 (show w.heap.size < w7.heap.size by omega)
          have t0 := X8.c0; have t1 := X8.c1; have t2 := X8.f0; have t3 := X8.f1
          have ks : Keep [w.heap.size] w8 ((w8.setCell ⟨w.heap.size, 0, none⟩ (.int .i64 (parA p k2))).setCell ⟨w.heap.size, 1, none⟩ (.int .i64 (k2 + 1))) := (Keep.refl _ _).store2 (.inl (by simp)) _ _
          have np : pb ≠ w.heap.size := by omega
          have B8 := Lib.hid ((HB7.out.below hb8).keep ks (by simpa using np) (by simpa using nf1.symm) (by simpa using nt1.symm))
          have HX8 := Lib.hid (X8.store (parA p k2) (k2 + 1))
          have K8 := Lib.hid ((K7.out.step hb8).store2 (b := w.heap.size) (.inr (Nat.le_refl _)) (.int .i64 (parA p k2)) (.int .i64 (k2 + 1)))
          clear ks X8 hrun
          go_wp2
          go_roundg ((6 - (k2 + 1)).toNat + 1)
          case measure => omega
          case rel => exact ⟨k2 + 1, parA p k2, _, by omega, by omega, by omega, kpp.1, by omega, B8, UP, DF2, HX8, K8.out, by simp [World.setCell]; omega⟩
        · have HNO : Hid (q < 6 → getL F' (budA p q) ≠ some q) := fun _ e => hk2 (Option.some.inj (hg.symm.trans e))
          have hne : (k2 != q) = true := by rw [bne_iff_ne]; exact hk2
          have hne' : (k2 == q) = false := beq_eq_false_iff_ne.2 hk2
          have HO := Lib.hid (buddy_ok p q wr hEr (upE_mk al (by omega)))
          clear hEr al
          go_wp2_with fail
          refine HO.out.mono ?_
          rintro e w5 ⟨rfl, hb5⟩
          clear HO
          have z5 := hb5.size
          have c1 := (hb5.cell (p := ⟨pb, 1, none⟩) (show pb < wr.heap.size by omega)).trans HBr.out.c1
          have lp5 : pb < w5.heap.size := by omega
          have lk := fun m => lookm_any (((HBr.out.free.keep (Keep.of (S := []) hb5) (by simp)).keep (((Keep.refl [] _).alloc (.cells #[.int .i64 (budA p q), .int .i64 q] 39)).drewN m) (by simp))) (a := budA p q) (wfInt kb.1 kb.2)
          rw [hg] at lk
          simp only [Option.getD_some, Option.isSome_some] at lk
          clear hg kb h6 hk2
          go_wp2
          go_quiet (fail)
          have Bn := HBr.out.keep (Keep.of (S := []) hb5) (by simp) (by simp) (by simp)
          have ky : Keep [] w5 ((((w5.alloc (.cells #[.int .i64 (budA p q), .int .i64 q] 39)).drewN (nq + 1)))) := ((Keep.refl _ _).alloc _).drewN _
          have hput := IHr.out
          have hfin := hput.putF HNO.out
          obtain ⟨w7, hrun, hpt, hgr⟩ := (Bn.free.keep ky (by simp)).put (hput.rng (List.mem_cons_self ..)) (asc_len256 hfin.fa (fun z hz => hfin.rngF hz))
          have k57 : Keep [bf] w5 w7 := (ky.mono (fun s q => by cases q)).grown hgr (.inl (by simp))
          have B7 := Bn.turnF hpt k57
          rw [← upP_stop q0 q6 HNO.out, DFr.out] at B7
          have HB7 := Lib.hid B7
          have K7 : Keep [bf, bt] w w7 := (Kr.step hb5).then (k57.mono (fun s hs => by simp at hs ⊢; exact .inl hs))
          have HK7 := Lib.hid K7
          have c1 := Bn.c1
          have lp5 : pb < w5.heap.size := by omega
          have s0 := (hb5.cell (p := ⟨w.heap.size, 0, none⟩) zr).trans x0
          have s1 := (hb5.cell (p := ⟨w.heap.size, 1, none⟩) zr).trans x1
          have lw5 : w.heap.size < w5.heap.size := by omega
          clear hput hfin hpt hgr k57 B7 K7 ky Bn
          go_wp2
          refine wp_tail 8 (by kernel_rfl) (by kernel_rfl) ?_
          simp only [List.take_succ_cons, List.take_zero, List.drop_succ_cons, List.drop_zero]
          repeat still_step
          refine wpStill_nil ?_
          go_wp2

          go_ret
          exact ⟨rfl, HB7.out, HK7.out⟩
end Go.Proofs.YtcokmiidgdmdlaaGreatDoor
