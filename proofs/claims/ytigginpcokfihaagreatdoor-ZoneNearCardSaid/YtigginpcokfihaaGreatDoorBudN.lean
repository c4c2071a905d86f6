/- buddy.New by its contract: a struct of three cells and two maps, the free one holds the cover of its pages. -/
import Derived.Test.YtigginpcokfihaaGreatDoorBudP
import Derived.Test.YtigginpcokfihaaGreatDoorBudD
import Derived.Test.YtigginpcokfihaaGreatDoorPlain
import Derived.Test.YtigginpcokfihaaGreatDoorCovB
import Derived.Test.YtigginpcokfihaaGreatDoorTail
import Derived.Maps.OwnOps
namespace Go.Proofs.YtigginpcokfihaaGreatDoor
open Go.RowKit Go.Maps
set_option linter.unusedSimpArgs false

theorem putL_prefix {L : List (Int × Int)} (hA : Asc L) {j : Nat} {a k : Int} (h : L[j]? = some (a, k)) : putL a k (L.take j) = L.take (j + 1) := by
  rw [putL_last k (fun p hp => ?_), List.take_add_one, h]
  · rfl
  · have hj := (List.getElem?_eq_some_iff.1 h).1
    obtain ⟨i, hi, rfl⟩ := List.getElem_of_mem hp
    rw [List.length_take] at hi
    have := List.pairwise_iff_getElem.1 hA i j (by omega) hj (by omega)
    rw [(List.getElem?_eq_some_iff.1 h).2] at this
    simpa using this

theorem mapB_made (w : World) : MapB (w.alloc (.map #[] 0)) w.heap.size [] :=
  ⟨List.Pairwise.nil, World.ownsMap_made _ _ _ _, by simp, fun p hp => by cases hp⟩
theorem MapB.keep {S : List Nat} {w w' : World} {b : Nat} {l : List (Int × Int)} (h : MapB w b l) (hk : Keep S w w') (hb : b ∉ S) : MapB w' b l := by
  have hlt := h.own.lt
  obtain ⟨h1, ⟨es, clock, h2, h3⟩, h4, h5⟩ := h
  exact ⟨h1, ⟨es, clock, (hk.block b hlt hb).trans h2, h3⟩, h4, h5⟩
theorem lt_of_cell0 {W : World} {a : Addr} {v : Value} (h : W.cell? a = some v) : a.block < W.heap.size := by
  rcases Nat.lt_or_ge a.block W.heap.size with h' | h'
  · exact h'
  · simp [World.cell?, Array.getElem?_eq_none h'] at h
theorem Bud.ltp {w : World} {pb : Nat} {n : Int} {bf bt : Nat} {F T : List (Int × Int)} (h : Bud w pb n bf bt F T) : pb < w.heap.size := lt_of_cell0 h.c0
theorem Bud.ltf {w : World} {pb : Nat} {n : Int} {bf bt : Nat} {F T : List (Int × Int)} (h : Bud w pb n bf bt F T) : bf < w.heap.size := h.free.own.lt
theorem Bud.ltt {w : World} {pb : Nat} {n : Int} {bf bt : Nat} {F T : List (Int × Int)} (h : Bud w pb n bf bt F T) : bt < w.heap.size := h.taken.own.lt
theorem Bud.keep {S : List Nat} {w w' : World} {pb : Nat} {n : Int} {bf bt : Nat} {F T : List (Int × Int)} (h : Bud w pb n bf bt F T) (hk : Keep S w w') (h1 : pb ∉ S) (h2 : bf ∉ S) (h3 : bt ∉ S) : Bud w' pb n bf bt F T :=
  ⟨(hk.cell h.ltp h1).trans h.c0, (hk.cell h.ltp h1).trans h.c1, (hk.cell h.ltp h1).trans h.c2, h.free.keep hk h2, h.taken.keep hk h3, h.ne⟩
theorem Bud.below {w w' : World} {pb : Nat} {n : Int} {bf bt : Nat} {F T : List (Int × Int)} (h : Bud w pb n bf bt F T) (hk : Below w.heap.size w w') : Bud w' pb n bf bt F T :=
  h.keep (Keep.of (S := []) hk) (by simp) (by simp) (by simp)
/-- the free map turned, the rest as it was -/
theorem Bud.turnF {w w' : World} {pb : Nat} {n : Int} {bf bt : Nat} {F F' T : List (Int × Int)} (h : Bud w pb n bf bt F T) (hm : MapB w' bf F') (hk : Keep [bf] w w') : Bud w' pb n bf bt F' T :=
  ⟨(hk.cell h.ltp (by simpa using h.ne.2.1)).trans h.c0, (hk.cell h.ltp (by simpa using h.ne.2.1)).trans h.c1, (hk.cell h.ltp (by simpa using h.ne.2.1)).trans h.c2, hm, h.taken.keep hk (by simpa using h.ne.1.symm), h.ne⟩
theorem Bud.turnT {w w' : World} {pb : Nat} {n : Int} {bf bt : Nat} {F T T' : List (Int × Int)} (h : Bud w pb n bf bt F T) (hm : MapB w' bt T') (hk : Keep [bt] w w') : Bud w' pb n bf bt F T' :=
  ⟨(hk.cell h.ltp (by simpa using h.ne.2.2)).trans h.c0, (hk.cell h.ltp (by simpa using h.ne.2.2)).trans h.c1, (hk.cell h.ltp (by simpa using h.ne.2.2)).trans h.c2, h.free.keep hk (by simpa using h.ne.1), hm, h.ne⟩

set_option maxHeartbeats 2000000 in
set_option maxRecDepth 100000 in
theorem new_ok (n : Int) (w : World) (n1 : 1 ≤ n) (n2 : n ≤ 256) :
    Calls Tryz.prog 24 #[.int .i64 n] w fun e w' => ∃ pb bf bt, e = .returned (.tuple #[.pointer (some ⟨pb, 0, none⟩), .nilIface]) ∧ Bud w' pb n bf bt (covL 0 n) [] ∧ (w.heap.size ≤ pb ∧ w.heap.size ≤ bf ∧ w.heap.size ≤ bt) ∧ Below w.heap.size w w' := by
  have hmm := @run_makeMap Tryz.prog
  have hco := fun w => cover_ok 0 n w (by omega) (by omega) (by omega)
  have hI := Inv.start n1 n2
  generalize covL 0 n = L at *
  have HC := Lib.hid hco; have HI := Lib.hid hI
  clear hco hI
  have d1 : decide (n < 1) = false := decide_eq_false (by omega)
  have d2 : decide (256 < n) = false := decide_eq_false (by omega)
  go_enter Tryz.func24, Tryz.ntmps24
  go_wp2_with fail
  clear d1 d2 hmm
  refine (HC.out _).mono ?_
  obtain ⟨W0, hW0⟩ : ∃ W0, W0 = ((w.alloc (.map #[] 0)).alloc (.map #[] 0)).alloc (.cells #[.int .i64 n, .map (some w.heap.size), .map (some (w.heap.size + 1))] 104) := ⟨_, rfl⟩
  have B0 : Bud W0 (w.heap.size + 2) n w.heap.size (w.heap.size + 1) [] [] := by
    subst hW0
    refine ⟨?_, ?_, ?_, ?_, ?_, by omega, by omega, by omega⟩
    · rw [World.cell?_alloc_at _ _ _ _ (by simp)]; rfl
    · rw [World.cell?_alloc_at _ _ _ _ (by simp)]; rfl
    · rw [World.cell?_alloc_at _ _ _ _ (by simp)]; rfl
    · exact (mapB_made w).keep (Keep.alloc (Keep.alloc (Keep.refl [] _) _) _) (by simp)
    · exact (show MapB ((w.alloc (.map #[] 0)).alloc (.map #[] 0)) (w.alloc (.map #[] 0)).heap.size [] from mapB_made _).keep (Keep.alloc (Keep.refl [] _) _) (by simp) |> fun h => by simpa using h
  have K0 : Below w.heap.size w W0 := by subst hW0; exact (by repeat (first | exact Below.refl _ _ | refine Below.drew ?_ | refine below_drewN ?_ _ | refine Below.trans ?_ (Below.mono (by assumption) (by first | omega | (simp; omega) | (simp; done))) | refine Below.alloc ?_ (by first | omega | (simp; omega) | (simp; done)) _ | refine Below.setCell ?_ (by first | omega | (simp; omega) | (simp; done)) _))
  have z0 : W0.heap.size = w.heap.size + 3 := by subst hW0; simp
  rw [← hW0]
  clear hW0
  rintro e w1 ⟨v, rfl, hv⟩
  have hb1 := hv.2
  have B1 := B0.below hb1
  have K1 : Below w.heap.size w w1 := K0.trans (hb1.mono (by omega))
  have hlen := HI.out.lenF
  rcases hv.mrow with ⟨rfl, hnil⟩ | ⟨g, cap, rfl, hg0, hg, _, hc⟩
  · obtain ⟨x, hx, _⟩ := HI.out.t.cov (p := 0) (by omega) (by omega)
    rw [hnil] at hx
    cases hx
  · have C1 := Lib.hid hc
    obtain ⟨N, hn⟩ : ∃ N, N = L.length := ⟨_, rfl⟩
    rw [← hn] at hlen ⊢
    have HN := Lib.hid hn
    have z1 := hb1.size
    have hB0 : w.heap.size < g := by omega
    have HB1 := Lib.hid B1
    clear hn hc hv B0 B1 K0
    go_wp2_with fail
    go_loopw [8, 28] (fun _ i wr => ∃ j : Nat, j ≤ N ∧ i = .int .i64 j ∧ Hid (Bud wr (w.heap.size + 2) n w.heap.size (w.heap.size + 1) (L.take j) []) ∧ Keep [w.heap.size] w1 wr) (fun _ i _ => N - (intOf i).toNat)
    case atStart => exact ⟨0, Nat.zero_le _, rfl, HB1, Keep.refl _ _⟩
    case round =>
      obtain ⟨j, hj, rfl, HB, hk⟩ := hrel
      have zr := hk.size
      by_cases hlt : j < N
      · obtain ⟨y, hy⟩ : ∃ y, L[j]? = some y := ⟨L[j]'(by rw [← HN.out]; exact hlt), List.getElem?_eq_getElem _⟩
        obtain ⟨x, k⟩ := y
        obtain ⟨⟨p1, p2⟩, _, _⟩ := C1.out j x k hy
        have hrg := HI.out.rngF (List.mem_of_getElem? hy)
        simp only at hrg
        have gr : g < wr.heap.size := by omega
        have gne : g ≠ w.heap.size := by have := hB0; omega
        have r1 : wr.cell? ⟨g, j * 2, none⟩ = some (.int .i64 x) := (hk.cell (by omega) (by simpa using gne)).trans p1
        have r2 : wr.cell? ⟨g, j * 2 + 1, none⟩ = some (.int .i64 k) := (hk.cell (by omega) (by simpa using gne)).trans p2
        have hb := HB.out
        have q1 := hb.c1
        have hlp := hb.ltp
        have hka : Keep [] wr ((wr.alloc (.cells #[.int .i64 x, .int .i64 k] 39)).drew) := ((Keep.refl _ _).alloc _).drew
        obtain ⟨w2, hrun, hput, hgr⟩ := (hb.free.keep hka (by simp)).put hrg (by rw [putL_prefix HI.out.fa hy]; exact Nat.le_trans (List.length_take_le _ _) (by omega))
        rw [putL_prefix HI.out.fa hy] at hput
        have hk2 : Keep [w.heap.size] wr w2 := (hka.mono (fun s q => by cases q)).grown hgr (.inl (by simp))
        have HP := Lib.hid hput; have HG := Lib.hid hgr
        clear hput hgr hy p1 p2 hb
        go_wp2
        refine wp_tail 8 (by kernel_rfl) (by kernel_rfl) ?_
        simp only [List.take_succ_cons, List.take_zero, List.drop_succ_cons, List.drop_zero]
        repeat still_step
        refine wpStill_nil ?_
        go_wp2
        clear hrun
        go_roundw
        case rel => exact ⟨j + 1, by omega, by go_num, HB.out.turnF HP.out hk2, hk.then hk2⟩
        case measure => simp [intOf]; omega
      · have ej : j = N := by omega
        have HBe : Bud wr (w.heap.size + 2) n w.heap.size (w.heap.size + 1) L [] := by have := HB.out; rwa [ej, HN.out, List.take_length] at this
        have HB2 := Lib.hid HBe
        have K2 : Below w.heap.size w wr := hk.after K1 (by omega) (by simp)
        clear HBe ej
        go_wp2
        go_ret2
        exact ⟨_, _, _, rfl, HB2.out, ⟨by omega, by omega, by omega⟩, K2⟩

set_option maxHeartbeats 400000 in
theorem new_err {B : Nat} {ev : Nat → Addr} (n : Int) (w : World) (hE : ErrC B ev w) (h : n < 1 ∨ 256 < n) :
    Calls Tryz.prog 24 #[.int .i64 n] w fun e w' => e = .returned (.tuple #[.pointer none, errV ev 2]) ∧ Below w.heap.size w w' := by
  have c2 := hE.c2
  have z2 := hE.z2
  by_cases d1 : n < 1
  · clear h
    go_enter Tryz.func24, Tryz.ntmps24
    go_wp2_with fail
    go_quiet (fail)
    go_wp2
    go_ret2
    exact ⟨rfl, (by repeat (first | exact Below.refl _ _ | refine Below.drew ?_ | refine below_drewN ?_ _ | refine Below.trans ?_ (Below.mono (by assumption) (by first | omega | (simp; omega) | (simp; done))) | refine Below.alloc ?_ (by first | omega | (simp; omega) | (simp; done)) _ | refine Below.setCell ?_ (by first | omega | (simp; omega) | (simp; done)) _))⟩
  · have d2 : 256 < n := by omega
    clear h
    go_enter Tryz.func24, Tryz.ntmps24
    go_wp2_with fail
    go_quiet (fail)
    go_wp2
    go_ret2
    exact ⟨rfl, (by repeat (first | exact Below.refl _ _ | refine Below.drew ?_ | refine below_drewN ?_ _ | refine Below.trans ?_ (Below.mono (by assumption) (by first | omega | (simp; omega) | (simp; done))) | refine Below.alloc ?_ (by first | omega | (simp; omega) | (simp; done)) _ | refine Below.setCell ?_ (by first | omega | (simp; omega) | (simp; done)) _))⟩
end Go.Proofs.YtigginpcokfihaaGreatDoor
