/- The methods of a *buddy.Buddy by their contracts. -/
import Derived.Test.YtigginpcokfihaaGreatDoorBudS
namespace Go.Proofs.YtigginpcokfihaaGreatDoor
open Go.RowKit Go.Maps
set_option linter.unusedSimpArgs false

/-- block pb of w is a Buddy: its pages, its two maps -/
structure Bud (w : World) (pb : Nat) (n : Int) (bf bt : Nat) (F T : List (Int × Int)) : Prop where
  c0 : w.cell? ⟨pb, 0, none⟩ = some (.int .i64 n)
  c1 : w.cell? ⟨pb, 1, none⟩ = some (.map (some bf))
  c2 : w.cell? ⟨pb, 2, none⟩ = some (.map (some bt))
  free : MapB w bf F
  taken : MapB w bt T
  ne : bf ≠ bt ∧ pb ≠ bf ∧ pb ≠ bt

theorem free_ok (pb : Nat) (n : Int) (bf bt : Nat) (F T : List (Int × Int)) (w : World) (h : Bud w pb n bf bt F T) :
    Calls Tryz.prog 30 #[.pointer (some ⟨pb, 0, none⟩)] w fun e w' => ∃ v, e = .returned v ∧ OwnB w w' v F := by
  have c1 := h.c1
  have SO := Lib.hid (sorted_ok bf F w h.free)
  clear h
  go_enter Tryz.func30, Tryz.ntmps30
  go_wp2_with fail
  refine SO.out.mono ?_
  rintro e w' ⟨v, rfl, ho⟩
  go_wp2
  go_ret
  exact ⟨_, rfl, ho⟩
theorem taken_ok (pb : Nat) (n : Int) (bf bt : Nat) (F T : List (Int × Int)) (w : World) (h : Bud w pb n bf bt F T) :
    Calls Tryz.prog 82 #[.pointer (some ⟨pb, 0, none⟩)] w fun e w' => ∃ v, e = .returned v ∧ OwnB w w' v T := by
  have c2 := h.c2
  have SO := Lib.hid (sorted_ok bt T w h.taken)
  clear h
  go_enter Tryz.func82, Tryz.ntmps82
  go_wp2_with fail
  refine SO.out.mono ?_
  rintro e w' ⟨v, rfl, ho⟩
  go_wp2
  go_ret
  exact ⟨_, rfl, ho⟩

/-- the lookup with 'ok', at any key -/
theorem lookm_any {w : World} {b : Nat} {l : List (Int × Int)} (h : MapB w b l) {a : Int} (ha : (Lit.int .i64 a).wf = true) :
    (Instr.lookup 102 (.map (some b)) (.int .i64 a) true).run Tryz.prog w = .ok (.tuple #[.int .i64 ((getL l a).getD 0), .bool (getL l a).isSome]) w := by
  obtain ⟨v, ps, hrun, hv⟩ := h.own.look_ok keyInt Tryz.underlying102 (zeroInt w) (plainElem_int Tryz.underlying3 (wfInt (by decide) (by decide))) (keyOf_int_mk Tryz.underlying3 ha)
  obtain ⟨c, rfl, hc, _⟩ := plainElem_int_inv Tryz.underlying3 hv
  simp only [Prod.mk.injEq] at hc
  have hat := hc.1
  rw [toD_at] at hat
  rw [hrun, toD_has]
  cases hg : getL l a with
  | none => rw [hg] at hat; simp at hat; simp [hat]
  | some k => rw [hg] at hat; simp at hat; simp [hat]

/-- is it one of those that are taken? -/
def hasL (T : List (Int × Int)) (a k : Int) : Bool := getL T a == some k
theorem has_ok (pb : Nat) (n : Int) (bf bt : Nat) (F T : List (Int × Int)) (a k : Int) (w : World) (h : Bud w pb n bf bt F T) (ha : (Lit.int .i64 a).wf = true) (hp : pb < w.heap.size) :
    Calls Tryz.prog 71 #[.pointer (some ⟨pb, 0, none⟩), .agg #[.int .i64 a, .int .i64 k]] w fun e w' => e = .returned (.bool (hasL T a k)) ∧ Below w.heap.size w w' := by
  have c2 := h.c2
  have hbt := h.taken.own.lt
  have lk := fun m => lookm_any (h.taken.below (w' := (w.alloc (.cells #[.int .i64 a, .int .i64 k] 39)).drewN m) (n := w.heap.size) (by repeat (first | exact Below.refl _ _ | refine Below.drew ?_ | refine below_drewN ?_ _ | refine Below.trans ?_ (Below.mono (by assumption) (by first | omega | (simp; omega) | (simp; done))) | refine Below.alloc ?_ (by first | omega | (simp; omega) | (simp; done)) _ | refine Below.setCell ?_ (by first | omega | (simp; omega) | (simp; done)) _)) hbt) ha
  clear h ha
  unfold hasL
  cases hg : getL T a with
  | none =>
    rw [hg] at lk
    simp only [Option.getD_none, Option.isSome_none] at lk
    go_enter Tryz.func71, Tryz.ntmps71
    go_wp2
    go_quiet (fail)
    go_wp2
    go_ret
    exact ⟨rfl, (by repeat (first | exact Below.refl _ _ | refine Below.drew ?_ | refine below_drewN ?_ _ | refine Below.trans ?_ (Below.mono (by assumption) (by first | omega | (simp; omega) | (simp; done))) | refine Below.alloc ?_ (by first | omega | (simp; omega) | (simp; done)) _ | refine Below.setCell ?_ (by first | omega | (simp; omega) | (simp; done)) _))⟩
  | some q =>
    rw [hg] at lk
    simp only [Option.getD_some, Option.isSome_some] at lk
    go_enter Tryz.func71, Tryz.ntmps71
    go_wp2
    go_quiet (fail)
    go_wp2
    go_ret
    refine ⟨?_, (by repeat (first | exact Below.refl _ _ | refine Below.drew ?_ | refine below_drewN ?_ _ | refine Below.trans ?_ (Below.mono (by assumption) (by first | omega | (simp; omega) | (simp; done))) | refine Below.alloc ?_ (by first | omega | (simp; omega) | (simp; done)) _ | refine Below.setCell ?_ (by first | omega | (simp; omega) | (simp; done)) _))⟩
    by_cases hq : q = k <;> simp [hq]
end Go.Proofs.YtigginpcokfihaaGreatDoor
