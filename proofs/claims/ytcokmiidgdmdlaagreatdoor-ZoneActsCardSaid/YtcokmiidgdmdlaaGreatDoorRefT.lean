/- The document's buddy: its memory; Take by its contracts. -/
import Derived.Test.YtcokmiidgdmdlaaGreatDoorRefU
import Derived.Test.YtcokmiidgdmdlaaGreatDoorBase
import Derived.Test.YtcokmiidgdmdlaaGreatDoorBud
import Derived.Test.YtcokmiidgdmdlaaGreatDoorPlain
import Derived.Deep.RegionHeld3
namespace Go.Proofs.YtcokmiidgdmdlaaGreatDoor
open Go.RowKit
set_option linter.unusedSimpArgs false

/-- v reads as these blocks of pages, and does not lie in one of the blocks X -/
def RowX (X : List Nat) (w : World) (v : Value) (l : List (Int × Int)) : Prop :=
  (v = .slice none 0 0 ∧ l = []) ∨ ∃ g cap, v = .slice (some ⟨g, 0, none⟩) l.length cap ∧ l.length ≤ cap ∧ cap ≤ maxLen ∧ g ∉ X ∧ g < w.heap.size ∧ RowC w g l
theorem RowX.rowT {X : List Nat} {w : World} {v : Value} {l : List (Int × Int)} (h : RowX X w v l) : RowT 0 w v l := by
  rcases h with h | ⟨g, cap, h1, h2, h3, _, h5, h6⟩
  · exact .inl h
  · exact .inr ⟨g, cap, h1, h2, h3, Nat.zero_le _, h5, h6⟩
theorem RowX.keep {X S : List Nat} {w w' : World} {v : Value} {l : List (Int × Int)} (h : RowX X w v l) (k : Keep S w w') (hs : ∀ s ∈ S, s ∈ X ∨ w.heap.size ≤ s) : RowX X w' v l := by
  rcases h with h | ⟨g, cap, h1, h2, h3, h4, h5, h6⟩
  · exact .inl h
  · exact .inr ⟨g, cap, h1, h2, h3, h4, Nat.lt_of_lt_of_le h5 k.size, h6.keep k h5 fun q => by rcases hs g q with r | r; (· exact h4 r); (· omega)⟩
theorem RowX.of {X : List Nat} {w w' : World} {v : Value} {l : List (Int × Int)} (h : OwnB w w' v l) (hX : ∀ x ∈ X, x < w.heap.size) : RowX X w' v l := by
  rcases h.rowT with h | ⟨g, cap, h1, h2, h3, h4, h5, h6⟩
  · exact .inl h
  · exact .inr ⟨g, cap, h1, h2, h3, fun q => by have := hX g q; omega, h5, h6⟩
theorem RowX.more {X Y : List Nat} {w : World} {v : Value} {l : List (Int × Int)} (h : RowX X w v l) (hY : ∀ y ∈ Y, y ∈ X ∨ w.heap.size ≤ y) : RowX Y w v l := by
  rcases h with h | ⟨g, cap, h1, h2, h3, h4, h5, h6⟩
  · exact .inl h
  · exact .inr ⟨g, cap, h1, h2, h3, fun q => by rcases hY g q with r | r; (· exact h4 r); (· omega), h5, h6⟩

theorem OwnB.isSlice {w w' : World} {v : Value} {l : List (Int × Int)} (h : OwnB w w' v l) : ∃ p m c, v = .slice p m c := by
  rcases h.rowT with ⟨h, _⟩ | ⟨g, cap, h, _⟩
  · exact ⟨_, _, _, h⟩
  · exact ⟨_, _, _, h⟩
/-- block pm is a buddy of the document's: its pages, its two lists; they lie in none of the blocks X -/
structure RBud (X : List Nat) (w : World) (pm : Nat) (n : Int) (vF vT : Value) (F T : List (Int × Int)) : Prop where
  lt : pm < w.heap.size
  mem : pm ∈ X
  c0 : w.cell? ⟨pm, 0, none⟩ = some (.int .i64 n)
  c1 : w.cell? ⟨pm, 1, none⟩ = some vF
  c2 : w.cell? ⟨pm, 2, none⟩ = some vT
  f1 : w.frozen? ⟨pm, 1, none⟩ = false
  f2 : w.frozen? ⟨pm, 2, none⟩ = false
  rF : RowX X w vF F
  rT : RowX X w vT T
theorem RBud.keep {X S : List Nat} {w w' : World} {pm : Nat} {n : Int} {vF vT : Value} {F T : List (Int × Int)} (h : RBud X w pm n vF vT F T) (k : Keep S w w') (hs : ∀ s ∈ S, (s ∈ X ∧ s ≠ pm) ∨ w.heap.size ≤ s) : RBud X w' pm n vF vT F T := by
  have hn : pm ∉ S := fun q => by rcases hs pm q with ⟨_, r⟩ | r; (· exact r rfl); (· have := h.lt; omega)
  have hs' : ∀ s ∈ S, s ∈ X ∨ w.heap.size ≤ s := fun s q => (hs s q).imp And.left id
  exact ⟨Nat.lt_of_lt_of_le h.lt k.size, h.mem, (k.cell h.lt hn).trans h.c0, (k.cell h.lt hn).trans h.c1, (k.cell h.lt hn).trans h.c2, (k.frozen h.lt hn).trans h.f1, (k.frozen h.lt hn).trans h.f2, h.rF.keep k hs', h.rT.keep k hs'⟩
theorem RBud.below {X : List Nat} {w w' : World} {pm : Nat} {n : Int} {vF vT : Value} {F T : List (Int × Int)} (h : RBud X w pm n vF vT F T) (k : Below w.heap.size w w') : RBud X w' pm n vF vT F T :=
  h.keep (Keep.of (S := []) k) (fun _ q => by cases q)
theorem RowX.sub {X Y : List Nat} {w : World} {v : Value} {l : List (Int × Int)} (h : RowX Y w v l) (hX : ∀ x ∈ X, x ∈ Y) : RowX X w v l := by
  rcases h with h | ⟨g, cap, h1, h2, h3, h4, h5, h6⟩
  · exact .inl h
  · exact .inr ⟨g, cap, h1, h2, h3, fun q => h4 (hX g q), h5, h6⟩
theorem RBud.more {X Y : List Nat} {w : World} {pm : Nat} {n : Int} {vF vT : Value} {F T : List (Int × Int)} (h : RBud X w pm n vF vT F T) (hm : pm ∈ Y) (hY : ∀ y ∈ Y, y ∈ X ∨ w.heap.size ≤ y) : RBud Y w pm n vF vT F T :=
  ⟨h.lt, hm, h.c0, h.c1, h.c2, h.f1, h.f2, h.rF.more hY, h.rT.more hY⟩
theorem RBud.sub {X Y : List Nat} {w : World} {pm : Nat} {n : Int} {vF vT : Value} {F T : List (Int × Int)} (h : RBud Y w pm n vF vT F T) (hm : pm ∈ X) (hX : ∀ x ∈ X, x ∈ Y) : RBud X w pm n vF vT F T :=
  ⟨h.lt, hm, h.c0, h.c1, h.c2, h.f1, h.f2, h.rF.sub hX, h.rT.sub hX⟩
theorem set_cell_back {w : World} {b o : Nat} {x : Value} (u : Value) (o' : Nat) (h : w.cell? ⟨b, o, none⟩ = some x) : (w.setCell ⟨b, o, none⟩ u).cell? ⟨b, o', none⟩ = if o = o' then some u else w.cell? ⟨b, o', none⟩ := by
  by_cases e : o = o'
  · subst e; rw [if_pos rfl]; exact set_cell_same u h
  · rw [if_neg e]; exact set_cell_other u e
/-- the free list is stored anew -/
theorem RBud.setF {X : List Nat} {w : World} {pm : Nat} {n : Int} {vF vT v : Value} {F T F' : List (Int × Int)} (h : RBud X w pm n vF vT F T) (hv : RowX X w v F') : RBud X (w.setCell ⟨pm, 1, none⟩ v) pm n v vT F' T := by
  have k : Keep [pm] w (w.setCell ⟨pm, 1, none⟩ v) := (Keep.refl _ _).setCell (.inl (by simp)) _
  have hs : ∀ s ∈ [pm], s ∈ X ∨ w.heap.size ≤ s := fun s q => .inl (by rw [List.mem_singleton.1 q]; exact h.mem)
  refine ⟨by simpa [World.setCell] using h.lt, h.mem, ?_, ?_, ?_, by rw [set_frozen]; exact h.f1, by rw [set_frozen]; exact h.f2, hv.keep k hs, h.rT.keep k hs⟩
  · rw [set_cell_other _ (by omega)]; exact h.c0
  · exact set_cell_same _ h.c1
  · rw [set_cell_other _ (by omega)]; exact h.c2
theorem RBud.setT {X : List Nat} {w : World} {pm : Nat} {n : Int} {vF vT v : Value} {F T T' : List (Int × Int)} (h : RBud X w pm n vF vT F T) (hv : RowX X w v T') : RBud X (w.setCell ⟨pm, 2, none⟩ v) pm n vF v F T' := by
  have k : Keep [pm] w (w.setCell ⟨pm, 2, none⟩ v) := (Keep.refl _ _).setCell (.inl (by simp)) _
  have hs : ∀ s ∈ [pm], s ∈ X ∨ w.heap.size ≤ s := fun s q => .inl (by rw [List.mem_singleton.1 q]; exact h.mem)
  refine ⟨by simpa [World.setCell] using h.lt, h.mem, ?_, ?_, ?_, by rw [set_frozen]; exact h.f1, by rw [set_frozen]; exact h.f2, h.rF.keep k hs, hv.keep k hs⟩
  · rw [set_cell_other _ (by omega)]; exact h.c0
  · rw [set_cell_other _ (by omega)]; exact h.c1
  · exact set_cell_same _ h.c2

theorem InvH.absent {n : Int} {F T : List (Int × Int)} {a k : Int} (k0 : 0 ≤ k) (h : InvH n F T (a, k + 1)) : ∀ z ∈ F, z.1 ≠ a + sz k := by
  intro z hz e
  have h6 := h.blk.2.2.1
  simp only at h6
  have s1 := sz_pos k
  have s2 := sz_succ k0 (by omega)
  have := h.t.one (List.mem_cons_of_mem _ (List.mem_append_left _ hz)) (List.mem_cons_self ..) (p := z.1) (inn_at z) ⟨by show a ≤ z.1; omega, by show z.1 < a + sz (k + 1); omega⟩
  have := congrArg Prod.fst this
  simp only at this
  omega
theorem downF_one {k m : Int} {a : Int} {F : List (Int × Int)} (h : k < m) : downF (m - k).toNat a k F = downF (m - 1 - k).toNat a k (putL (a + sz (m - 1)) (m - 1) F) := by
  obtain ⟨d, hd⟩ : ∃ d, (m - k).toNat = d + 1 := ⟨(m - k).toNat - 1, by omega⟩
  have e1 : (m - 1 - k).toNat = d := by omega
  have e2 : k + (d : Int) = m - 1 := by omega
  rw [hd, e1, downF, e2]
/-- the best one's place: -1 where there is none -/
def bI : Option (Nat × (Int × Int)) → Int
  | none => -1
  | some (i, _) => i

/-- what the document's Take comes to -/
def RTakePost (X : List Nat) (pm : Nat) (n k : Int) (F T : List (Int × Int)) (w : World) (e : Ending) (w' : World) : Prop :=
  (bestL k F = none ∧ e = .returned (.tuple #[.agg #[.int .i64 0, .int .i64 0], .bool false]) ∧ Below w.heap.size w w') ∨
      ∃ x vF' vT', bestL k F = some x ∧ e = .returned (.tuple #[.agg #[.int .i64 x.1, .int .i64 k], .bool true]) ∧ RBud X w' pm n vF' vT' (takeF k x F) (putL x.1 k T) ∧ Keep [pm] w w'

set_option maxHeartbeats 4000000 in
set_option maxRecDepth 100000 in
theorem rtake_walk {X : List Nat} (pm : Nat) (n : Int) (vF vT : Value) (F T : List (Int × Int)) (k : Int) (w : World) (h : RBud X w pm n vF vT F T) (hX : ∀ x ∈ X, x < w.heap.size) (hI : Inv n F T) (k0 : 0 ≤ k) :
    Calls Tryz.prog 77 #[.pointer (some ⟨pm, 0, none⟩), .int .i64 k] w (RTakePost X pm n k F T w) := by
  have HR := Lib.hid h; have HI := Lib.hid hI; have HX := Lib.hid hX
  have c1 := h.c1; have lp := h.lt
  have lF := hI.lenF
  have h' : ∃ p cap, vF = .slice p F.length cap ∧ Hid (F = [] ∨ ∃ g, p = some ⟨g, 0, none⟩ ∧ g < w.heap.size ∧ RowC w g F) := by
    rcases h.rF with ⟨rfl, rfl⟩ | ⟨g, cap, rfl, _, _, _, hg, hc⟩
    · exact ⟨none, 0, rfl, .inl rfl⟩
    · exact ⟨_, cap, rfl, .inr ⟨g, rfl, hg, hc⟩⟩
  obtain ⟨p, cap, rfl, HP0⟩ := h'
  clear h hI hX
  obtain ⟨N, hN⟩ : ∃ N, N = F.length := ⟨_, rfl⟩
  have HN := Lib.hid hN
  rw [← hN] at lF HR c1
  clear hN
  go_enter Tryz.func77, Tryz.ntmps77
  go_wp2_with fail
  go_loopw [6, 7] (fun bv iv wr => ∃ (i : Nat) (b : Option (Nat × (Int × Int))), i ≤ N ∧ iv = .int .i64 i ∧ bv = .int .i64 (bI b) ∧ Hid (bestTo k (F.take i) b) ∧ Hid (Loc2 wr w.heap.size 0 0) ∧ Below w.heap.size w wr) (fun _ iv _ => N - (intOf iv).toNat)
  case atStart => exact ⟨0, none, Nat.zero_le _, by go_num, rfl, bestTo_nil k, Loc2.new w 0 0 _, (by repeat (first | exact Below.refl _ _ | refine Below.drew ?_ | refine below_drewN ?_ _ | refine Below.trans ?_ (Below.mono (by assumption) (by first | omega | (simp; omega) | (simp; done))) | refine Below.alloc ?_ (by first | omega | (simp; omega) | (simp; done)) _ | refine Below.setCell ?_ (by first | omega | (simp; omega) | (simp; done)) _))⟩
  case round =>
    obtain ⟨i, b, hi, rfl, rfl, BT, L0, hbel⟩ := hrel
    have zr : w.heap.size < wr.heap.size := L0.out.lt
    have cr := (hbel.cell (p := ⟨pm, 1, none⟩) lp).trans c1
    have lpr : pm < wr.heap.size := by omega
    by_cases hlt : i < N
    · rcases HP0.out with e0 | ⟨g, rfl, hg, hc⟩
      · have := HN.out; rw [e0] at this; simp at this; omega
      obtain ⟨y, hy⟩ : ∃ y, F[i]? = some y := ⟨F[i]'(by rw [← HN.out]; exact hlt), List.getElem?_eq_getElem _⟩
      have etk : F.take (i + 1) = F.take i ++ [y] := by rw [List.take_add_one, hy]; rfl
      have ltk : (F.take i).length = i := by rw [List.length_take, ← HN.out]; omega
      obtain ⟨y0, y1⟩ := y
      obtain ⟨p1, p2⟩ := hc i y0 y1 hy
      have r2 := (hbel.cell (p := ⟨g, i * 2 + 1, none⟩) hg).trans p2
      have gr : g < wr.heap.size := by omega
      have ETK := Lib.hid etk; have LTK := Lib.hid ltk; have HY := Lib.hid hy
      clear p1 p2 hy etk ltk
      by_cases hk : k ≤ y1
      · have hkd : decide (k ≤ y1) = true := decide_eq_true hk
        match b, BT with
        | none, BT =>
          have bt : bestTo k (F.take (i + 1)) (some (i, (y0, y1))) := by
            have := bestTo_take BT.out (y := (y0, y1)) hk (fun _ _ e => by cases e)
            rwa [← ETK.out, LTK.out] at this
          have BT2 := Lib.hid bt
          clear bt hc
          simp only [bI]
          go_wp2
          go_quiet (fail)
          go_wp2
          go_roundw
          case rel => exact ⟨i + 1, some (i, (y0, y1)), by omega, by go_num, rfl, BT2, (show Loc2 _ _ _ _ from L0.out.keep ((Keep.refl [] _).drewN _) (by simp)), below_drewN hbel _⟩
          case measure => simp [intOf]; omega
        | some (q, x), BT =>
          obtain ⟨hq, _⟩ := BT.out
          obtain ⟨x0, x1⟩ := x
          have hqi : q < i := by have := (List.getElem?_eq_some_iff.1 hq).1; rw [LTK.out] at this; exact this
          rw [List.getElem?_take_of_lt hqi] at hq
          obtain ⟨p1, p2⟩ := hc q x0 x1 hq
          have r4 := (hbel.cell (p := ⟨g, q * 2 + 1, none⟩) hg).trans p2
          have hq0 : ¬ (q : Int) < 0 := by omega
          have hqN : q < N := by omega
          simp only [bI]
          by_cases hx : y1 < x1
          · have bt : bestTo k (F.take (i + 1)) (some (i, (y0, y1))) := by
              have := bestTo_take BT.out (y := (y0, y1)) hk (fun _ _ e => by cases e; exact hx)
              rwa [← ETK.out, LTK.out] at this
            have BT2 := Lib.hid bt
            clear bt hc hq p1 p2
            go_wp2
            go_quiet (fail)
            go_wp2
            go_roundw
            case rel => exact ⟨i + 1, some (i, (y0, y1)), by omega, by go_num, rfl, BT2, (show Loc2 _ _ _ _ from L0.out.keep ((Keep.refl [] _).drewN _) (by simp)), below_drewN hbel _⟩
            case measure => simp [intOf]; omega
          · have bt : bestTo k (F.take (i + 1)) (some (q, (x0, x1))) := by
              rw [ETK.out]
              exact bestTo_skip BT.out (.inr ⟨q, (x0, x1), rfl, by show x1 ≤ y1; omega⟩)
            have BT2 := Lib.hid bt
            clear bt hc hq p1 p2
            go_wp2
            go_quiet (fail)
            go_wp2
            go_roundw
            case rel => exact ⟨i + 1, some (q, (x0, x1)), by omega, by go_num, rfl, BT2, (show Loc2 _ _ _ _ from L0.out.keep ((Keep.refl [] _).drewN _) (by simp)), below_drewN hbel _⟩
            case measure => simp [intOf]; omega
      · have hkd : decide (k ≤ y1) = false := decide_eq_false hk
        have bt : bestTo k (F.take (i + 1)) b := by
          rw [ETK.out]
          exact bestTo_skip BT.out (.inl (by show y1 < k; omega))
        have BT2 := Lib.hid bt
        clear bt hc
        go_wp2
        go_quiet (fail)
        go_wp2
        go_roundw
        case rel => exact ⟨i + 1, b, by omega, by go_num, rfl, BT2, (show Loc2 _ _ _ _ from L0.out.keep ((Keep.refl [] _).drewN _) (by simp)), below_drewN hbel _⟩
        case measure => simp [intOf]; omega
    · have ei : i = N := by omega
      have bt : bestTo k F b := by have := BT.out; rwa [ei, HN.out, List.take_length] at this
      have l00 := L0.out.c0; have l01 := L0.out.c1; have l0f := L0.out.f0; have l1f := L0.out.f1
      match b, bt with
      | none, bt =>
        have hb := bestTo_none bt
        have HBN := Lib.hid hb
        clear bt hb ei
        simp only [bI]
        go_wp2
        have e0 := set_cell_same (.int .i64 0) l00
        have e1 := set_cell_same (w := wr.setCell ⟨w.heap.size, 0, none⟩ (.int .i64 0)) (.int .i64 0) ((set_cell_other _ (by omega)).trans l01)
        have e2 := (set_cell_other (w := wr.setCell ⟨w.heap.size, 0, none⟩ (.int .i64 0)) (g := w.heap.size) (o := 1) (o' := 0) (.int .i64 0) (by omega)).trans e0
        exact bodyPost_ret (v := .tuple #[.agg #[.int .i64 0, .int .i64 0], .bool false]) (by simp [e0, e1, e2, results, Tryz.results77, go_sem]) rfl (Or.inl ⟨HBN.out, rfl, (by repeat (first | exact Below.refl _ _ | refine Below.drew ?_ | refine below_drewN ?_ _ | refine Below.trans ?_ (Below.mono (by assumption) (by first | omega | (simp; omega) | (simp; done))) | refine Below.alloc ?_ (by first | omega | (simp; omega) | (simp; done)) _ | refine Below.setCell ?_ (by first | omega | (simp; omega) | (simp; done)) _))⟩)
      | some (q, x), bt =>
        obtain ⟨hq, hbest⟩ := bt
        obtain ⟨a, m0⟩ := x
        have hqN : q < N := by rw [HN.out]; exact (List.getElem?_eq_some_iff.1 hq).1
        rcases HP0.out with e0 | ⟨g, rfl, hg, hc⟩
        · have := HN.out; rw [e0] at this; simp at this; omega
        obtain ⟨p1, p2⟩ := hc q a m0 hq
        have r1 := (hbel.cell (p := ⟨g, q * 2, none⟩) hg).trans p1
        have r2 := (hbel.cell (p := ⟨g, q * 2 + 1, none⟩) hg).trans p2
        have gr : g < wr.heap.size := by omega
        obtain ⟨hxF, hkx⟩ := bestL_some hbest
        have hrx := HI.out.rngF hxF
        simp only at hkx hrx
        have ih := Lib.hid (HI.out.hand hxF)
        have edel := delL_cut HI.out.fa hq
        simp only at edel
        have ED := Lib.hid edel
        have HBE := Lib.hid hbest
        have TI1 := Lib.hid (HI.out.take k0 hbest)
        have fr1 := (hbel.frozen (p := ⟨pm, 1, none⟩) lp).trans HR.out.f1
        have qz : ¬ (q : Int) < 0 := by omega
        have pmX := HR.out.mem
        have HRr := (HR.out.more (Y := wr.heap.size :: w.heap.size :: X) (by simp [pmX]) (fun y hy => by simp at hy; rcases hy with rfl | rfl | hy; (· right; omega); (· right; omega); (· left; exact hy))).below hbel
        have RTr := HRr.rF.rowT.below (w' := wr.alloc (.cells #[.int .i64 a, .int .i64 m0] 39)) (by repeat (first | exact Below.refl _ _ | refine Below.drew ?_ | refine below_drewN ?_ _ | refine Below.trans ?_ (Below.mono (by assumption) (by first | omega | (simp; omega) | (simp; done))) | refine Below.alloc ?_ (by first | omega | (simp; omega) | (simp; done)) _ | refine Below.setCell ?_ (by first | omega | (simp; omega) | (simp; done)) _))
        have WO := Lib.hid (without_ok _ F q _ RTr (by rw [← HN.out]; exact hqN) (by rw [← HN.out]; exact lF))
        have HRr2 := Lib.hid HRr
        clear hq hbest hc p1 p2 edel hxF RTr HRr ei
        simp only [bI]
        go_wp2_with fail
        refine WO.out.mono ?_
        rintro e w1 ⟨v1, rfl, ho⟩
        obtain ⟨s1, s2, s3, rfl⟩ := ho.isSlice
        clear WO
        have hb1 := ho.2
        have z1 := hb1.size
        simp at z1
        have bel1 : Below wr.heap.size wr w1 := (by repeat (first | exact Below.refl _ _ | refine Below.drew ?_ | refine below_drewN ?_ _ | refine Below.trans ?_ (Below.mono (by assumption) (by first | omega | (simp; omega) | (simp; done))) | refine Below.alloc ?_ (by first | omega | (simp; omega) | (simp; done)) _ | refine Below.setCell ?_ (by first | omega | (simp; omega) | (simp; done)) _))
        have X1 := (Loc2.new wr a m0 39).below hb1 (by simp)
        have R1 := HRr2.out.below bel1
        have hX1 : ∀ y ∈ wr.heap.size :: w.heap.size :: X, y < (wr.alloc (.cells #[.int .i64 a, .int .i64 m0] 39)).heap.size := fun y hy => by
          simp at hy ⊢
          rcases hy with rfl | rfl | hy
          · omega
          · omega
          · have := HX.out y hy; omega
        have row1 := RowX.of ho hX1
        rw [← ED.out] at row1
        have R2 := R1.setF row1
        have L1 := L0.out.below bel1 (by omega)
        have np : pm ≠ wr.heap.size := by omega
        have nl : pm ≠ w.heap.size := by omega
        have ks : Keep [pm] w1 (w1.setCell ⟨pm, 1, none⟩ (.slice s1 s2 s3)) := (Keep.refl _ _).setCell (.inl (by simp)) _
        have HX2 := Lib.hid (X1.keep ks (by simpa using np.symm))
        have HL2 := Lib.hid (L1.keep ks (by simpa using nl.symm))
        have HR2 := Lib.hid R2
        have K2 : Keep [pm] w (w1.setCell ⟨pm, 1, none⟩ (.slice s1 s2 s3)) := ((Keep.of hbel).trans (S' := []) (Keep.of bel1) (fun _ q => by cases q)).then ks
        have q1 := R1.c1; have q2 := R1.f1; have q3 := R1.lt
        have cr1 := (bel1.cell (p := ⟨pm, 1, none⟩) lpr).trans cr
        have DF2 := Lib.hid (show downF (m0 - k).toNat a k (delL a F) = takeF k (a, m0) F from rfl)
        clear ho row1 R1 R2 L1 X1 hX1 HRr2 ks l00 l01 l0f l1f r1 r2 fr1
        go_wp2
        obtain ⟨w2, hw2⟩ : ∃ w2, w2 = w1.setCell ⟨pm, 1, none⟩ (.slice s1 s2 s3) := ⟨_, rfl⟩
        rw [← hw2] at HX2 HL2 HR2 K2 ⊢
        have z2 : wr.heap.size < w2.heap.size := by have := HX2.out.lt; omega
        clear hw2 q1 q2 q3 cr1 cr
        obtain ⟨wo, rfl⟩ : ∃ wo : World, wo = wr := ⟨_, rfl⟩
        obtain ⟨Y, hY⟩ : ∃ Y, Y = wo.heap.size :: w.heap.size :: X := ⟨_, rfl⟩
        rw [← hY] at HR2
        have HY := Lib.hid hY
        clear hY
        go_loopg [71] 7 (fun gg _ wr' => ∃ (q : Int) (F' : List (Int × Int)) (vF' : Value), (q - k).toNat < gg ∧ k ≤ q ∧ q ≤ 6 ∧ Hid (RBud Y wr' pm n vF' vT F' T) ∧ Hid (InvH n F' T (a, q)) ∧ Hid (downF (q - k).toNat a k F' = takeF k (a, m0) F) ∧ Hid (Loc2 wr' wo.heap.size a q) ∧ Hid (Loc2 wr' w.heap.size 0 0) ∧ Keep [pm] w wr')
        case atStart => exact ⟨m0, delL a F, _, by omega, hkx, by omega, HR2, ih, DF2, HX2, HL2, K2⟩
        case round =>
          clear hlt
          obtain ⟨q', F', vF', hgg, hkq, hq6, HRq, IHq, DFq, HXq, HLq, Kq⟩ := hrel
          clear HX2 HL2 HR2 K2 DF2 ih
          have x0 := HXq.out.c0; have x1 := HXq.out.c1; have x2 := HXq.out.f0; have x3 := HXq.out.f1; have xl := HXq.out.lt
          have zr := Kq.size
          by_cases hlt : k < q'
          · have hcut := InvH.cut (n := n) (F := F') (T := T) (a := a) (k := q' - 1) (by omega) (by rw [show q' - 1 + 1 = q' by omega]; exact IHq.out)
            have habs := InvH.absent (n := n) (F := F') (T := T) (a := a) (k := q' - 1) (by omega) (by rw [show q' - 1 + 1 = q' by omega]; exact IHq.out)
            have hblk := IHq.out.blk
            have hlen := asc_len256 IHq.out.fa (fun p hp => IHq.out.rng (List.mem_cons_of_mem _ (List.mem_append_left _ hp)))
            have hra := IHq.out.rng (List.mem_cons_self ..)
            simp only at hra
            obtain ⟨m1, m2, _⟩ := half_bud (a := a) (k := q' - 1) (by omega) (by omega) (by rw [show q' - 1 + 1 = q' by omega]; exact hblk.2.2.2)
            have BO := Lib.hid (fun w => buddyOf_ok a (q' - 1) w hra.1 (by omega) (by omega) (by omega) m1)
            simp only [m2] at BO
            have ks : Keep [wo.heap.size] wr ((wr.setCell ⟨wo.heap.size, 0, none⟩ (.int .i64 a)).setCell ⟨wo.heap.size, 1, none⟩ (.int .i64 (q' - 1))) := (Keep.refl _ _).store2 (.inl (by simp)) _ _
            have nop : wo.heap.size ≠ pm := by omega
            have R12 := HRq.out.keep ks (fun s hs => by rw [List.mem_singleton.1 hs]; exact .inl ⟨by rw [HY.out]; simp, nop⟩)
            have X12 := HXq.out.store a (q' - 1)
            have L12 := HLq.out.keep ks (by simp; omega)
            have K12 : Keep [pm] w ((wr.setCell ⟨wo.heap.size, 0, none⟩ (.int .i64 a)).setCell ⟨wo.heap.size, 1, none⟩ (.int .i64 (q' - 1))) := Kq.store2 (b := wo.heap.size) (.inr (by omega)) _ _
            have CUT := Lib.hid hcut; have ABS := Lib.hid habs
            have FA := Lib.hid IHq.out.fa
            clear hcut habs hblk hra m1 m2 IHq
            go_wp2_with fail
            obtain ⟨w12, hw12⟩ : ∃ w12, w12 = (wr.setCell ⟨wo.heap.size, 0, none⟩ (.int .i64 a)).setCell ⟨wo.heap.size, 1, none⟩ (.int .i64 (q' - 1)) := ⟨_, rfl⟩
            rw [← hw12] at R12 X12 L12 K12 ⊢
            clear hw12 ks x0 x1 x2 x3
            have lp12 : pm < w12.heap.size := R12.lt
            have lo12 : wo.heap.size < w12.heap.size := X12.lt
            have BB0 : Hid (∀ w' : World, Below w12.heap.size w12 w' → w'.cell? ⟨pm, 1, none⟩ = some vF') := fun w' hb => (hb.cell (p := ⟨pm, 1, none⟩) lp12).trans R12.c1
            have BB1 : Hid (∀ w' : World, Below w12.heap.size w12 w' → w'.cell? ⟨wo.heap.size, 0, none⟩ = some (.int .i64 a)) := fun w' hb => (hb.cell (p := ⟨wo.heap.size, 0, none⟩) lo12).trans X12.c0
            have BB2 : Hid (∀ w' : World, Below w12.heap.size w12 w' → w'.cell? ⟨wo.heap.size, 1, none⟩ = some (.int .i64 (q' - 1))) := fun w' hb => (hb.cell (p := ⟨wo.heap.size, 1, none⟩) lo12).trans X12.c1
            have BBF : Hid (∀ w' : World, Below w12.heap.size w12 w' → w'.frozen? ⟨pm, 1, none⟩ = false) := fun w' hb => (hb.frozen (p := ⟨pm, 1, none⟩) lp12).trans R12.f1
            have WI : Hid (∀ w' : World, Below w12.heap.size w12 w' → Calls Tryz.prog 131 #[vF', .agg #[.int .i64 (a + sz (q' - 1)), .int .i64 (q' - 1)]] w' fun e w'' => ∃ v', e = .returned v' ∧ OwnB w' w'' v' (putL (a + sz (q' - 1)) (q' - 1) F')) :=
              fun w' hb => with_ok vF' F' _ _ w' ((R12.below hb).rF.rowT) FA.out ABS.out hlen
            have y0 := R12.c1; have y1 := X12.c0; have y2 := X12.c1
            go_region_with (first
              | (go_at_call 129; refine (BO.out _).mono ?_; rintro e wa ⟨rfl, hba⟩; have cba : Below w12.heap.size w12 wa := ((Below.refl _ _).drew).trans (hba.mono (by simp)); have xa0 := BB0.out _ cba; have xa1 := BB1.out _ cba; have xa2 := BB2.out _ cba)
              | (go_at_call 131; refine (WI.out _ cba).mono ?_; rintro e wb ⟨vb, rfl, hob⟩; obtain ⟨t1, t2, t3, rfl⟩ := hob.isSlice; have cbb : Below w12.heap.size w12 wb := cba.trans (hob.2.mono cba.size); have xb0 := BB0.out _ cbb; have xb1 := BB1.out _ cbb; have xb2 := BB2.out _ cbb; have xbf := BBF.out _ cbb))
            all_goals
              have hXY : ∀ y ∈ Y, y < wa.heap.size := fun y hy => by
                rw [HY.out] at hy
                simp at hy
                have := cba.size
                rcases hy with rfl | rfl | hy
                · omega
                · omega
                · have := HX.out y hy; omega
              have rowb := RowX.of hob hXY
              have R13 := Lib.hid ((R12.below cbb).setF rowb)
              have k13 : Keep [pm] w12 (wb.setCell ⟨pm, 1, none⟩ (.slice t1 t2 t3)) := (Keep.of cbb).setCell (.inl (by simp)) _
              have X13 := Lib.hid (X12.keep k13 (by simpa using nop))
              have L13 := Lib.hid (L12.keep k13 (by simp; omega))
              have K13 := Lib.hid (K12.then k13)
              clear rowb k13 R12 X12 L12 hob hba cba cbb hXY
              go_wp2
              go_roundg ((q' - 1 - k).toNat + 1)
              case measure => omega
              case rel => exact ⟨q' - 1, _, _, by omega, by omega, by omega, R13, CUT, (show downF _ _ _ _ = _ by rw [← DFq.out, downF_one hlt]), X13, L13, K13.out⟩
          · have eq : q' = k := by omega
            subst eq
            have hF : F' = takeF q' (a, m0) F := by have := DFq.out; rwa [show (q' - q').toNat = 0 by omega] at this
            have hne := fun z hz => IHq.out.other (z := z) (List.mem_append_right F' hz)
            have hlen := asc_len256 IHq.out.ta (fun p hp => IHq.out.rng (List.mem_cons_of_mem _ (List.mem_append_right _ hp)))
            have NE := Lib.hid hne; have TA := Lib.hid IHq.out.ta
            have R12 := HRq.out
            have X12 := HXq.out
            have L12 := HLq.out
            rw [hF] at R12
            have nop : wo.heap.size ≠ pm := by omega
            have now : w.heap.size ≠ pm := by omega
            have lp12 : pm < wr.heap.size := R12.lt
            have BB0 : Hid (∀ w' : World, Below wr.heap.size wr w' → w'.cell? ⟨pm, 2, none⟩ = some vT) := fun w' hb => (hb.cell (p := ⟨pm, 2, none⟩) lp12).trans R12.c2
            have BB1 : Hid (∀ w' : World, Below wr.heap.size wr w' → w'.cell? ⟨wo.heap.size, 0, none⟩ = some (.int .i64 a)) := fun w' hb => (hb.cell (p := ⟨wo.heap.size, 0, none⟩) xl).trans X12.c0
            have BB2 : Hid (∀ w' : World, Below wr.heap.size wr w' → w'.cell? ⟨wo.heap.size, 1, none⟩ = some (.int .i64 q')) := fun w' hb => (hb.cell (p := ⟨wo.heap.size, 1, none⟩) xl).trans X12.c1
            have BBF : Hid (∀ w' : World, Below wr.heap.size wr w' → w'.frozen? ⟨pm, 2, none⟩ = false) := fun w' hb => (hb.frozen (p := ⟨pm, 2, none⟩) lp12).trans R12.f2
            have WI : Hid (∀ w' : World, Below wr.heap.size wr w' → Calls Tryz.prog 131 #[vT, .agg #[.int .i64 a, .int .i64 q']] w' fun e w'' => ∃ v', e = .returned v' ∧ OwnB w' w'' v' (putL a q' T)) :=
              fun w' hb => with_ok vT T _ _ w' ((R12.below hb).rT.rowT) TA.out NE.out hlen
            have y0 := R12.c2
            have hnl : ¬ q' < q' := by omega
            clear hne hF IHq DFq x2 x3
            go_wp2_with fail
            go_region_with (first
              | (go_at_call 131; refine (WI.out _ ((Below.refl _ _).drew)).mono ?_; rintro e wb ⟨vb, rfl, hob⟩; obtain ⟨t1, t2, t3, rfl⟩ := hob.isSlice; have cbb : Below wr.heap.size wr wb := ((Below.refl _ _).drew).trans (hob.2.mono (by simp)); have xb0 := BB0.out _ cbb; have xb1 := BB1.out _ cbb; have xb2 := BB2.out _ cbb; have xbf := BBF.out _ cbb))
            all_goals
              have hXY : ∀ y ∈ Y, y < wr.drew.heap.size := fun y hy => by
                rw [HY.out] at hy
                simp at hy ⊢
                rcases hy with rfl | rfl | hy
                · omega
                · omega
                · have := HX.out y hy; omega
              have rowb := RowX.of hob hXY
              have R13 := (R12.below cbb).setT rowb
              have k13 : Keep [pm] wr (wb.setCell ⟨pm, 2, none⟩ (.slice t1 t2 t3)) := (Keep.of cbb).setCell (.inl (by simp)) _
              have X13 := X12.keep k13 (by simpa using nop)
              have L13 := L12.keep k13 (by simpa using now)
              have K13 := Kq.then k13
              obtain ⟨w13, hw13⟩ : ∃ w13, w13 = wb.setCell ⟨pm, 2, none⟩ (.slice t1 t2 t3) := ⟨_, rfl⟩
              rw [← hw13] at R13 X13 L13 K13 ⊢
              have z0 := X13.c0; have z1 := X13.c1
              have l0 := L13.c0; have l1 := L13.c1; have l2 := L13.f0; have l3 := L13.f1
              have ks : Keep [w.heap.size] w13 ((w13.setCell ⟨w.heap.size, 0, none⟩ (.int .i64 a)).setCell ⟨w.heap.size, 1, none⟩ (.int .i64 q')) := (Keep.refl _ _).store2 (.inl (by simp)) _ _
              have R14 := (R13.keep ks (fun s hs => by rw [List.mem_singleton.1 hs]; exact .inl ⟨by rw [HY.out]; simp, now⟩)).sub pmX (fun x hx => by rw [HY.out]; simp [hx])
              have HR14 := Lib.hid R14
              have L14 := L13.store a q'
              have e0 := L14.c0; have e1 := L14.c1
              have K14 := Lib.hid (K13.store2 (b := w.heap.size) (.inr (Nat.le_refl _)) (.int .i64 a) (.int .i64 q'))
              clear rowb R12 X12 L12 hob cbb hXY R13 X13 L13 R14 L14 hw13 ks k13
              go_wp2
              have e2 := set_cell_same (.int .i64 a) l0
              exact bodyPost_ret (v := .tuple #[.agg #[.int .i64 a, .int .i64 q'], .bool true]) (by simp [e0, e1, e2, results, Tryz.results77, go_sem]) rfl (Or.inr ⟨(a, m0), _, _, HBE.out, rfl, HR14.out, K14.out⟩)
end Go.Proofs.YtcokmiidgdmdlaaGreatDoor
