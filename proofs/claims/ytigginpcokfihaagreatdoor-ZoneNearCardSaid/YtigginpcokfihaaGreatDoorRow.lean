/- Slices of blocks that are read: what their cells hold; SameBlocks by its contract. -/
import Derived.Test.YtigginpcokfihaaGreatDoorCov
import Derived.Test.YtigginpcokfihaaGreatDoorEq
import Derived.BigQuiet
namespace Go.Proofs.YtigginpcokfihaaGreatDoor
open Go.RowKit
set_option linter.unusedSimpArgs false

/-- a slice value that reads as these blocks, below block number N -/
def RowB (N : Nat) (w : World) (v : Value) (l : List (Int × Int)) : Prop :=
  (v = .slice none 0 0 ∧ l = []) ∨ ∃ g cap, v = .slice (some ⟨g, 0, none⟩) l.length cap ∧ l.length ≤ maxLen ∧ g < N ∧ N ≤ w.heap.size ∧
    ∀ j a k, l[j]? = some (a, k) → w.cell? ⟨g, j * 2, none⟩ = some (.int .i64 a) ∧ w.cell? ⟨g, j * 2 + 1, none⟩ = some (.int .i64 k)

theorem encB_get : ∀ (l : List (Int × Int)) (j : Nat) (a k : Int), l[j]? = some (a, k) → (encB l)[j * 2]? = some (.int .i64 a) ∧ (encB l)[j * 2 + 1]? = some (.int .i64 k)
  | [], j, a, k, h => by simp at h
  | b :: r, 0, a, k, h => by
    simp at h
    subst h
    simp [encB]
  | b :: r, j + 1, a, k, h => by
    have ih := encB_get r j a k (by simpa using h)
    have e : encB (b :: r) = .int .i64 b.1 :: .int .i64 b.2 :: encB r := by simp [encB]
    rw [e, show (j + 1) * 2 = j * 2 + 1 + 1 from by omega, show j * 2 + 1 + 1 + 1 = (j * 2 + 1) + 1 + 1 from rfl]
    simpa using ih

theorem OwnB.row {w w' : World} {v : Value} {l : List (Int × Int)} (h : OwnB w w' v l) (hl : l.length ≤ maxLen) : RowB w'.heap.size w' v l := by
  obtain ⟨ho, _⟩ := h
  have ho' := ho
  obtain ⟨_, h2⟩ := ho
  rcases h2 with ⟨rfl, h3⟩ | ⟨g, cap, cur, rfl, hg, hh, _⟩
  · refine .inl ⟨rfl, ?_⟩
    cases l with
    | nil => rfl
    | cons b r => simp [encB] at h3
  · refine .inr ⟨g, cap, rfl, hl, (ho'.lt g rfl).2, Nat.le_refl _, fun j a k hj => ?_⟩
    have hlt : j < l.length := (List.getElem?_eq_some_iff.1 hj).1
    obtain ⟨e1, e2⟩ := encB_get l j a k hj
    rw [ho'.cellAt (j * 2) (by omega), ho'.cellAt (j * 2 + 1) (by omega)]
    exact ⟨e1, e2⟩
theorem RowB.below {N : Nat} {w w' : World} {v : Value} {l : List (Int × Int)} (h : RowB N w v l) (hb : Below N w w') : RowB N w' v l := by
  rcases h with h | ⟨g, cap, h1, h2, h3, h4, h5⟩
  · exact .inl h
  · exact .inr ⟨g, cap, h1, h2, h3, Nat.le_trans h4 hb.size, fun j a k hj => by
      obtain ⟨e1, e2⟩ := h5 j a k hj
      exact ⟨by rw [hb.cell (p := ⟨g, j * 2, none⟩) h3]; exact e1, by rw [hb.cell (p := ⟨g, j * 2 + 1, none⟩) h3]; exact e2⟩⟩

set_option maxHeartbeats 1000000 in
/-- SameBlocks of two slices that hold the same -/
theorem same_yes {N M : Nat} (va vb : Value) (l : List (Int × Int)) (w : World) (ha : RowB N w va l) (hb : RowB M w vb l) :
    Calls Tryz.prog 81 #[va, vb] w fun e w' => e = .returned (.bool true) ∧ Below w.heap.size w w' := by
  have eb := neqB
  have gb := guardB
  rcases ha with ⟨rfl, rfl⟩ | ⟨g, cap, rfl, hm, hg, hN, hc⟩
  · rcases hb with ⟨rfl, _⟩ | ⟨g', cap', rfl, _, _, _, _⟩
    all_goals
      go_enter Tryz.func81, Tryz.ntmps81
      go_wp2_with fail
      refine wp_loop_rounds 1 ?_
      rw [rounds_succ]
      go_wp2
      go_ret
      exact ⟨rfl, (by repeat (first | exact Below.refl _ _ | refine Below.drew ?_ | refine below_drewN ?_ _ | refine Below.trans ?_ (Below.mono (by assumption) (by first | omega | (simp; omega) | (simp; done))) | refine Below.alloc ?_ (by first | omega | (simp; omega) | (simp; done)) _ | refine Below.setCell ?_ (by first | omega | (simp; omega) | (simp; done)) _))⟩
  · rcases hb with ⟨rfl, rfl⟩ | ⟨g', cap', rfl, _, hg', hM, hc'⟩
    · go_enter Tryz.func81, Tryz.ntmps81
      go_wp2_with fail
      refine wp_loop_rounds 1 ?_
      rw [rounds_succ]
      go_wp2
      go_ret
      exact ⟨rfl, (by repeat (first | exact Below.refl _ _ | refine Below.drew ?_ | refine below_drewN ?_ _ | refine Below.trans ?_ (Below.mono (by assumption) (by first | omega | (simp; omega) | (simp; done))) | refine Below.alloc ?_ (by first | omega | (simp; omega) | (simp; done)) _ | refine Below.setCell ?_ (by first | omega | (simp; omega) | (simp; done)) _))⟩
    · unfold maxLen at hm
      have C1 := Lib.hid hc; have C2 := Lib.hid hc'
      clear hc hc'
      obtain ⟨n, hn⟩ : ∃ n, n = l.length := ⟨_, rfl⟩
      rw [← hn] at hm ⊢
      have HN := Lib.hid hn
      clear hn
      go_enter Tryz.func81, Tryz.ntmps81
      go_wp2_with fail
      go_loopw [5] (fun i wr => ∃ j : Nat, j ≤ n ∧ i = .int .i64 j ∧ Below w.heap.size w wr) (fun i _ => n - (intOf i).toNat)
      case atStart => exact ⟨0, Nat.zero_le _, rfl, Below.refl _ _⟩
      case round =>
        obtain ⟨j, hj, rfl, hbel⟩ := hrel
        by_cases hlt : j < n
        · obtain ⟨b, hb⟩ : ∃ b, l[j]? = some b := ⟨l[j]'(by rw [← HN.out]; exact hlt), List.getElem?_eq_getElem _⟩
          obtain ⟨x, k⟩ := b
          obtain ⟨p1, p2⟩ := C1.out j x k hb
          obtain ⟨q1, q2⟩ := C2.out j x k hb
          clear hb
          have r1 : wr.cell? ⟨g, j * 2, none⟩ = some (.int .i64 x) := by rw [hbel.cell (p := ⟨g, j * 2, none⟩) (Nat.lt_of_lt_of_le hg hN)]; exact p1
          have r2 : wr.cell? ⟨g, j * 2 + 1, none⟩ = some (.int .i64 k) := by rw [hbel.cell (p := ⟨g, j * 2 + 1, none⟩) (Nat.lt_of_lt_of_le hg hN)]; exact p2
          have r3 : wr.cell? ⟨g', j * 2, none⟩ = some (.int .i64 x) := by rw [hbel.cell (p := ⟨g', j * 2, none⟩) (Nat.lt_of_lt_of_le hg' hM)]; exact q1
          have r4 : wr.cell? ⟨g', j * 2 + 1, none⟩ = some (.int .i64 k) := by rw [hbel.cell (p := ⟨g', j * 2 + 1, none⟩) (Nat.lt_of_lt_of_le hg' hM)]; exact q2
          clear p1 p2 q1 q2
          go_wp2
          go_quiet (fail)
          go_wp2
          go_roundw
          case rel => exact ⟨j + 1, by omega, by go_num, below_drewN hbel _⟩
          case measure => simp [intOf]; omega
        · go_wp2
          go_ret
          exact ⟨rfl, hbel⟩
end Go.Proofs.YtigginpcokfihaaGreatDoor
