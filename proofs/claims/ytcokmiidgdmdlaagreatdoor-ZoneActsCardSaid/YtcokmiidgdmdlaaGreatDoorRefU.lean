/- The document's lists of blocks: without, with, find, by their contracts. -/
import Derived.Test.YtcokmiidgdmdlaaGreatDoorMem
import Derived.Test.YtcokmiidgdmdlaaGreatDoorPlain
import Derived.Test.YtcokmiidgdmdlaaGreatDoorBudW
import Derived.Test.YtcokmiidgdmdlaaGreatDoorBase
import Derived.LoopTactic
import Derived.BigQuiet
namespace Go.Proofs.YtcokmiidgdmdlaaGreatDoor
open Go.RowKit
set_option linter.unusedSimpArgs false

set_option maxHeartbeats 1000000 in
theorem without_ok {base : Nat} (v : Value) (l : List (Int × Int)) (j : Nat) (w : World) (h : RowT base w v l) (hj : j < l.length) (hl : l.length ≤ 256) :
    Calls Tryz.prog 128 #[v, .int .i64 j] w fun e w' => ∃ v', e = .returned v' ∧ OwnB w w' v' (l.take j ++ l.drop (j + 1)) := by
  rcases h with ⟨_, rfl⟩ | ⟨g, cap, rfl, hcap, hmax, _, hg, hc⟩
  · simp at hj
  unfold maxLen at hmax
  have C := Lib.hid hc
  have lj : (l.take j).length = j := by rw [List.length_take]; omega
  have ld : (l.drop (j + 1)).length = l.length - (j + 1) := List.length_drop
  obtain ⟨N, hN⟩ : ∃ N, N = l.length := ⟨_, rfl⟩
  rw [← hN] at hj hl hcap ld ⊢
  have LJ := Lib.hid lj; have LD := Lib.hid ld
  clear hc lj ld hN
  have s1 : Hid (Src w (some ⟨g, 0, none⟩) (l.take j)) := .inr ⟨g, 0, rfl, fun i a k hi => by
    have hij : i < j := by have := (List.getElem?_eq_some_iff.1 hi).1; rw [LJ.out] at this; exact this
    rw [List.getElem?_take_of_lt hij] at hi
    have := C.out i a k hi
    rwa [Nat.zero_add]⟩
  by_cases hk : cap = j + 1
  · subst hk
    have hN1 : N = j + 1 := by omega
    have s2 : Hid (∀ w', Src w' (some ⟨g, 0, none⟩) (l.drop (j + 1))) := fun w' => .inr ⟨g, 0, rfl, fun i a k hi => by
      have := (List.getElem?_eq_some_iff.1 hi).1
      rw [LD.out] at this; omega⟩
    have HN1 := Lib.hid hN1
    subst hN1
    go_enter Tryz.func128, Tryz.ntmps128
    go_wp2_with (first | (at_builtin; refine wpList_app (base := w.heap.size) (v := .slice none 0 0) (l := []) (m := l.take j) (p := some ⟨g, 0, none⟩) rfl (.tmp 6) (.tmp 9) (by rfl) (by rfl) j (by rfl) LJ.out (World.ownsRow_nil _ _ _ _) s1.out (by rw [LJ.out]; simp; omega) (Nat.le_refl _) ?_; intro v1 w1 hown1 hg1; have hb1 : Below w.heap.size w w1 := (Below.refl _ _).grown hg1 (Nat.le_refl _) (fun r hr => by simp [Value.ownBlock] at hr)) | (at_builtin; go_loud (refine wpList_app (base := w.heap.size) (v := v1) (l := [] ++ l.take j) (m := l.drop (j + 1)) (p := some ⟨g, 0, none⟩) rfl (.tmp 11) (.tmp 15) (by rfl) (by rfl) (0) (by rfl) (by rw [LD.out]; omega) hown1 (s2.out _) (by rw [LD.out]; simp [LJ.out]; omega) hb1.size ?_; intro v2 w2 hown2 hg2; have hb2 : Below w.heap.size w w2 := hb1.grown hg2 hb1.size (fun r hr => (hown1.lt r hr).1))))
    go_ret
    exact ⟨_, rfl, by simpa using hown2, hb2⟩
  · have s2 : Hid (∀ w', Below w.heap.size w w' → Src w' (some ⟨g, (j + 1) * 2, none⟩) (l.drop (j + 1))) := fun w' hb => .inr ⟨g, (j + 1) * 2, rfl, fun i a k hi => by
      rw [List.getElem?_drop] at hi
      obtain ⟨h1, h2⟩ := C.out _ a k hi
      have e1 : (j + 1) * 2 + i * 2 = (j + 1 + i) * 2 := by omega
      rw [e1, hb.cell (p := ⟨g, (j + 1 + i) * 2, none⟩) hg, hb.cell (p := ⟨g, (j + 1 + i) * 2 + 1, none⟩) hg]
      exact ⟨h1, h2⟩⟩
    go_enter Tryz.func128, Tryz.ntmps128
    go_wp2_with (first | (at_builtin; refine wpList_app (base := w.heap.size) (v := .slice none 0 0) (l := []) (m := l.take j) (p := some ⟨g, 0, none⟩) rfl (.tmp 6) (.tmp 9) (by rfl) (by rfl) j (by rfl) LJ.out (World.ownsRow_nil _ _ _ _) s1.out (by rw [LJ.out]; simp; omega) (Nat.le_refl _) ?_; intro v1 w1 hown1 hg1; have hb1 : Below w.heap.size w w1 := (Below.refl _ _).grown hg1 (Nat.le_refl _) (fun r hr => by simp [Value.ownBlock] at hr)) | (at_builtin; go_loud (refine wpList_app (base := w.heap.size) (v := v1) (l := [] ++ l.take j) (m := l.drop (j + 1)) (p := some ⟨g, (j + 1) * 2, none⟩) rfl (.tmp 11) (.tmp 15) (by rfl) (by rfl) (N - (j + 1)) (by rfl) (LD.out) hown1 (s2.out _ hb1) (by rw [LD.out]; simp [LJ.out]; omega) hb1.size ?_; intro v2 w2 hown2 hg2; have hb2 : Below w.heap.size w w2 := hb1.grown hg2 hb1.size (fun r hr => (hown1.lt r hr).1))))
    go_ret
    exact ⟨_, rfl, by simpa using hown2, hb2⟩

theorem src_new (w : World) (a k : Int) (t : TypeId) : Src (w.alloc (.cells #[.int .i64 a, .int .i64 k] t)) (some ⟨w.heap.size, 0, none⟩) [(a, k)] :=
  .inr ⟨w.heap.size, 0, rfl, fun i x y hi => by
    have h0 : i = 0 := by have := (List.getElem?_eq_some_iff.1 hi).1; simp at this; exact this
    subst h0
    simp at hi
    obtain ⟨rfl, rfl⟩ := hi
    exact ⟨by rw [World.cell?_alloc_at _ _ _ _ (by simp)]; rfl, by rw [World.cell?_alloc_at _ _ _ _ (by simp)]; rfl⟩⟩

set_option maxHeartbeats 4000000 in
set_option maxRecDepth 100000 in
theorem with_ok {base : Nat} (v : Value) (l : List (Int × Int)) (a k : Int) (w : World) (h : RowT base w v l) (hA : Asc l) (hne : ∀ x ∈ l, x.1 ≠ a) (hl : l.length ≤ 256) :
    Calls Tryz.prog 131 #[v, .agg #[.int .i64 a, .int .i64 k]] w fun e w' => ∃ v', e = .returned v' ∧ OwnB w w' v' (putL a k l) := by
  have HA := Lib.hid hA; have HNE := Lib.hid hne
  clear hA hne
  have h' : ∃ p cap, v = .slice p l.length cap ∧ l.length ≤ cap ∧ cap ≤ maxLen ∧ Hid ((p = none ∧ cap = 0) ∨ ∃ g, p = some ⟨g, 0, none⟩ ∧ g < w.heap.size ∧ RowC w g l) := by
    rcases h with ⟨rfl, rfl⟩ | ⟨g, cap, rfl, hcap, hmax, _, hg, hc⟩
    · exact ⟨none, 0, rfl, Nat.le_refl _, Nat.zero_le _, .inl ⟨rfl, rfl⟩⟩
    · exact ⟨_, cap, rfl, hcap, hmax, .inr ⟨g, rfl, hg, hc⟩⟩
  obtain ⟨p, cap, rfl, hcap, hmax, HP0⟩ := h'
  clear h
  unfold maxLen at hmax
  obtain ⟨N, hN⟩ : ∃ N, N = l.length := ⟨_, rfl⟩
  have HN := Lib.hid hN
  rw [← hN] at hl hcap ⊢
  clear hN
  go_enter Tryz.func131, Tryz.ntmps131
  go_wp2_with fail
  go_loopw [5] (fun jv wr => ∃ j : Nat, j ≤ N ∧ jv = .int .i64 j ∧ Hid (∀ x ∈ l.take j, x.1 < a) ∧ Below w.heap.size w wr ∧ Hid (Loc2 wr w.heap.size a k)) (fun jv _ => N - (intOf jv).toNat)
  case atStart => exact ⟨0, Nat.zero_le _, by go_num, (fun x hx => by simp at hx), (by repeat (first | exact Below.refl _ _ | refine Below.drew ?_ | refine below_drewN ?_ _ | refine Below.trans ?_ (Below.mono (by assumption) (by first | omega | (simp; omega) | (simp; done))) | refine Below.alloc ?_ (by first | omega | (simp; omega) | (simp; done)) _ | refine Below.setCell ?_ (by first | omega | (simp; omega) | (simp; done)) _)), Loc2.new w a k _⟩
  case round =>
    obtain ⟨j, hj, rfl, HLO, hbel, HX⟩ := hrel
    have X := HX.out
    have zr : w.heap.size < wr.heap.size := X.lt
    have x0 := X.c0; have x1 := X.c1
    have LJ : Hid ((l.take j).length = j) := (show _ = _ by rw [List.length_take, ← HN.out]; omega)
    have LD : Hid ((l.drop j).length = N - j) := (show _ = _ by rw [List.length_drop, ← HN.out])
    by_cases hlt : j < N
    · rcases HP0.out with ⟨_, e0⟩ | ⟨g, rfl, hg, hc⟩
      · omega
      have C := Lib.hid hc
      obtain ⟨y, hy⟩ : ∃ y, l[j]? = some y := ⟨l[j]'(by rw [← HN.out]; exact hlt), List.getElem?_eq_getElem _⟩
      obtain ⟨y0, y1⟩ := y
      obtain ⟨p1, p2⟩ := C.out j y0 y1 hy
      have r1 := (hbel.cell (p := ⟨g, j * 2, none⟩) hg).trans p1
      have gr : g < wr.heap.size := by omega
      have HY := Lib.hid hy
      clear hc p1 p2 hy
      by_cases hya : y0 < a
      · have HLO2 : Hid (∀ x ∈ l.take (j + 1), x.1 < a) := take_lt HLO.out HY.out hya
        go_wp2
        go_quiet (fail)
        go_wp2
        go_roundw
        case rel => exact ⟨j + 1, by omega, by go_num, HLO2, below_drewN hbel _, (show Loc2 _ _ _ _ from X.keep ((Keep.refl [] _).drewN _) (by simp))⟩
        case measure => simp [intOf]; omega
      · have HP : Hid (putL a k l = l.take j ++ (a, k) :: l.drop j) := putL_cut HLO.out (cut_at HA.out HNE.out HLO.out (fun x hx => by
          have e := Option.some.inj (HY.out.symm.trans hx); rw [← e]; show a ≤ y0; omega))
        have s1 : Hid (∀ w', Below w.heap.size w w' → Src w' (some ⟨g, 0, none⟩) (l.take j)) := fun w' hb => .inr ⟨g, 0, rfl, fun i x y hi => by
          have hij : i < j := by have := (List.getElem?_eq_some_iff.1 hi).1; rw [LJ.out] at this; exact this
          rw [List.getElem?_take_of_lt hij] at hi
          rw [Nat.zero_add, hb.cell (p := ⟨g, i * 2, none⟩) hg, hb.cell (p := ⟨g, i * 2 + 1, none⟩) hg]
          exact C.out i x y hi⟩
        have s2 : Hid (∀ w', Below w.heap.size w w' → Src w' (some ⟨g, j * 2, none⟩) (l.drop j)) := fun w' hb => .inr ⟨g, j * 2, rfl, fun i x y hi => by
          rw [List.getElem?_drop] at hi
          have e1 : j * 2 + i * 2 = (j + i) * 2 := by omega
          rw [e1, hb.cell (p := ⟨g, (j + i) * 2, none⟩) hg, hb.cell (p := ⟨g, (j + i) * 2 + 1, none⟩) hg]
          exact C.out _ x y hi⟩
        have hcj : ¬ cap = j := by omega
        go_wp2
        go_quiet (fail)
        obtain ⟨wz, hwz⟩ : ∃ wz, wz = wr.drewN nq := ⟨_, rfl⟩
        rw [← hwz]
        have hbz : Below w.heap.size w wz := by rw [hwz]; exact below_drewN hbel _
        have Xz : Loc2 wz w.heap.size a k := by rw [hwz]; exact X.keep ((Keep.refl [] _).drewN _) (by simp)
        have zz : w.heap.size < wz.heap.size := Xz.lt
        clear hwz hbel X x0 x1
        go_wp2_with (first | (at_builtin; refine wpList_app (base := w.heap.size) (v := .slice none 0 0) (l := []) (m := l.take j) (p := some ⟨g, 0, none⟩) rfl (.tmp 23) (.tmp 26) (by rfl) (by rfl) j (by rfl) LJ.out (World.ownsRow_nil _ _ _ _) (s1.out _ hbz) (by rw [LJ.out]; simp; try omega) (by omega) ?_; intro v1 w1 hown1 hg1; have hb1 : Below w.heap.size w w1 := hbz.grown hg1 (by omega) (fun r hr => by simp [Value.ownBlock] at hr); have hz1 : w.heap.size < w1.heap.size := (by have := hg1.size; omega); have x0 := (hg1.block w.heap.size (by omega) (by simp [Value.ownBlock])); have cx0 : w1.cell? ⟨w.heap.size, 0, none⟩ = some (.int .i64 a) := (World.cell?_of_block x0).trans Xz.c0; have cx1 : w1.cell? ⟨w.heap.size, 1, none⟩ = some (.int .i64 k) := (World.cell?_of_block x0).trans Xz.c1) | (at_builtin; refine wpList_app (base := w.heap.size) (v := v1) (l := [] ++ l.take j) (m := [(a, k)]) (p := some ⟨w1.heap.size, 0, none⟩) rfl (.tmp 28) (.tmp 30) (by rfl) (by rfl) 1 (by rfl) (by rfl) (hown1.alloc _) (src_new _ _ _ _) (by simp [LJ.out]; try omega) (by simp; try omega) ?_; intro v2 w2 hown2 hg2; have hb2 : Below w.heap.size w w2 := (hb1.alloc hb1.size _).grown hg2 (by simp; omega) (fun r hr => (hown1.lt r hr).1); have hz2 : w1.heap.size < w2.heap.size := (by have := hg2.size; simp at this; omega)) | (at_builtin; refine wpList_app (base := w.heap.size) (v := v2) (l := ([] ++ l.take j) ++ [(a, k)]) (m := l.drop j) (p := some ⟨g, j * 2, none⟩) rfl (.tmp 32) (.tmp 35) (by rfl) (by rfl) (N - j) (by rfl) (LD.out) hown2 (s2.out _ hb2) (by rw [LD.out]; simp [LJ.out]; try omega) (by omega) ?_; intro v3 w3 hown3 hg3; have hb3 : Below w.heap.size w w3 := hb2.grown hg3 (by omega) (fun r hr => (hown2.lt r hr).1)))
        go_ret
        exact ⟨_, rfl, by rw [HP.out]; exact ⟨(show World.ownsRow _ _ _ _ _ _ _ by simpa using hown3), hb3⟩⟩
    · have ej : j = N := by omega
      have HP : Hid (putL a k l = l.take j ++ (a, k) :: l.drop j) := putL_cut HLO.out (fun x hx => by
        have : l.drop j = [] := List.drop_eq_nil_of_le (by rw [← HN.out]; omega)
        rw [this] at hx; cases hx)
      have hd : Hid (l.drop j = []) := List.drop_eq_nil_of_le (by rw [← HN.out]; omega)
      have LD0 : Hid ((l.drop j).length = 0) := (show _ = _ by rw [hd.out]; rfl)
      rcases HP0.out with ⟨rfl, e0⟩ | ⟨g, rfl, hg, hc⟩
      · have ej0 : j = 0 := by omega
        subst e0
        subst ej
        have s1 : Hid (∀ w', Below w.heap.size w w' → Src w' none (l.take j)) := fun w' _ => .inl ⟨rfl, by rw [ej0]; rfl⟩
        have s2 : Hid (∀ w', Src w' none (l.drop j)) := fun w' => .inl ⟨rfl, hd.out⟩
        clear HP0
        subst ej0
        go_wp2
        go_quiet (fail)
        obtain ⟨wz, hwz⟩ : ∃ wz, wz = wr.drewN nq := ⟨_, rfl⟩
        rw [← hwz]
        have hbz : Below w.heap.size w wz := by rw [hwz]; exact below_drewN hbel _
        have Xz : Loc2 wz w.heap.size a k := by rw [hwz]; exact X.keep ((Keep.refl [] _).drewN _) (by simp)
        have zz : w.heap.size < wz.heap.size := Xz.lt
        clear hwz hbel X x0 x1
        go_wp2_with (first | (at_builtin; refine wpList_app (base := w.heap.size) (v := .slice none 0 0) (l := []) (m := l.take 0) (p := none) rfl (.tmp 23) (.tmp 26) (by rfl) (by rfl) 0 (by rfl) LJ.out (World.ownsRow_nil _ _ _ _) (s1.out _ hbz) (by rw [LJ.out]; simp; try omega) (by omega) ?_; intro v1 w1 hown1 hg1; have hb1 : Below w.heap.size w w1 := hbz.grown hg1 (by omega) (fun r hr => by simp [Value.ownBlock] at hr); have hz1 : w.heap.size < w1.heap.size := (by have := hg1.size; omega); have x0 := (hg1.block w.heap.size (by omega) (by simp [Value.ownBlock])); have cx0 : w1.cell? ⟨w.heap.size, 0, none⟩ = some (.int .i64 a) := (World.cell?_of_block x0).trans Xz.c0; have cx1 : w1.cell? ⟨w.heap.size, 1, none⟩ = some (.int .i64 k) := (World.cell?_of_block x0).trans Xz.c1) | (at_builtin; refine wpList_app (base := w.heap.size) (v := v1) (l := [] ++ l.take 0) (m := [(a, k)]) (p := some ⟨w1.heap.size, 0, none⟩) rfl (.tmp 28) (.tmp 30) (by rfl) (by rfl) 1 (by rfl) (by rfl) (hown1.alloc _) (src_new _ _ _ _) (by simp [LJ.out]; try omega) (by simp; try omega) ?_; intro v2 w2 hown2 hg2; have hb2 : Below w.heap.size w w2 := (hb1.alloc hb1.size _).grown hg2 (by simp; omega) (fun r hr => (hown1.lt r hr).1); have hz2 : w1.heap.size < w2.heap.size := (by have := hg2.size; simp at this; omega)) | (at_builtin; refine wpList_app (base := w.heap.size) (v := v2) (l := ([] ++ l.take 0) ++ [(a, k)]) (m := l.drop 0) (p := none) rfl (.tmp 32) (.tmp 35) (by rfl) (by rfl) (0) (by rfl) (LD0.out) hown2 (s2.out _) (by rw [LD.out]; simp [LJ.out]; try omega) (by omega) ?_; intro v3 w3 hown3 hg3; have hb3 : Below w.heap.size w w3 := hb2.grown hg3 (by omega) (fun r hr => (hown2.lt r hr).1)))
        go_ret
        exact ⟨_, rfl, by rw [HP.out]; exact ⟨(show World.ownsRow _ _ _ _ _ _ _ by simpa using hown3), hb3⟩⟩
      · have C := Lib.hid hc
        have s1 : Hid (∀ w', Below w.heap.size w w' → Src w' (some ⟨g, 0, none⟩) (l.take j)) := fun w' hb => .inr ⟨g, 0, rfl, fun i x y hi => by
          have hij : i < j := by have := (List.getElem?_eq_some_iff.1 hi).1; rw [LJ.out] at this; exact this
          rw [List.getElem?_take_of_lt hij] at hi
          rw [Nat.zero_add, hb.cell (p := ⟨g, i * 2, none⟩) hg, hb.cell (p := ⟨g, i * 2 + 1, none⟩) hg]
          exact C.out i x y hi⟩
        have s2 : Hid (∀ w' o, Src w' (some ⟨g, o, none⟩) (l.drop j)) := fun w' o => .inr ⟨g, o, rfl, fun i x y hi => by rw [hd.out] at hi; simp at hi⟩
        clear hc
        subst ej
        by_cases hcj : cap = j
        · have hcj2 := hcj.symm
          subst hcj2
          go_wp2
          go_quiet (fail)
          obtain ⟨wz, hwz⟩ : ∃ wz, wz = wr.drewN nq := ⟨_, rfl⟩
          rw [← hwz]
          have hbz : Below w.heap.size w wz := by rw [hwz]; exact below_drewN hbel _
          have Xz : Loc2 wz w.heap.size a k := by rw [hwz]; exact X.keep ((Keep.refl [] _).drewN _) (by simp)
          have zz : w.heap.size < wz.heap.size := Xz.lt
          clear hwz hbel X x0 x1
          go_wp2_with (first | (at_builtin; refine wpList_app (base := w.heap.size) (v := .slice none 0 0) (l := []) (m := l.take j) (p := some ⟨g, 0, none⟩) rfl (.tmp 23) (.tmp 26) (by rfl) (by rfl) j (by rfl) LJ.out (World.ownsRow_nil _ _ _ _) (s1.out _ hbz) (by rw [LJ.out]; simp; try omega) (by omega) ?_; intro v1 w1 hown1 hg1; have hb1 : Below w.heap.size w w1 := hbz.grown hg1 (by omega) (fun r hr => by simp [Value.ownBlock] at hr); have hz1 : w.heap.size < w1.heap.size := (by have := hg1.size; omega); have x0 := (hg1.block w.heap.size (by omega) (by simp [Value.ownBlock])); have cx0 : w1.cell? ⟨w.heap.size, 0, none⟩ = some (.int .i64 a) := (World.cell?_of_block x0).trans Xz.c0; have cx1 : w1.cell? ⟨w.heap.size, 1, none⟩ = some (.int .i64 k) := (World.cell?_of_block x0).trans Xz.c1) | (at_builtin; refine wpList_app (base := w.heap.size) (v := v1) (l := [] ++ l.take j) (m := [(a, k)]) (p := some ⟨w1.heap.size, 0, none⟩) rfl (.tmp 28) (.tmp 30) (by rfl) (by rfl) 1 (by rfl) (by rfl) (hown1.alloc _) (src_new _ _ _ _) (by simp [LJ.out]; try omega) (by simp; try omega) ?_; intro v2 w2 hown2 hg2; have hb2 : Below w.heap.size w w2 := (hb1.alloc hb1.size _).grown hg2 (by simp; omega) (fun r hr => (hown1.lt r hr).1); have hz2 : w1.heap.size < w2.heap.size := (by have := hg2.size; simp at this; omega)) | (at_builtin; refine wpList_app (base := w.heap.size) (v := v2) (l := ([] ++ l.take j) ++ [(a, k)]) (m := l.drop j) (p := some ⟨g, 0, none⟩) rfl (.tmp 32) (.tmp 35) (by rfl) (by rfl) (0) (by rfl) (LD0.out) hown2 (s2.out _ _) (by rw [LD.out]; simp [LJ.out]; try omega) (by omega) ?_; intro v3 w3 hown3 hg3; have hb3 : Below w.heap.size w w3 := hb2.grown hg3 (by omega) (fun r hr => (hown2.lt r hr).1)))
          go_ret
          exact ⟨_, rfl, by rw [HP.out]; exact ⟨(show World.ownsRow _ _ _ _ _ _ _ by simpa using hown3), hb3⟩⟩
        · have e00 : j - j = 0 := Nat.sub_self _
          go_wp2
          go_quiet (fail)
          obtain ⟨wz, hwz⟩ : ∃ wz, wz = wr.drewN nq := ⟨_, rfl⟩
          rw [← hwz]
          have hbz : Below w.heap.size w wz := by rw [hwz]; exact below_drewN hbel _
          have Xz : Loc2 wz w.heap.size a k := by rw [hwz]; exact X.keep ((Keep.refl [] _).drewN _) (by simp)
          have zz : w.heap.size < wz.heap.size := Xz.lt
          clear hwz hbel X x0 x1
          go_wp2_with (first | (at_builtin; refine wpList_app (base := w.heap.size) (v := .slice none 0 0) (l := []) (m := l.take j) (p := some ⟨g, 0, none⟩) rfl (.tmp 23) (.tmp 26) (by rfl) (by rfl) j (by rfl) LJ.out (World.ownsRow_nil _ _ _ _) (s1.out _ hbz) (by rw [LJ.out]; simp; try omega) (by omega) ?_; intro v1 w1 hown1 hg1; have hb1 : Below w.heap.size w w1 := hbz.grown hg1 (by omega) (fun r hr => by simp [Value.ownBlock] at hr); have hz1 : w.heap.size < w1.heap.size := (by have := hg1.size; omega); have x0 := (hg1.block w.heap.size (by omega) (by simp [Value.ownBlock])); have cx0 : w1.cell? ⟨w.heap.size, 0, none⟩ = some (.int .i64 a) := (World.cell?_of_block x0).trans Xz.c0; have cx1 : w1.cell? ⟨w.heap.size, 1, none⟩ = some (.int .i64 k) := (World.cell?_of_block x0).trans Xz.c1) | (at_builtin; refine wpList_app (base := w.heap.size) (v := v1) (l := [] ++ l.take j) (m := [(a, k)]) (p := some ⟨w1.heap.size, 0, none⟩) rfl (.tmp 28) (.tmp 30) (by rfl) (by rfl) 1 (by rfl) (by rfl) (hown1.alloc _) (src_new _ _ _ _) (by simp [LJ.out]; try omega) (by simp; try omega) ?_; intro v2 w2 hown2 hg2; have hb2 : Below w.heap.size w w2 := (hb1.alloc hb1.size _).grown hg2 (by simp; omega) (fun r hr => (hown1.lt r hr).1); have hz2 : w1.heap.size < w2.heap.size := (by have := hg2.size; simp at this; omega)) | (at_builtin; refine wpList_app (base := w.heap.size) (v := v2) (l := ([] ++ l.take j) ++ [(a, k)]) (m := l.drop j) (p := some ⟨g, j * 2, none⟩) rfl (.tmp 32) (.tmp 35) (by rfl) (by rfl) (0) (by rfl) (LD0.out) hown2 (s2.out _ _) (by rw [LD.out]; simp [LJ.out]; try omega) (by omega) ?_; intro v3 w3 hown3 hg3; have hb3 : Below w.heap.size w w3 := hb2.grown hg3 (by omega) (fun r hr => (hown2.lt r hr).1)))
          go_ret
          exact ⟨_, rfl, by rw [HP.out]; exact ⟨(show World.ownsRow _ _ _ _ _ _ _ by simpa using hown3), hb3⟩⟩

theorem asc_at {l : List (Int × Int)} (hA : Asc l) {z : Int × Int} (h : z ∈ l) : ∃ j : Nat, l[j]? = some z ∧ ∀ x ∈ l.take j, x ≠ z := by
  obtain ⟨j, hj, e⟩ := List.getElem_of_mem h
  refine ⟨j, by rw [List.getElem?_eq_getElem hj, e], fun x hx he => ?_⟩
  obtain ⟨i, hi, e2⟩ := List.getElem_of_mem hx
  rw [List.length_take] at hi
  rw [List.getElem_take] at e2
  have := List.pairwise_iff_getElem.1 hA i j (by omega) hj (by omega)
  rw [e, e2, he] at this
  omega

set_option maxHeartbeats 1000000 in
theorem find_yes {base : Nat} (v : Value) (l : List (Int × Int)) (a k : Int) (j0 : Nat) (w : World) (h : RowT base w v l) (hz : l[j0]? = some (a, k)) (hno : ∀ x ∈ l.take j0, x ≠ (a, k)) (hl : l.length ≤ 256) :
    Calls Tryz.prog 127 #[v, .agg #[.int .i64 a, .int .i64 k]] w fun e w' => e = .returned (.int .i64 j0) ∧ Below w.heap.size w w' := by
  have eb := eqB; have gb := guardB
  have hj0 := (List.getElem?_eq_some_iff.1 hz).1
  rcases h with ⟨_, rfl⟩ | ⟨g, cap, rfl, hcap, hmax, _, hg, hc⟩
  · simp at hj0
  have C := Lib.hid hc; have HZ := Lib.hid hz; have HNO := Lib.hid hno
  obtain ⟨N, hN⟩ : ∃ N, N = l.length := ⟨_, rfl⟩
  have HN := Lib.hid hN
  rw [← hN] at hl hcap hj0 ⊢
  clear hc hz hno hN hmax
  go_enter Tryz.func127, Tryz.ntmps127
  go_wp2_with fail
  go_loopw [5] (fun jv wr => ∃ j : Nat, j ≤ j0 ∧ jv = .int .i64 j ∧ Below w.heap.size w wr ∧ Hid (Loc2 wr w.heap.size a k)) (fun jv _ => N - (intOf jv).toNat)
  case atStart => exact ⟨0, Nat.zero_le _, by go_num, (by repeat (first | exact Below.refl _ _ | refine Below.drew ?_ | refine below_drewN ?_ _ | refine Below.trans ?_ (Below.mono (by assumption) (by first | omega | (simp; omega) | (simp; done))) | refine Below.alloc ?_ (by first | omega | (simp; omega) | (simp; done)) _ | refine Below.setCell ?_ (by first | omega | (simp; omega) | (simp; done)) _)), Loc2.new w a k _⟩
  case round =>
    obtain ⟨j, hj, rfl, hbel, HX⟩ := hrel
    have X := HX.out
    have zr : w.heap.size < wr.heap.size := X.lt
    have x0 := X.c0; have x1 := X.c1
    have hlt : j < N := by omega
    obtain ⟨y, hy⟩ : ∃ y, l[j]? = some y := ⟨l[j]'(by rw [← HN.out]; exact hlt), List.getElem?_eq_getElem _⟩
    obtain ⟨y0, y1⟩ := y
    obtain ⟨p1, p2⟩ := C.out j y0 y1 hy
    have r1 := (hbel.cell (p := ⟨g, j * 2, none⟩) hg).trans p1
    have r2 := (hbel.cell (p := ⟨g, j * 2 + 1, none⟩) hg).trans p2
    have gr : g < wr.heap.size := by omega
    by_cases e : j = j0
    · subst e
      have e1 := Option.some.inj (hy.symm.trans HZ.out)
      have e2 : y0 = a := congrArg Prod.fst e1
      have e3 : y1 = k := congrArg Prod.snd e1
      subst e2 e3
      clear p1 p2 hy e1
      go_wp2
      go_quiet (fail)
      go_wp2
      go_ret
      exact ⟨rfl, below_drewN hbel _⟩
    · have hne : (y0 == a && y1 == k) = false := by
        have := HNO.out (y0, y1) (List.mem_of_getElem? (i := j) (by rw [List.getElem?_take_of_lt (by omega)]; exact hy))
        rw [Bool.and_eq_false_iff]
        by_cases e1 : y0 = a
        · right; exact beq_eq_false_iff_ne.2 fun e2 => this (by rw [e1, e2])
        · left; exact beq_eq_false_iff_ne.2 e1
      clear p1 p2 hy
      go_wp2
      go_quiet (fail)
      go_wp2
      go_roundw
      case rel => exact ⟨j + 1, by omega, by go_num, below_drewN hbel _, (show Loc2 _ _ _ _ from X.keep ((Keep.refl [] _).drewN _) (by simp))⟩
      case measure => simp [intOf]; omega

set_option maxHeartbeats 1000000 in
theorem rfind_no {base : Nat} (v : Value) (l : List (Int × Int)) (a k : Int) (w : World) (h : RowT base w v l) (hno : (a, k) ∉ l) (hl : l.length ≤ 256) :
    Calls Tryz.prog 127 #[v, .agg #[.int .i64 a, .int .i64 k]] w fun e w' => e = .returned (.int .i64 (-1)) ∧ Below w.heap.size w w' := by
  have eb := eqB; have gb := guardB
  have h' : ∃ p cap, v = .slice p l.length cap ∧ Hid ((l = [] ∧ p = none) ∨ ∃ g, p = some ⟨g, 0, none⟩ ∧ g < w.heap.size ∧ RowC w g l) := by
    rcases h with ⟨rfl, rfl⟩ | ⟨g, cap, rfl, hcap, hmax, _, hg, hc⟩
    · exact ⟨none, 0, rfl, .inl ⟨rfl, rfl⟩⟩
    · exact ⟨_, cap, rfl, .inr ⟨g, rfl, hg, hc⟩⟩
  obtain ⟨p, cap, rfl, HP0⟩ := h'
  clear h
  have HNO := Lib.hid hno
  obtain ⟨N, hN⟩ : ∃ N, N = l.length := ⟨_, rfl⟩
  have HN := Lib.hid hN
  rw [← hN] at hl ⊢
  clear hno hN
  go_enter Tryz.func127, Tryz.ntmps127
  go_wp2_with fail
  go_loopw [5] (fun jv wr => ∃ j : Nat, j ≤ N ∧ jv = .int .i64 j ∧ Below w.heap.size w wr ∧ Hid (Loc2 wr w.heap.size a k)) (fun jv _ => N - (intOf jv).toNat)
  case atStart => exact ⟨0, Nat.zero_le _, by go_num, (by repeat (first | exact Below.refl _ _ | refine Below.drew ?_ | refine below_drewN ?_ _ | refine Below.trans ?_ (Below.mono (by assumption) (by first | omega | (simp; omega) | (simp; done))) | refine Below.alloc ?_ (by first | omega | (simp; omega) | (simp; done)) _ | refine Below.setCell ?_ (by first | omega | (simp; omega) | (simp; done)) _)), Loc2.new w a k _⟩
  case round =>
    obtain ⟨j, hj, rfl, hbel, HX⟩ := hrel
    have X := HX.out
    have zr : w.heap.size < wr.heap.size := X.lt
    have x0 := X.c0; have x1 := X.c1
    by_cases hlt : j < N
    · rcases HP0.out with ⟨e0, _⟩ | ⟨g, rfl, hg, hc⟩
      · have := HN.out; rw [e0] at this; simp at this; omega
      obtain ⟨y, hy⟩ : ∃ y, l[j]? = some y := ⟨l[j]'(by rw [← HN.out]; exact hlt), List.getElem?_eq_getElem _⟩
      obtain ⟨y0, y1⟩ := y
      obtain ⟨p1, p2⟩ := hc j y0 y1 hy
      have r1 := (hbel.cell (p := ⟨g, j * 2, none⟩) hg).trans p1
      have r2 := (hbel.cell (p := ⟨g, j * 2 + 1, none⟩) hg).trans p2
      have gr : g < wr.heap.size := by omega
      have hne : (y0 == a && y1 == k) = false := by
        rw [Bool.and_eq_false_iff]
        by_cases e1 : y0 = a
        · right; exact beq_eq_false_iff_ne.2 fun e2 => HNO.out (by rw [← e1, ← e2]; exact List.mem_of_getElem? hy)
        · left; exact beq_eq_false_iff_ne.2 e1
      clear p1 p2 hy hc
      go_wp2
      go_quiet (fail)
      go_wp2
      go_roundw
      case rel => exact ⟨j + 1, by omega, by go_num, below_drewN hbel _, (show Loc2 _ _ _ _ from X.keep ((Keep.refl [] _).drewN _) (by simp))⟩
      case measure => simp [intOf]; omega
    · go_wp2
      go_ret
      exact ⟨rfl, hbel⟩
end Go.Proofs.YtcokmiidgdmdlaaGreatDoor
