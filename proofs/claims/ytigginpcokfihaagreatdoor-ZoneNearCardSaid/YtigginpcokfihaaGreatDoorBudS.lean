/- buddy.sorted by its contract: the blocks of a map, by where they begin. -/
import Derived.Test.YtigginpcokfihaaGreatDoorBudM
import Derived.Test.YtigginpcokfihaaGreatDoorSort
import Derived.Test.YtigginpcokfihaaGreatDoorCov
import Derived.BigQuiet
namespace Go.Proofs.YtigginpcokfihaaGreatDoor
open Go.RowKit Go.Maps
set_option linter.unusedSimpArgs false

/-- block b of w is a map of the program that reads as l -/
structure MapB (w : World) (b : Nat) (l : List (Int × Int)) : Prop where
  asc : Asc l
  own : w.ownsMap (H := Unit) Tryz.prog 3 (plainElem Tryz.prog 3) b l.length (toD l)
  few : l.length ≤ 256
  rng : ∀ p ∈ l, 0 ≤ p.1 ∧ p.1 < 256 ∧ 0 ≤ p.2 ∧ p.2 ≤ 6

theorem keyInt : Keyed Tryz.prog 3 := int_keyed Tryz.underlying3

theorem keys_sorted {l : List (Int × Int)} (h : Asc l) {ss : List Int} (hp : ss.Perm (l.map (·.1))) : ss.mergeSort (fun x y => decide (x ≤ y)) = l.map (·.1) := by
  have p1 : (ss.mergeSort (fun x y => decide (x ≤ y))).Perm (l.map (·.1)) := (List.mergeSort_perm _ _).trans hp
  have s1 : (ss.mergeSort (fun x y => decide (x ≤ y))).Pairwise (fun x y : Int => x ≤ y) := by
    have := List.pairwise_mergeSort (le := fun x y : Int => decide (x ≤ y)) (fun a b c h1 h2 => by simp at *; omega) (fun a b => by simp; omega) ss
    exact this.imp fun h => by simpa using h
  have s2 : (l.map (·.1)).Pairwise (fun x y : Int => x ≤ y) := by
    rw [List.pairwise_map]
    exact List.Pairwise.imp (fun h => by omega) h
  exact p1.eq_of_pairwise (fun a b _ _ h1 h2 => by omega) s1 s2

theorem zeroInt (w : World) : (zeroValue 3).run Tryz.prog w = .ok (.int .i64 0) w := by kernel_rfl
theorem wfInt {a : Int} (h0 : 0 ≤ a) (h1 : a < 256) : (Lit.int .i64 a).wf = true := by
  simp [Lit.wf, IntKind.min, IntKind.max, IntKind.signed, IntKind.bits]; omega

/-- the lookup of a key that is there -/
theorem look_in {w : World} {b : Nat} {l : List (Int × Int)} (h : MapB w b l) {a k : Int} (hak : (a, k) ∈ l) : (Instr.lookup 102 (.map (some b)) (.int .i64 a) false).run Tryz.prog w = .ok (.int .i64 k) w := by
  have hr := h.rng _ hak
  obtain ⟨c, hrun, hat, _⟩ := h.own.lookup_int keyInt Tryz.underlying102 Tryz.underlying3 (zeroInt w) (keyOf_int_mk Tryz.underlying3 (wfInt hr.1 hr.2.1))
  rw [toD_at, mem_getL h.asc hak] at hat
  simp at hat
  rw [hrun, hat]

theorem MapB.below {w w' : World} {n b : Nat} {l : List (Int × Int)} (h : MapB w b l) (hb : Below n w w') (hn : b < n) : MapB w' b l :=
  ⟨h.asc, by
    obtain ⟨es, clock, h1, h2, h3, h4⟩ := h.own
    exact ⟨es, clock, by rw [hb.block _ hn]; exact h1, h2, h3, h4⟩, h.few, h.rng⟩

theorem row_base {w : World} {base base' : Nat} {e : TypeId} {size : Nat} {v : Value} {n : Nat} {xs : List Value} (h : w.ownsRow base e size v n xs) (hb : base' ≤ base) : w.ownsRow base' e size v n xs := by
  refine ⟨h.1, ?_⟩
  rcases h.2 with hn | ⟨g, cap, cur, hv, hbg, rest⟩
  · exact .inl hn
  · exact .inr ⟨g, cap, cur, hv, by omega, rest⟩

set_option maxHeartbeats 2000000 in
set_option maxRecDepth 100000 in
theorem sorted_ok (b : Nat) (l : List (Int × Int)) (w : World) (hm : MapB w b l) :
    Calls Tryz.prog 56 #[.map (some b)] w fun e w' => ∃ v, e = .returned v ∧ OwnB w w' v l := by
  obtain ⟨i0, hi, hz0, hz1, hz2⟩ := info_parts infoB
  have hbl := hm.own.lt
  have hfew := hm.few
  have so := sorted_any b _ (toD l) _ w hm.own (by rw [toD_size]; unfold maxLen; omega) (by rw [toD_size]; omega)
  simp only [toD_keys] at so
  have SO := Lib.hid so
  have HM := Lib.hid hm
  clear so hm
  go_enter Tryz.func56, Tryz.ntmps56
  go_wp2_with fail
  refine (keys_any _ _).mono ?_
  rintro e w' ⟨rfl, rfl⟩
  go_wp2_with fail
  refine SO.out.mono ?_
  rintro e w1 ⟨v, ss, rfl, hp, hrow, hnil, hb1⟩
  rw [keys_sorted HM.out.asc hp, show ss.length = l.length from by rw [hp.length_eq]; simp] at hrow
  clear hnil hp SO
  have hb1' : Below w.heap.size w w1 := Below.trans (by exact (by repeat (first | exact Below.refl _ _ | refine Below.drew ?_ | refine below_drewN ?_ _ | refine Below.trans ?_ (Below.mono (by assumption) (by first | omega | (simp; omega) | (simp; done))) | refine Below.alloc ?_ (by first | omega | (simp; omega) | (simp; done)) _ | refine Below.setCell ?_ (by first | omega | (simp; omega) | (simp; done)) _))) (hb1.mono (by omega))
  have z1 := hb1'.size
  have hrow' := hrow
  obtain ⟨_, h2⟩ := hrow
  rcases h2 with ⟨rfl, h3⟩ | ⟨g, cap, cur, rfl, hg, hh, _⟩
  · have el : l = [] := by cases l with | nil => rfl | cons p r => simp at h3
    subst el
    go_wp2_with fail
    refine wp_loop_rounds 1 ?_
    rw [rounds_succ]
    go_wp2
    go_ret
    exact ⟨_, rfl, World.ownsRow_nil _ _ _ _, hb1'⟩
  · have hgl := (hrow'.lt g rfl)
    have C := Lib.hid hrow'
    clear hrow' hh
    obtain ⟨n, hn⟩ : ∃ n, n = l.length := ⟨_, rfl⟩
    rw [← hn] at hfew ⊢
    have HN := Lib.hid hn
    clear hn
    go_wp2_with fail
    go_loopw [3, 10] (fun v i wr => ∃ j : Nat, j ≤ n ∧ i = .int .i64 j ∧ wr.ownsRow w1.heap.size 39 2 v j (encB (l.take j)) ∧ Below w1.heap.size w1 wr) (fun _ i _ => n - (intOf i).toNat)
    case atStart => exact ⟨0, Nat.zero_le _, rfl, World.ownsRow_nil _ _ _ _, Below.refl _ _⟩
    case round =>
      obtain ⟨j, hj, rfl, hown, hbel⟩ := hrel
      by_cases hlt : j < n
      · have hjl : j < l.length := by rw [← HN.out]; exact hlt
        obtain ⟨p, hp⟩ : ∃ p, l[j]? = some p := ⟨l[j]'hjl, List.getElem?_eq_getElem _⟩
        obtain ⟨x, k⟩ := p
        have hmem : (x, k) ∈ l := List.mem_of_getElem? hp
        have hrg := HM.out.rng _ hmem
        have r1 : wr.cell? ⟨g, j, none⟩ = some (.int .i64 x) := by
          rw [hbel.cell (p := ⟨g, j, none⟩) hgl.2, C.out.cellAt j (by simp; omega)]
          simp [hp]
        have hbw : Below w.heap.size w wr := hb1'.trans (hbel.mono z1)
        have lk := look_in (HM.out.below hbw hbl) hmem
        have htk : encB (l.take (j + 1)) = encB (l.take j) ++ [.int .i64 x, .int .i64 k] := by
          rw [List.take_add_one, hp]
          exact encB_snoc _ _
        have TK := Lib.hid htk
        clear htk hp hmem hjl
        go_wp2_with (first | (at_builtin; refine wpList_append_own _ rfl _ _ 75 rfl w1.heap.size 39 i0 (.agg #[.int .i64 0, .int .i64 0]) 2 16 Tryz.underlying75 hi hz0 hz1 hz2 rfl (by decide) _ _ _ rfl (hown.alloc _) ⟨wr.heap.size, 0, none⟩ 1 1 [.int .i64 x, .int .i64 k] rfl rfl (new_two _ _ _ _) (one_two _ _) ?c3 ?c4 ?c5 ?_))
        case c3 => unfold maxLen; omega
        case c4 => omega
        case c5 => have := hbel.size; simp; omega
        intro v' w2 hown' hgrow _
        have hbel' : Below w1.heap.size w1 w2 := (hbel.alloc hbel.size _).grown hgrow (by have := hbel.size; simp; omega) (fun r hr => (hown.lt r hr).1)
        have OW := Lib.hid hown'
        clear hown' hgrow hown hbel
        go_wp2
        go_roundw
        case rel => exact ⟨j + 1, by omega, by go_num, by rw [TK.out]; exact (show w2.ownsRow _ _ _ _ _ _ by simpa using OW.out), hbel'⟩
        case measure => simp [intOf]; omega
      · have e : j = n := by omega
        subst e
        go_wp2
        go_ret
        exact ⟨_, rfl, by rw [HN.out, List.take_length] at hown; rw [HN.out]; exact row_base hown z1, hb1'.trans (hbel.mono z1)⟩
end Go.Proofs.YtigginpcokfihaaGreatDoor
