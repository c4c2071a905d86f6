/- Lemmas and contracts for the claim's last text: Bud. -/
import Derived.Maps.OwnSet
import Derived.Maps.Ext
import Derived.Lib.SlKeysI
import Derived.Shelf.SlIterI.Nil
import Derived.Shelf.SortM.Plain
import Derived.Shelf.SortM.SortNone
import Derived.BigQuiet
import Derived.LoopTactic
import Derived.Lib.SliceRun
import Derived.WalkSpells
import Derived.OwnWalk
import Derived.Maps.OwnOps
import Derived.Maps.RangeWalk
import Derived.Shelf.SlMaps.Clone
import Derived.Deep.RegionHeld3
import Derived.Test.YtcokmiidgdmdlaaGreatDoorMo01
import Derived.Test.YtcokmiidgdmdlaaGreatDoorMo02
namespace Go.Proofs.YtcokmiidgdmdlaaGreatDoor
open Go.Maps

/-- the datum of a sorted list -/
def toD {H : Type} (l : List (Int × Int)) : DataW H := .map (l.map fun p => (.int .i64 p.1, .lit (.int .i64 p.2)))

theorem same_key (a b : Int) : (Lit.int .i64 a).sameKey (.int .i64 b) = (a == b) := by
  simp only [Lit.sameKey]
  by_cases h : a = b <;> simp [h]
theorem toD_size {H : Type} (l : List (Int × Int)) : size (toD l : DataW H) = l.length := by simp [toD, size]
theorem toD_del {H : Type} (l : List (Int × Int)) (a : Int) : (toD l : DataW H).del (.int .i64 a) = toD (delL a l) := by
  simp only [toD, DataW.del, delL, List.filter_map, DataW.map.injEq]
  congr 1
  refine List.filter_congr fun p _ => ?_
  simp only [Function.comp, same_key]
  rfl
theorem toD_has {H : Type} (l : List (Int × Int)) (a : Int) : has (toD l : DataW H) (.int .i64 a) = (getL l a).isSome := by
  induction l with
  | nil => rfl
  | cons p r ih =>
    simp only [toD, has_eq, List.map_cons, List.any_cons, same_key] at ih ⊢
    rw [ih, getL_cons]
    by_cases h : p.1 = a <;> simp [h]
theorem toD_at {H : Type} (l : List (Int × Int)) (a : Int) (z : DataW H) : (toD l : DataW H).atKey (.int .i64 a) z = match getL l a with | some k => .lit (.int .i64 k) | none => z := by
  induction l with
  | nil => rfl
  | cons p r ih =>
    simp only [toD, DataW.atKey, List.map_cons, List.find?_cons, same_key] at ih ⊢
    rw [getL_cons]
    by_cases h : p.1 = a
    · simp [h]
    · have hf : (p.1 == a) = false := by simpa using h
      simp only [hf, if_neg h]
      exact ih
theorem del_absent {l : List (Int × Int)} {a : Int} (h : ∀ p ∈ l, p.1 ≠ a) : delL a l = l := List.filter_eq_self.2 fun p hp => by simpa using h p hp
theorem insert_put {H : Type} : ∀ {l : List (Int × Int)} (a k : Int), Asc l →
    DataW.insert (.int .i64 a, (.lit (.int .i64 k) : DataW H)) ((delL a l).map fun p => (.int .i64 p.1, .lit (.int .i64 p.2))) = (putL a k l).map fun p => (.int .i64 p.1, .lit (.int .i64 p.2))
  | [], a, k, _ => rfl
  | p :: r, a, k, h => by
    obtain ⟨h1, h2⟩ := List.pairwise_cons.1 h
    unfold putL
    by_cases c1 : a < p.1
    · rw [if_pos c1, del_absent (fun q hq => by rcases List.mem_cons.1 hq with rfl | hq; (· omega); (· have := h1 q hq; omega))]
      simp [DataW.insert, Lit.before, c1]
    · rw [if_neg c1]
      by_cases c2 : a = p.1
      · rw [if_pos c2]
        have e : delL a (p :: r) = r := by
          have : delL a (p :: r) = delL a r := by simp [delL, c2]
          rw [this, del_absent (fun q hq => by have := h1 q hq; omega)]
        rw [e]
        cases r with
        | nil => rfl
        | cons q s =>
          have := h1 q (by simp)
          have c3 : a < q.1 := by omega
          simp [DataW.insert, Lit.before, c3]
      · rw [if_neg c2]
        have e : delL a (p :: r) = p :: delL a r := by
          have : ¬ p.1 = a := fun x => c2 x.symm
          simp [delL, this]
        rw [e]
        simp only [List.map_cons, DataW.insert, Lit.before, c1, decide_false, Bool.false_eq_true, if_false]
        rw [insert_put a k h2]
theorem toD_put {H : Type} {l : List (Int × Int)} (h : Asc l) (a k : Int) : (toD l : DataW H).put (.int .i64 a) (.lit (.int .i64 k)) = toD (putL a k l) := by
  have e := toD_del (H := H) l a
  simp only [toD, DataW.del, DataW.map.injEq] at e
  simp only [toD, DataW.put, DataW.map.injEq]
  rw [e]
  exact insert_put a k h
theorem toD_keys {H : Type} (l : List (Int × Int)) : Go.intKeys (toD l : DataW H) = l.map (·.1) := by
  simp [toD, Go.intKeys, Go.intOf]
end Go.Proofs.YtcokmiidgdmdlaaGreatDoor

namespace Go.Proofs
open Go.RowKit Go.Maps Go.Sort Go.Shelf


theorem Tryz.sortsA (m : Nat) : AnyZI.SortsIn Tryz.prog Tryz.sortedA_ren Fence.wide m :=
  ⟨fun blk off cap ss W hH hblk hsz => callsIn_wide.2 (AnyM.slices_Sort_int Tryz.sortA blk off cap ss W hH hblk hsz),
   fun p cap W => callsIn_wide.2 (AnyM.slices_Sort_int_none Tryz.sortA p cap W)⟩

namespace YtcokmiidgdmdlaaGreatDoor
theorem keys_any (mb : Option Nat) (W : World) : Calls Tryz.prog 146 #[.map mb] W fun e w' => e = .returned (.func (.func 166) #[] #[.pointer (some ⟨W.heap.size, 0, none⟩)]) ∧ w' = W.alloc (.cells #[.map mb] 181) :=
  (callsIn_wide (n := 5)).1 (AnyZI.keys_in Tryz.keysA Fence.wide 5 trivial rfl mb W)

theorem sorted_any {H : Type} (b nn : Nat) (D0 : DataW H) (R : Value → Option (DataW H × List MemPlace)) (w : World) (hown : w.ownsMap Tryz.prog 3 R b nn D0) (hmax : Maps.size D0 ≤ maxLen) (hbytes : Maps.size D0 * 8 ≤ 140737488355328) :
    Calls Tryz.prog 145 #[.func (.func 166) #[] #[.pointer (some ⟨w.heap.size, 0, none⟩)]] (w.alloc (.cells #[.map (some b)] 181)) fun e w' => ∃ (v : Value) (ss : List Int), e = .returned v ∧ ss.Perm (intKeys D0) ∧
      w'.ownsRow (w.heap.size + 1) 3 1 v ss.length ((ss.mergeSort (fun x y => decide (x ≤ y))).map encZ) ∧ (v = .slice none 0 0 ↔ ss = []) ∧ Below (w.heap.size + 1) (w.alloc (.cells #[.map (some b)] 181)) w' := by
  have hbl := hown.lt
  have hseq : SeqGives Fence.wide 2 Tryz.prog 166 #[.pointer (some ⟨w.heap.size, 0, none⟩)] encZ (fun ss => ss.Perm (intKeys D0)) (Maps.size D0) (w.alloc (.cells #[.map (some b)] 181)) :=
    AnyZI.keys_gives (ρ := Tryz.keysA_ren) { Tryz.keysA with } Fence.wide _ trivial rfl (by omega) w.heap.size b nn D0 _ (by simp) (by simp) (by
      obtain ⟨es, clock, hb, Ft, hs, hD⟩ := hown
      exact ⟨es, clock, (Below.heap_alloc _ _ b hbl).trans hb, Ft, hs, hD⟩)
  have cS := AnyZI.sorted_in Tryz.sortedA Fence.wide 5 trivial trivial trivial trivial rfl (by omega) (Tryz.sortsA _) (enters_of Tryz.func165 (by kernel_rfl) rfl) 166 #[.pointer (some ⟨w.heap.size, 0, none⟩)] trivial (enters_of Tryz.func166 (by kernel_rfl) rfl) _ _ hmax hbytes _ hseq
  change CallsIn _ _ Tryz.prog 145 _ _ _ at cS
  refine ((callsIn_wide (n := 5)).1 cS).mono ?_
  rintro e w' ⟨v, ss, rfl, hS, hrow, hnil, hb⟩
  rw [World.size_alloc] at hrow hb
  exact ⟨v, ss, rfl, hS, hrow, hnil, hb⟩
end YtcokmiidgdmdlaaGreatDoor
end Go.Proofs

namespace Go.Proofs.YtcokmiidgdmdlaaGreatDoor
open Go.RowKit Go.Maps
set_option linter.unusedSimpArgs false

/-- block b of w is a map of the program that reads as l -/
structure MapB (w : World) (b : Nat) (l : List (Int × Int)) : Prop where
  asc : Asc l
  own : w.ownsMap (H := Unit) Tryz.prog 3 (plainElem Tryz.prog 3) b l.length (toD l)
  few : l.length ≤ 256
  rng : ∀ p ∈ l, 0 ≤ p.1 ∧ p.1 < 256 ∧ 0 ≤ p.2 ∧ p.2 ≤ 6

theorem keyInt : Keyed Tryz.prog 3 := int_keyed Tryz.underlying3

theorem keys_sorted {l : List (Int × Int)} (h : Asc l) {ss : List Int} (hp : ss.Perm (l.map (·.1))) : ss.mergeSort (fun x y => decide (x ≤ y)) = l.map (·.1) := by
  have p1 : (ss.mergeSort (fun x y => decide (x ≤ y))).Perm (l.map (·.1)) := (List.mergeSort_perm _ _).trans hp
  have s1 : (ss.mergeSort (fun x y => decide (x ≤ y))).Pairwise (fun x y : Int => x ≤ y) := by
    have := List.pairwise_mergeSort (le := fun x y : Int => decide (x ≤ y)) (fun a b c h1 h2 => by simp at *; omega) (fun a b => by simp; omega) ss
    exact this.imp fun h => by simpa using h
  have s2 : (l.map (·.1)).Pairwise (fun x y : Int => x ≤ y) := by
    rw [List.pairwise_map]
    exact List.Pairwise.imp (fun h => by omega) h
  exact p1.eq_of_pairwise (fun a b _ _ h1 h2 => by omega) s1 s2

theorem zeroInt (w : World) : (zeroValue 3).run Tryz.prog w = .ok (.int .i64 0) w := by kernel_rfl
theorem wfInt {a : Int} (h0 : 0 ≤ a) (h1 : a < 256) : (Lit.int .i64 a).wf = true := by
  simp [Lit.wf, IntKind.min, IntKind.max, IntKind.signed, IntKind.bits]; omega

theorem look_in {w : World} {b : Nat} {l : List (Int × Int)} (h : MapB w b l) {a k : Int} (hak : (a, k) ∈ l) : (Instr.lookup 181 (.map (some b)) (.int .i64 a) false).run Tryz.prog w = .ok (.int .i64 k) w := by
  have hr := h.rng _ hak
  obtain ⟨c, hrun, hat, _⟩ := h.own.lookup_int keyInt Tryz.underlying181 Tryz.underlying3 (zeroInt w) (keyOf_int_mk Tryz.underlying3 (wfInt hr.1 hr.2.1))
  rw [toD_at, mem_getL h.asc hak] at hat
  simp at hat
  rw [hrun, hat]

theorem MapB.below {w w' : World} {n b : Nat} {l : List (Int × Int)} (h : MapB w b l) (hb : Below n w w') (hn : b < n) : MapB w' b l :=
  ⟨h.asc, by
    obtain ⟨es, clock, h1, h2, h3, h4⟩ := h.own
    exact ⟨es, clock, by rw [hb.block _ hn]; exact h1, h2, h3, h4⟩, h.few, h.rng⟩

theorem row_base {w : World} {base base' : Nat} {e : TypeId} {size : Nat} {v : Value} {n : Nat} {xs : List Value} (h : w.ownsRow base e size v n xs) (hb : base' ≤ base) : w.ownsRow base' e size v n xs := by
  refine ⟨h.1, ?_⟩
  rcases h.2 with hn | ⟨g, cap, cur, hv, hbg, rest⟩
  · exact .inl hn
  · exact .inr ⟨g, cap, cur, hv, by omega, rest⟩

set_option maxHeartbeats 2000000 in
set_option maxRecDepth 100000 in
theorem sorted_ok (b : Nat) (l : List (Int × Int)) (w : World) (hm : MapB w b l) :
    Calls Tryz.prog 109 #[.map (some b)] w fun e w' => ∃ v, e = .returned v ∧ OwnB w w' v l := by
  obtain ⟨i0, hi, hz0, hz1, hz2⟩ := info_parts infoB
  have hbl := hm.own.lt
  have hfew := hm.few
  have so := sorted_any b _ (toD l) _ w hm.own (by rw [toD_size]; unfold maxLen; omega) (by rw [toD_size]; omega)
  simp only [toD_keys] at so
  have SO := Lib.hid so
  have HM := Lib.hid hm
  clear so hm
  go_enter Tryz.func109, Tryz.ntmps109
  go_wp2_with fail
  refine (keys_any _ _).mono ?_
  rintro e w' ⟨rfl, rfl⟩
  go_wp2_with fail
  refine SO.out.mono ?_
  rintro e w1 ⟨v, ss, rfl, hp, hrow, hnil, hb1⟩
  rw [keys_sorted HM.out.asc hp, show ss.length = l.length from by rw [hp.length_eq]; simp] at hrow
  clear hnil hp SO
  have hb1' : Below w.heap.size w w1 := Below.trans (by exact (by repeat (first | exact Below.refl _ _ | refine Below.drew ?_ | refine below_drewN ?_ _ | refine Below.trans ?_ (Below.mono (by assumption) (by first | omega | (simp; omega) | (simp; done))) | refine Below.alloc ?_ (by first | omega | (simp; omega) | (simp; done)) _ | refine Below.setCell ?_ (by first | omega | (simp; omega) | (simp; done)) _))) (hb1.mono (by omega))
  have z1 := hb1'.size
  have hrow' := hrow
  obtain ⟨_, h2⟩ := hrow
  rcases h2 with ⟨rfl, h3⟩ | ⟨g, cap, cur, rfl, hg, hh, _⟩
  · have el : l = [] := by cases l with | nil => rfl | cons p r => simp at h3
    subst el
    go_wp2_with fail
    refine wp_loop_rounds 1 ?_
    rw [rounds_succ]
    go_wp2
    go_ret
    exact ⟨_, rfl, World.ownsRow_nil _ _ _ _, hb1'⟩
  · have hgl := (hrow'.lt g rfl)
    have C := Lib.hid hrow'
    clear hrow' hh
    obtain ⟨n, hn⟩ : ∃ n, n = l.length := ⟨_, rfl⟩
    rw [← hn] at hfew ⊢
    have HN := Lib.hid hn
    clear hn
    go_wp2_with fail
    go_loopw [3, 10] (fun v i wr => ∃ j : Nat, j ≤ n ∧ i = .int .i64 j ∧ wr.ownsRow w1.heap.size 39 2 v j (encB (l.take j)) ∧ Below w1.heap.size w1 wr) (fun _ i _ => n - (intOf i).toNat)
    case atStart => exact ⟨0, Nat.zero_le _, rfl, World.ownsRow_nil _ _ _ _, Below.refl _ _⟩
    case round =>
      obtain ⟨j, hj, rfl, hown, hbel⟩ := hrel
      by_cases hlt : j < n
      · have hjl : j < l.length := by rw [← HN.out]; exact hlt
        obtain ⟨p, hp⟩ : ∃ p, l[j]? = some p := ⟨l[j]'hjl, List.getElem?_eq_getElem _⟩
        obtain ⟨x, k⟩ := p
        have hmem : (x, k) ∈ l := List.mem_of_getElem? hp
        have hrg := HM.out.rng _ hmem
        have r1 : wr.cell? ⟨g, j, none⟩ = some (.int .i64 x) := by
          rw [hbel.cell (p := ⟨g, j, none⟩) hgl.2, C.out.cellAt j (by simp; omega)]
          simp [hp]
        have hbw : Below w.heap.size w wr := hb1'.trans (hbel.mono z1)
        have lk := look_in (HM.out.below hbw hbl) hmem
        have htk : encB (l.take (j + 1)) = encB (l.take j) ++ [.int .i64 x, .int .i64 k] := by
          rw [List.take_add_one, hp]
          exact encB_snoc _ _
        have TK := Lib.hid htk
        clear htk hp hmem hjl
        go_wp2_with (first | (at_builtin; refine wpList_append_own _ rfl _ _ 126 rfl w1.heap.size 39 i0 (.agg #[.int .i64 0, .int .i64 0]) 2 16 Tryz.underlying126 hi hz0 hz1 hz2 rfl (by decide) _ _ _ rfl (hown.alloc _) ⟨wr.heap.size, 0, none⟩ 1 1 [.int .i64 x, .int .i64 k] rfl rfl (new_two _ _ _ _) (one_two _ _) ?c3 ?c4 ?c5 ?_))
        case c3 => unfold maxLen; omega
        case c4 => omega
        case c5 => have := hbel.size; simp; omega
        intro v' w2 hown' hgrow _
        have hbel' : Below w1.heap.size w1 w2 := (hbel.alloc hbel.size _).grown hgrow (by have := hbel.size; simp; omega) (fun r hr => (hown.lt r hr).1)
        have OW := Lib.hid hown'
        clear hown' hgrow hown hbel
        go_wp2
        go_roundw
        case rel => exact ⟨j + 1, by omega, by go_num, by rw [TK.out]; exact (show w2.ownsRow _ _ _ _ _ _ by simpa using OW.out), hbel'⟩
        case measure => simp [intOf]; omega
      · have e : j = n := by omega
        subst e
        go_wp2
        go_ret
        exact ⟨_, rfl, by rw [HN.out, List.take_length] at hown; rw [HN.out]; exact row_base hown z1, hb1'.trans (hbel.mono z1)⟩
end Go.Proofs.YtcokmiidgdmdlaaGreatDoor

namespace Go.Proofs.YtcokmiidgdmdlaaGreatDoor
open Go.RowKit Go.Maps
set_option linter.unusedSimpArgs false

/-- block pb of w is a Buddy: its pages, its two maps -/
structure Bud (w : World) (pb : Nat) (n : Int) (bf bt : Nat) (F T : List (Int × Int)) : Prop where
  c0 : w.cell? ⟨pb, 0, none⟩ = some (.int .i64 n)
  c1 : w.cell? ⟨pb, 1, none⟩ = some (.map (some bf))
  c2 : w.cell? ⟨pb, 2, none⟩ = some (.map (some bt))
  free : MapB w bf F
  taken : MapB w bt T
  ne : bf ≠ bt ∧ pb ≠ bf ∧ pb ≠ bt

theorem free_ok (pb : Nat) (n : Int) (bf bt : Nat) (F T : List (Int × Int)) (w : World) (h : Bud w pb n bf bt F T) :
    Calls Tryz.prog 62 #[.pointer (some ⟨pb, 0, none⟩)] w fun e w' => ∃ v, e = .returned v ∧ OwnB w w' v F := by
  have c1 := h.c1
  have SO := Lib.hid (sorted_ok bf F w h.free)
  clear h
  go_enter Tryz.func62, Tryz.ntmps62
  go_wp2_with fail
  refine SO.out.mono ?_
  rintro e w' ⟨v, rfl, ho⟩
  go_wp2
  go_ret
  exact ⟨_, rfl, ho⟩
/-- is it one of those that are taken? -/
def hasL (T : List (Int × Int)) (a k : Int) : Bool := getL T a == some k
end Go.Proofs.YtcokmiidgdmdlaaGreatDoor

namespace Go.Proofs.YtcokmiidgdmdlaaGreatDoor
open Go.RowKit Go.Maps
set_option linter.unusedSimpArgs false

theorem insert_length {H : Type} (x : Lit × DataW H) : ∀ l : List (Lit × DataW H), (DataW.insert x l).length = l.length + 1
  | [] => rfl
  | y :: r => by
    unfold DataW.insert
    split
    · simp
    · simp [insert_length x r]
theorem foldr_length {H : Type} : ∀ l : List (Lit × DataW H), (l.foldr DataW.insert []).length = l.length
  | [] => rfl
  | x :: r => by simp [insert_length, foldr_length r]
theorem own_tight {w : World} {b n : Nat} {k : TypeId} {R : Value → Option (DataW Unit × List MemPlace)} {l : List (Int × Int)} (h : w.ownsMap Tryz.prog k R b n (toD l)) : w.ownsMap Tryz.prog k R b l.length (toD l) := by
  obtain ⟨es, clock, hb, F, _, hD⟩ := h
  refine ⟨es, clock, hb, F, ?_, hD⟩
  have := congrArg size hD
  rw [toD_size, size_eq, foldr_length] at this
  simp at this
  omega
theorem MapB.put {w : World} {b : Nat} {l : List (Int × Int)} (h : MapB w b l) {a k : Int} (hr : 0 ≤ a ∧ a < 256 ∧ 0 ≤ k ∧ k ≤ 6) (hf : (putL a k l).length ≤ 256) :
    ∃ w', (Instr.mapUpdate 181 (.map (some b)) (.int .i64 a) (.int .i64 k)).run Tryz.prog w = .ok () w' ∧ MapB w' b (putL a k l) ∧ w.grownBy w' (some b) := by
  obtain ⟨w', hrun, hown, hg⟩ := h.own.update keyInt Tryz.underlying181 (by have := h.few; unfold maxLen; omega) (keyOf_int_mk Tryz.underlying3 (wfInt hr.1 hr.2.1)) (plainElem_int Tryz.underlying3 (wfInt hr.2.2.1 (by omega)))
  rw [toD_put h.asc] at hown
  refine ⟨w', hrun, ⟨h.asc.put a k, own_tight hown, hf, fun p hp => ?_⟩, hg⟩
  rcases putL_mem hp with rfl | hp
  · exact hr
  · exact h.rng p hp

theorem MapB.drop {w : World} {b : Nat} {l : List (Int × Int)} (h : MapB w b l) {a : Int} (ha : (Lit.int .i64 a).wf = true) (ty : TypeId) :
    ∃ w', (Builtin.delete_ #[181, 3] ty #[.map (some b), .int .i64 a]).run Tryz.prog w = .ok (.tuple #[]) w' ∧ MapB w' b (delL a l) ∧ w.mapTurned w' b := by
  obtain ⟨w', hrun, hown, hg⟩ := h.own.drop keyInt Tryz.underlying181 (keyOf_int_mk Tryz.underlying3 ha) ty
  rw [toD_del] at hown
  have hle : (delL a l).length ≤ l.length := List.length_filter_le _ _
  exact ⟨w', hrun, ⟨h.asc.del a, own_tight hown, Nat.le_trans hle h.few, fun p hp => h.rng p (mem_delL.1 hp).1⟩, hg⟩
end Go.Proofs.YtcokmiidgdmdlaaGreatDoor

namespace Go.Proofs.YtcokmiidgdmdlaaGreatDoor
open Go.RowKit
set_option linter.unusedSimpArgs false

/-- cmp.Compare at int -/
def cmpI (a b : Int) : Int := if a < b then -1 else if b < a then 1 else 0
set_option maxHeartbeats 400000 in
theorem isNaN_int (a : Int) (w : World) : Calls Tryz.prog 118 #[.int .i64 a] w fun e w' => e = .returned (.bool false) ∧ w = w' := by
  go_enter Tryz.func118, Tryz.ntmps118
  go_wp2
  go_ret
  exact ⟨by simp, rfl⟩
set_option maxHeartbeats 400000 in
theorem compare_int (a b : Int) (w : World) : Calls Tryz.prog 68 #[.int .i64 a, .int .i64 b] w fun e w' => e = .returned (.int .i64 (cmpI a b)) ∧ w = w' := by
  unfold cmpI
  by_cases h1 : a < b
  · rw [if_pos h1]
    go_enter Tryz.func68, Tryz.ntmps68
    go_wp2_with (go_at_call 118; refine (isNaN_int _ _).mono ?_; rintro e w' ⟨rfl, rfl⟩)
    go_ret
    exact ⟨rfl, rfl⟩
  · rw [if_neg h1]
    by_cases h2 : b < a
    · rw [if_pos h2]
      go_enter Tryz.func68, Tryz.ntmps68
      go_wp2_with (go_at_call 118; refine (isNaN_int _ _).mono ?_; rintro e w' ⟨rfl, rfl⟩)
      go_ret
      exact ⟨rfl, rfl⟩
    · rw [if_neg h2]
      go_enter Tryz.func68, Tryz.ntmps68
      go_wp2_with (go_at_call 118; refine (isNaN_int _ _).mono ?_; rintro e w' ⟨rfl, rfl⟩)
      go_ret
      exact ⟨rfl, rfl⟩

theorem small_any (a k o : Int) (c : Nat) (w : World) (hc : w.cell? ⟨c, 0, none⟩ = some (.int .i64 o)) (hl : c < w.heap.size) :
    Calls Tryz.prog 110 #[.agg #[.int .i64 a, .int .i64 k], .pointer (some ⟨c, 0, none⟩)] w fun e w' => e = .returned (.bool (decide (k < o))) ∧ Below w.heap.size w w' := by
  go_enter Tryz.func110, Tryz.ntmps110
  go_wp2
  go_ret
  exact ⟨rfl, (by repeat (first | exact Below.refl _ _ | refine Below.drew ?_ | refine below_drewN ?_ _ | refine Below.trans ?_ (Below.mono (by assumption) (by first | omega | (simp; omega) | (simp; done))) | refine Below.alloc ?_ (by first | omega | (simp; omega) | (simp; done)) _ | refine Below.setCell ?_ (by first | omega | (simp; omega) | (simp; done)) _))⟩

theorem lower_any (a k b m : Int) (w : World) :
    Calls Tryz.prog 112 #[.agg #[.int .i64 a, .int .i64 k], .agg #[.int .i64 b, .int .i64 m]] w fun e w' => e = .returned (.int .i64 (cmpI k m)) ∧ Below w.heap.size w w' := by
  go_enter Tryz.func112, Tryz.ntmps112
  go_wp2_with (go_at_call 68; refine (compare_int _ _ _).mono ?_; rintro e w' ⟨rfl, rfl⟩)
  go_ret
  exact ⟨rfl, (by repeat (first | exact Below.refl _ _ | refine Below.drew ?_ | refine below_drewN ?_ _ | refine Below.trans ?_ (Below.mono (by assumption) (by first | omega | (simp; omega) | (simp; done))) | refine Below.alloc ?_ (by first | omega | (simp; omega) | (simp; done)) _ | refine Below.setCell ?_ (by first | omega | (simp; omega) | (simp; done)) _))⟩

def clos (c : Nat) : Value := .func (.func 110) #[] #[.pointer (some ⟨c, 0, none⟩)]

set_option maxHeartbeats 1000000 in
theorem idx_some (g cap c i : Nat) (o : Int) (F : List (Int × Int)) (z : Int × Int) (w : World) (hF : Row2 w g F) (hg : g < w.heap.size) (hl : F.length ≤ 256) (hc : w.cell? ⟨c, 0, none⟩ = some (.int .i64 o)) (hcl : c < w.heap.size)
    (hz : F[i]? = some z) (hp : z.2 < o) (hall : ∀ x ∈ F.take i, ¬ x.2 < o) :
    Calls Tryz.prog 114 #[.slice (some ⟨g, 0, none⟩) F.length cap, clos c] w fun e w' => e = .returned (.int .i64 i) ∧ Below w.heap.size w w' := by
  have hil := (List.getElem?_eq_some_iff.1 hz).1
  have HF := Lib.hid hF; have HZ := Lib.hid hz; have HA := Lib.hid hall; have HP := Lib.hid hp
  clear hF hz hall hp
  obtain ⟨n, hn⟩ : ∃ n, n = F.length := ⟨_, rfl⟩
  rw [← hn] at hl hil ⊢
  have HN := Lib.hid hn
  clear hn
  unfold clos
  go_enter Tryz.func114, Tryz.ntmps114
  go_wp2_with fail
  go_loopw [5, 8] (fun _ iv wr => ∃ j : Nat, j ≤ i ∧ iv = .int .i64 j ∧ Below w.heap.size w wr) (fun _ iv _ => n - (intOf iv).toNat)
  case atStart => exact ⟨0, Nat.zero_le _, rfl, Below.refl _ _⟩
  case round =>
    obtain ⟨j, hj, rfl, hbel⟩ := hrel
    have hjn : j < n := by omega
    obtain ⟨y, hy⟩ : ∃ y, F[j]? = some y := ⟨F[j]'(by rw [← HN.out]; exact hjn), List.getElem?_eq_getElem _⟩
    obtain ⟨x, k⟩ := y
    obtain ⟨⟨p1, p2⟩, _, _⟩ := HF.out j x k hy
    have r1 : wr.cell? ⟨g, j * 2, none⟩ = some (.int .i64 x) := (hbel.cell (p := ⟨g, j * 2, none⟩) hg).trans p1
    have r2 : wr.cell? ⟨g, j * 2 + 1, none⟩ = some (.int .i64 k) := (hbel.cell (p := ⟨g, j * 2 + 1, none⟩) hg).trans p2
    have rc : wr.cell? ⟨c, 0, none⟩ = some (.int .i64 o) := (hbel.cell (p := ⟨c, 0, none⟩) hcl).trans hc
    have zr := hbel.size
    by_cases e : j = i
    · subst e
      have hk : decide (k < o) = true := decide_eq_true (by have := HP.out; have e2 := Option.some.inj (hy.symm.trans HZ.out); rw [← e2] at this; exact this)
      clear p1 p2 hy
      go_wp2_with fail
      refine (small_any _ _ _ _ _ rc (by omega)).mono ?_
      rw [hk]
      rintro e w1 ⟨rfl, hb1⟩
      go_wp2
      go_ret
      exact ⟨rfl, (by repeat (first | exact Below.refl _ _ | refine Below.drew ?_ | refine below_drewN ?_ _ | refine Below.trans ?_ (Below.mono (by assumption) (by first | omega | (simp; omega) | (simp; done))) | refine Below.alloc ?_ (by first | omega | (simp; omega) | (simp; done)) _ | refine Below.setCell ?_ (by first | omega | (simp; omega) | (simp; done)) _))⟩
    · have hk : decide (k < o) = false := decide_eq_false (by have := HA.out (x, k) (List.mem_of_getElem? (i := j) (by rw [List.getElem?_take_of_lt (by omega)]; exact hy)); simp only at this; omega)
      clear p1 p2 hy
      go_wp2_with fail
      refine (small_any _ _ _ _ _ rc (by omega)).mono ?_
      rw [hk]
      rintro e w1 ⟨rfl, hb1⟩
      go_wp2
      go_roundw
      case rel => exact ⟨j + 1, by omega, by go_num, hbel.trans (hb1.mono zr)⟩
      case measure => simp [intOf]; omega

set_option maxHeartbeats 1000000 in
theorem idx_none (g cap c : Nat) (o : Int) (F : List (Int × Int)) (w : World) (hF : Row2 w g F) (hg : g < w.heap.size) (hl : F.length ≤ 256) (hc : w.cell? ⟨c, 0, none⟩ = some (.int .i64 o)) (hcl : c < w.heap.size)
    (hall : ∀ x ∈ F, ¬ x.2 < o) :
    Calls Tryz.prog 114 #[.slice (some ⟨g, 0, none⟩) F.length cap, clos c] w fun e w' => e = .returned (.int .i64 (-1)) ∧ Below w.heap.size w w' := by
  have HF := Lib.hid hF; have HA := Lib.hid hall
  clear hF hall
  obtain ⟨n, hn⟩ : ∃ n, n = F.length := ⟨_, rfl⟩
  rw [← hn] at hl ⊢
  have HN := Lib.hid hn
  clear hn
  unfold clos
  go_enter Tryz.func114, Tryz.ntmps114
  go_wp2_with fail
  go_loopw [5, 8] (fun _ iv wr => ∃ j : Nat, j ≤ n ∧ iv = .int .i64 j ∧ Below w.heap.size w wr) (fun _ iv _ => n - (intOf iv).toNat)
  case atStart => exact ⟨0, Nat.zero_le _, rfl, Below.refl _ _⟩
  case round =>
    obtain ⟨j, hj, rfl, hbel⟩ := hrel
    by_cases hjn : j < n
    · obtain ⟨y, hy⟩ : ∃ y, F[j]? = some y := ⟨F[j]'(by rw [← HN.out]; exact hjn), List.getElem?_eq_getElem _⟩
      obtain ⟨x, k⟩ := y
      obtain ⟨⟨p1, p2⟩, _, _⟩ := HF.out j x k hy
      have r1 : wr.cell? ⟨g, j * 2, none⟩ = some (.int .i64 x) := (hbel.cell (p := ⟨g, j * 2, none⟩) hg).trans p1
      have r2 : wr.cell? ⟨g, j * 2 + 1, none⟩ = some (.int .i64 k) := (hbel.cell (p := ⟨g, j * 2 + 1, none⟩) hg).trans p2
      have rc : wr.cell? ⟨c, 0, none⟩ = some (.int .i64 o) := (hbel.cell (p := ⟨c, 0, none⟩) hcl).trans hc
      have zr := hbel.size
      have hk : decide (k < o) = false := decide_eq_false (by have := HA.out (x, k) (List.mem_of_getElem? hy); simp only at this; omega)
      clear p1 p2 hy
      go_wp2_with fail
      refine (small_any _ _ _ _ _ rc (by omega)).mono ?_
      rw [hk]
      rintro e w1 ⟨rfl, hb1⟩
      go_wp2
      go_roundw
      case rel => exact ⟨j + 1, by omega, by go_num, hbel.trans (hb1.mono zr)⟩
      case measure => simp [intOf]; omega
    · go_wp2
      go_ret
      exact ⟨rfl, hbel⟩
end Go.Proofs.YtcokmiidgdmdlaaGreatDoor

namespace Go.Proofs.YtcokmiidgdmdlaaGreatDoor
open Go.RowKit
set_option linter.unusedSimpArgs false

theorem fitL_all {o : Int} {F : List (Int × Int)} (h : ∀ x ∈ F, ¬ x.2 < o) : fitL o F = F := List.filter_eq_self.2 fun x hx => by simp; have := h x hx; omega
theorem first_small (o : Int) : ∀ F : List (Int × Int), (∀ x ∈ F, ¬ x.2 < o) ∨ ∃ i z, F[i]? = some z ∧ z.2 < o ∧ ∀ x ∈ F.take i, ¬ x.2 < o
  | [] => .inl fun x h => by cases h
  | y :: r => by
    by_cases h : y.2 < o
    · exact .inr ⟨0, y, rfl, h, fun x hx => by simp at hx⟩
    · rcases first_small o r with h1 | ⟨i, z, h1, h2, h3⟩
      · refine .inl fun x hx => ?_
        rcases List.mem_cons.1 hx with rfl | hx
        · exact h
        · exact h1 x hx
      · refine .inr ⟨i + 1, z, by simpa using h1, h2, fun x hx => ?_⟩
        rw [List.take_succ_cons] at hx
        rcases List.mem_cons.1 hx with rfl | hx
        · exact h
        · exact h3 x hx
theorem zeroB : ∀ w : World, (zeroValue 39).run Tryz.prog w = .ok (.agg #[.int .i64 0, .int .i64 0]) w := fun _ => by kernel_rfl

def zs2 (n : Nat) : List Value := (Builtin.zeroCells #[.int .i64 0, .int .i64 0] n).toList
theorem zs2_length (n : Nat) : (zs2 n).length = n * 2 := by simp [zs2, Builtin.zeroCells]
theorem zs2_one (n : Nat) : ∀ v ∈ zs2 n, v.oneCell' = true := by
  intro v hv
  simp only [zs2, Builtin.zeroCells, Array.toList_map, List.mem_map] at hv
  obtain ⟨i, _, rfl⟩ := hv
  have : i % 2 = 0 ∨ i % 2 = 1 := by omega
  rcases this with e | e <;> simp [e] <;> rfl
theorem run_clear2 (w : World) (ty : TypeId) (b o n c : Nat) (hn : 0 < n) (hc : ∀ j, j < n * 2 → (w.cell? ⟨b, o + j, none⟩).isSome = true) (hf : ∀ j, j < n * 2 → w.frozen? ⟨b, o + j, none⟩ = false) :
    (Builtin.clear_ #[126] ty #[.slice (some ⟨b, o, none⟩) n c]).run Tryz.prog w = .ok (.tuple #[]) (w.setCells b o (zs2 n)) := by
  have hst := run_storeCells_cells (P := Tryz.prog) b o (zs2 n) 0 w (by rw [zs2_length]; simpa using hc) (by rw [zs2_length]; simpa using hf) (zs2_one n)
  simp only [Nat.add_zero] at hst
  obtain ⟨m, rfl⟩ : ∃ m, n = m + 1 := ⟨n - 1, by omega⟩
  have hz : (Value.agg #[.int .i64 0, .int .i64 0]).cells = #[.int .i64 0, .int .i64 0] := rfl
  simp [Builtin.clear_, run_underlying Tryz.underlying126, zeroB, hz]
  rw [show (Builtin.zeroCells #[.int .i64 0, .int .i64 0] (m + 1)).toList = zs2 (m + 1) from rfl, hst]
  rfl
theorem Row2.cells {w : World} {g : Nat} {l : List (Int × Int)} (h : Row2 w g l) {o : Nat} (ho : o < l.length * 2) : (w.cell? ⟨g, o, none⟩).isSome = true ∧ w.frozen? ⟨g, o, none⟩ = false := by
  have hj : o / 2 < l.length := by omega
  obtain ⟨p, hp⟩ : ∃ p, l[o / 2]? = some p := ⟨l[o / 2], List.getElem?_eq_getElem _⟩
  obtain ⟨a, k⟩ := p
  obtain ⟨⟨h1, h2⟩, h3, h4⟩ := h _ a k hp
  have : o = o / 2 * 2 ∨ o = o / 2 * 2 + 1 := by omega
  rcases this with e | e
  · rw [e]; exact ⟨by rw [h1]; rfl, h3⟩
  · rw [e]; exact ⟨by rw [h2]; rfl, h4⟩
theorem Row2.cut {w : World} {g : Nat} {l : List (Int × Int)} (h : Row2 w g l) (i : Nat) (vs : List Value) : Row2 (w.setCells g (i * 2) vs) g (l.take i) := by
  intro j a k hj
  have hji : j < i := by
    have := (List.getElem?_eq_some_iff.1 hj).1
    rw [List.length_take] at this; omega
  rw [List.getElem?_take_of_lt hji] at hj
  obtain ⟨⟨h1, h2⟩, h3, h4⟩ := h j a k hj
  rw [World.cell?_setCells_out _ _ _ _ _ (fun _ _ => .inl (by show j * 2 < i * 2; omega)), World.cell?_setCells_out _ _ _ _ _ (fun _ _ => .inl (by show j * 2 + 1 < i * 2; omega)), World.frozen?_setCells, World.frozen?_setCells]
  exact ⟨⟨h1, h2⟩, h3, h4⟩
theorem Keep.setCells {S : List Nat} {a : World} (b : Nat) (hb : b ∈ S ∨ a.heap.size ≤ b) : ∀ (vs : List Value) (o : Nat) {w : World}, Keep S a w → Keep S a (w.setCells b o vs)
  | [], _, _, h => h
  | v :: r, o, _, h => Keep.setCells b hb r (o + 1) (h.setCell (p := ⟨b, o, none⟩) hb v)

set_option maxHeartbeats 1000000 in
theorem delF_none (g cap c : Nat) (o : Int) (F : List (Int × Int)) (w : World) (hF : Row2 w g F) (hg : g < w.heap.size) (hl : F.length ≤ 256) (hc : w.cell? ⟨c, 0, none⟩ = some (.int .i64 o)) (hcl : c < w.heap.size)
    (hall : ∀ x ∈ F, ¬ x.2 < o) :
    Calls Tryz.prog 108 #[.slice (some ⟨g, 0, none⟩) F.length cap, clos c] w fun e w' => e = .returned (.slice (some ⟨g, 0, none⟩) (fitL o F).length cap) ∧ Row2 w' g (fitL o F) ∧ Keep [g] w w' := by
  have I := Lib.hid (idx_none g cap c o F w hF hg hl hc hcl hall)
  rw [fitL_all hall]
  have HF := Lib.hid hF; have HA := Lib.hid hall
  clear hF hall hc
  obtain ⟨n, hn⟩ : ∃ n, n = F.length := ⟨_, rfl⟩
  rw [← hn] at hl I ⊢
  clear hn
  unfold clos at *
  go_enter Tryz.func108, Tryz.ntmps108
  go_wp2_with fail
  refine I.out.mono ?_
  rintro e w1 ⟨rfl, hb1⟩
  go_wp2
  go_ret
  exact ⟨rfl, HF.out.keep (Keep.of (S := []) hb1) hg (by simp), Keep.of hb1⟩

set_option maxHeartbeats 2000000 in
set_option maxRecDepth 100000 in
theorem delF_some (g cap c i0 : Nat) (o : Int) (F : List (Int × Int)) (z : Int × Int) (w : World) (hF : Row2 w g F) (hg : g < w.heap.size) (hl : F.length ≤ 256) (hcap : F.length ≤ cap) (hc : w.cell? ⟨c, 0, none⟩ = some (.int .i64 o)) (hcl : c < w.heap.size) (hcg : c ≠ g)
    (hz : F[i0]? = some z) (hp : z.2 < o) (hall : ∀ x ∈ F.take i0, ¬ x.2 < o) :
    Calls Tryz.prog 108 #[.slice (some ⟨g, 0, none⟩) F.length cap, clos c] w fun e w' => e = .returned (.slice (some ⟨g, 0, none⟩) (fitL o F).length cap) ∧ Row2 w' g (fitL o F) ∧ Keep [g] w w' := by
  have I := Lib.hid (idx_some g cap c i0 o F z w hF hg hl hc hcl hz hp hall)
  have D0 := Lib.hid (DelInv.start (p := fun x => decide (x.2 < o)) hz (by simpa using hp) (by simpa using hall))
  have hil := (List.getElem?_eq_some_iff.1 hz).1
  have HF := Lib.hid hF
  have i1 : ((i0 : Int) == -1) = false := beq_eq_false_iff_ne.2 (by omega)
  clear hF hall hz hp
  obtain ⟨n, hn⟩ : ∃ n, n = F.length := ⟨_, rfl⟩
  rw [← hn] at hl I hil hcap ⊢
  have HN := Lib.hid hn
  clear hn
  unfold clos at *
  go_enter Tryz.func108, Tryz.ntmps108
  go_wp2_with fail
  refine I.out.mono ?_
  rintro e w1 ⟨rfl, hb1⟩
  clear I
  have k1 : Keep [g] w w1 := Keep.of hb1
  have R1 := Lib.hid (HF.out.keep (Keep.of (S := []) hb1) hg (by simp))
  clear HF
  go_wp2_with fail
  clear i1
  go_loopw [5, 6, 7] (fun iv jv _ wr => ∃ (i j : Nat) (L : List (Int × Int)), iv = .int .i64 i ∧ jv = .int .i64 j ∧ Hid (DelInv (fun x => decide (x.2 < o)) F i j L) ∧ Hid (Row2 wr g L) ∧ Keep [g] w wr) (fun _ jv _ _ => n - (intOf jv).toNat)
  case atStart => exact ⟨i0, i0 + 1, F, rfl, by go_num, D0, R1, k1⟩
  case round =>
    obtain ⟨i, j, L, rfl, rfl, DI, RW, hk⟩ := hrel
    have hdi := DI.out
    have d1 := hdi.lt; have d2 := hdi.le; have d3 := hdi.len
    rw [← HN.out] at d2 d3
    clear D0 R1
    have zr := hk.size
    by_cases hjn : j < n
    · obtain ⟨y, hy⟩ : ∃ y, L[j]? = some y := ⟨L[j]'(by omega), List.getElem?_eq_getElem _⟩
      obtain ⟨y0, hy0⟩ : ∃ y, L[i]? = some y := ⟨L[i]'(by omega), List.getElem?_eq_getElem _⟩
      have hyF : F[j]? = some y := by rw [← hdi.at j (Nat.le_refl _)]; exact hy
      obtain ⟨x, k⟩ := y
      obtain ⟨x0, k0⟩ := y0
      obtain ⟨⟨r1, r2⟩, _, _⟩ := RW.out j x k hy
      obtain ⟨⟨s1, s2⟩, s3, s4⟩ := RW.out i x0 k0 hy0
      have HYF := Lib.hid hyF
      have rc : wr.cell? ⟨c, 0, none⟩ = some (.int .i64 o) := (hk.cell hcl (by simpa using hcg)).trans hc
      have hil2 : i < L.length := by omega
      clear hdi hy hy0 hyF d2 d3
      have rc' : (wr.alloc (.cells #[.int .i64 x, .int .i64 k] 39)).cell? ⟨c, 0, none⟩ = some (.int .i64 o) := by rw [World.cell?_alloc_past _ _ _ (by show c < _; omega)]; exact rc
      cases hq : decide (k < o) with
      | true =>
        have HQ := Lib.hid hq
        have sm := small_any x k o c _ rc' (by simp; omega)
        rw [hq] at sm
        have SM := Lib.hid sm
        clear sm hq rc rc'
        go_wp2_with fail
        refine SM.out.mono ?_
        rintro e w2 ⟨rfl, hb2⟩
        have hk2 : Keep [g] wr w2 := (Keep.refl _ _).alloc _ |>.step hb2
        go_wp2
        go_roundw
        case rel => exact ⟨i, j + 1, L, rfl, by go_num, DI.out.skip HYF.out HQ.out, RW.out.keep (S := []) ((Keep.refl _ _).alloc _ |>.step hb2) (by omega) (by simp), hk.then hk2⟩
        case measure => simp [intOf]; omega
      | false =>
        have HQ := Lib.hid hq
        have sm := small_any x k o c _ rc' (by simp; omega)
        rw [hq] at sm
        have SM := Lib.hid sm
        clear sm hq rc rc'
        go_wp2_with fail
        refine SM.out.mono ?_
        rintro e w2 ⟨rfl, hb2⟩
        have hk2 : Keep [g] wr w2 := (Keep.refl _ _).alloc _ |>.step hb2
        have hk0 : Keep [] wr w2 := (Keep.refl _ _).alloc _ |>.step hb2
        have hgr : g < wr.heap.size := by omega
        have t1 := (hk0.cell (o := i * 2) hgr (by simp)).trans s1
        have t2 := (hk0.cell (o := i * 2 + 1) hgr (by simp)).trans s2
        have t3 := (hk0.frozen (o := i * 2) hgr (by simp)).trans s3
        have t4 := (hk0.frozen (o := i * 2 + 1) hgr (by simp)).trans s4
        have bx : w2.cell? ⟨wr.heap.size, 0, none⟩ = some (.int .i64 x) := (hb2.cell (p := ⟨wr.heap.size, 0, none⟩) (by simp)).trans (by rw [World.cell?_alloc_at _ _ _ _ (by simp)]; rfl)
        have by' : w2.cell? ⟨wr.heap.size, 1, none⟩ = some (.int .i64 k) := (hb2.cell (p := ⟨wr.heap.size, 1, none⟩) (by simp)).trans (by rw [World.cell?_alloc_at _ _ _ _ (by simp)]; rfl)
        have R2 := Lib.hid ((RW.out.keep hk0 hgr (by simp)).set hil2 x k)
        clear r1 r2 s1 s2 s3 s4 hb2
        go_wp2
        go_roundw
        case rel => exact ⟨i + 1, j + 1, L.set i (x, k), by go_num, by go_num, DI.out.keep HYF.out HQ.out, R2, ((hk.then hk2).setCell (.inl (by simp)) _).setCell (.inl (by simp)) _⟩
        case measure => simp [intOf]; omega
    · have ej : j = n := by omega
      rw [ej, HN.out] at hdi
      obtain ⟨f1, f2, f3⟩ := hdi.done
      rw [d3] at f3
      have e1 : n - i + i = n := by omega
      have hcl := fun ty => run_clear2 wr ty g (i * 2) (n - i) (cap - i) (by omega) (fun q hq => (RW.out.cells (o := i * 2 + q) (by rw [d3]; omega)).1) (fun q hq => (RW.out.cells (o := i * 2 + q) (by rw [d3]; omega)).2)
      have F1 := Lib.hid f1; have F2 := Lib.hid f2
      clear hdi f1 f2 e1 d1 d2
      obtain rfl : j = n := ej
      have hneg : ¬ ((j : Int) < (j : Int)) := by omega
      go_wp2
      go_ret
      have hfit : fitL o F = F.filter fun x => !decide (x.2 < o) := rfl
      rw [hfit, ← F2.out, ← F1.out]
      exact ⟨rfl, RW.out.cut i _, Keep.setCells g (.inl (by simp)) _ _ hk⟩
theorem delF_any (g cap c : Nat) (o : Int) (F : List (Int × Int)) (w : World) (hF : Row2 w g F) (hg : g < w.heap.size) (hl : F.length ≤ 256) (hcap : F.length ≤ cap) (hc : w.cell? ⟨c, 0, none⟩ = some (.int .i64 o)) (hcl : c < w.heap.size) (hcg : c ≠ g) :
    Calls Tryz.prog 108 #[.slice (some ⟨g, 0, none⟩) F.length cap, clos c] w fun e w' => e = .returned (.slice (some ⟨g, 0, none⟩) (fitL o F).length cap) ∧ Row2 w' g (fitL o F) ∧ Keep [g] w w' := by
  rcases first_small o F with h | ⟨i, z, h1, h2, h3⟩
  · exact delF_none g cap c o F w hF hg hl hc hcl h
  · exact delF_some g cap c i o F z w hF hg hl hcap hc hcl hcg h1 h2 h3
theorem delF_nil (c : Nat) (w : World) :
    Calls Tryz.prog 108 #[.slice none 0 0, clos c] w fun e w' => e = .returned (.slice none 0 0) ∧ w = w' := by
  have I : ∀ w, Calls Tryz.prog 114 #[.slice none 0 0, clos c] w fun e w' => e = .returned (.int .i64 (-1)) ∧ w = w' := by
    intro w
    unfold clos
    go_enter Tryz.func114, Tryz.ntmps114
    go_wp2_with fail
    refine wp_loop_rounds 1 ?_
    rw [rounds_succ]
    go_wp2
    go_ret
    exact ⟨rfl, rfl⟩
  unfold clos at *
  go_enter Tryz.func108, Tryz.ntmps108
  go_wp2_with fail
  refine (I _).mono ?_
  rintro e w1 ⟨rfl, rfl⟩
  go_wp2
  go_ret
  exact ⟨rfl, rfl⟩

theorem minL_snoc' {F : List (Int × Int)} {i : Nat} {z x : Int × Int} {r : List (Int × Int)} (h : F.take i = z :: r) (hx : F[i]? = some x) : ∃ r', F.take (i + 1) = z :: r' ∧ minL z r' = if x.2 < (minL z r).2 then x else minL z r := by
  refine ⟨r ++ [x], ?_, ?_⟩
  · rw [List.take_add_one, h, hx]; rfl
  · have : ∀ (r : List (Int × Int)) (z : Int × Int), minL z (r ++ [x]) = if x.2 < (minL z r).2 then x else minL z r := by
      intro r
      induction r with
      | nil => intro z; rfl
      | cons y s ih => intro z; exact ih _
    exact this r z

set_option maxHeartbeats 2000000 in
set_option maxRecDepth 100000 in
theorem minF_any (g cap : Nat) (z : Int × Int) (r : List (Int × Int)) (w : World) (hF : Row2 w g (z :: r)) (hg : g < w.heap.size) (hl : (z :: r).length ≤ 256) :
    Calls Tryz.prog 111 #[.slice (some ⟨g, 0, none⟩) (z :: r).length cap, .func (.func 112) #[] #[]] w fun e w' => e = .returned (.agg #[.int .i64 (minL z r).1, .int .i64 (minL z r).2]) ∧ Below w.heap.size w w' := by
  have n1 : 1 ≤ (z :: r).length := by simp
  obtain ⟨F, hFe⟩ : ∃ F, F = z :: r := ⟨_, rfl⟩
  rw [← hFe] at hF hl n1 ⊢
  have HFE := Lib.hid hFe
  have HF := Lib.hid hF
  clear hFe hF
  obtain ⟨n, hn⟩ : ∃ n, n = F.length := ⟨_, rfl⟩
  rw [← hn] at hl n1 ⊢
  have HN := Lib.hid hn
  clear hn
  obtain ⟨⟨q1, q2⟩, _, _⟩ := HF.out 0 z.1 z.2 (by rw [HFE.out]; rfl)
  have q1' : w.cell? ⟨g, 0, none⟩ = some (.int .i64 z.1) := q1
  have q2' : w.cell? ⟨g, 1, none⟩ = some (.int .i64 z.2) := q2
  have c1 : decide ((n : Int) < 1) = false := decide_eq_false (by omega)
  have c2 : (0 : Int) < n := by omega
  clear q1 q2
  go_enter Tryz.func111, Tryz.ntmps111
  go_wp2_with fail
  clear c1 c2 q1' q2'
  go_loopw [6] (fun iv wr => ∃ (i : Nat) (r' : List (Int × Int)), 1 ≤ i ∧ i ≤ n ∧ iv = .int .i64 (i : Int) ∧ Hid (F.take i = z :: r') ∧ Hid (wr.cell? ⟨w.heap.size + 1, 0, none⟩ = some (.int .i64 (minL z r').1) ∧ wr.cell? ⟨w.heap.size + 1, 1, none⟩ = some (.int .i64 (minL z r').2)
    ∧ wr.frozen? ⟨w.heap.size + 1, 0, none⟩ = false ∧ wr.frozen? ⟨w.heap.size + 1, 1, none⟩ = false ∧ wr.frozen? ⟨w.heap.size, 0, none⟩ = false ∧ wr.frozen? ⟨w.heap.size, 1, none⟩ = false
    ∧ wr.cell? ⟨w.heap.size, 0, none⟩ = some (.int .i64 0) ∧ wr.cell? ⟨w.heap.size, 1, none⟩ = some (.int .i64 0)) ∧ w.heap.size + 1 < wr.heap.size ∧ Below w.heap.size w wr) (fun iv _ => n - (intOf iv).toNat)
  case atStart =>
    refine ⟨1, [], by omega, n1, by go_num, (show _ = _ by rw [HFE.out]; rfl), ⟨?_, ?_, ?_, ?_, ?_, ?_, ?_, ?_⟩, by simp, (by repeat (first | exact Below.refl _ _ | refine Below.drew ?_ | refine below_drewN ?_ _ | refine Below.trans ?_ (Below.mono (by assumption) (by first | omega | (simp; omega) | (simp; done))) | refine Below.alloc ?_ (by first | omega | (simp; omega) | (simp; done)) _ | refine Below.setCell ?_ (by first | omega | (simp; omega) | (simp; done)) _))⟩
    · rw [World.cell?_alloc_at _ _ _ _ (by simp)]; rfl
    · rw [World.cell?_alloc_at _ _ _ _ (by simp)]; rfl
    · exact World.frozen?_alloc_at _ _ _ _ (by simp)
    · exact World.frozen?_alloc_at _ _ _ _ (by simp)
    · rw [World.frozen?_alloc_past _ _ _ (by simp)]; exact World.frozen?_alloc_at _ _ _ _ (by simp)
    · rw [World.frozen?_alloc_past _ _ _ (by simp)]; exact World.frozen?_alloc_at _ _ _ _ (by simp)
    · rw [World.cell?_alloc_past _ _ _ (by simp), World.cell?_alloc_at _ _ _ _ (by simp)]; rfl
    · rw [World.cell?_alloc_past _ _ _ (by simp), World.cell?_alloc_at _ _ _ _ (by simp)]; rfl
  case round =>
    obtain ⟨i, r', hi1, hi, rfl, HT, HM, hz, hbel⟩ := hrel
    obtain ⟨m1, m2, m3, m4, m5, m6, m7, m8⟩ := HM.out
    by_cases hlt : i < n
    · obtain ⟨y, hy⟩ : ∃ y, F[i]? = some y := ⟨F[i]'(by rw [← HN.out]; exact hlt), List.getElem?_eq_getElem _⟩
      obtain ⟨r2, hr2, hmin⟩ := minL_snoc' HT.out hy
      obtain ⟨x, k⟩ := y
      obtain ⟨⟨p1, p2⟩, _, _⟩ := HF.out i x k hy
      have r1 : wr.cell? ⟨g, i * 2, none⟩ = some (.int .i64 x) := (hbel.cell (p := ⟨g, i * 2, none⟩) hg).trans p1
      have r3 : wr.cell? ⟨g, i * 2 + 1, none⟩ = some (.int .i64 k) := (hbel.cell (p := ⟨g, i * 2 + 1, none⟩) hg).trans p2
      have R2 := Lib.hid hr2
      have zg : g < wr.heap.size := by omega
      clear hy hr2 p1 p2
      obtain ⟨mx, hmx⟩ : ∃ mx, mx = minL z r' := ⟨_, rfl⟩
      rw [← hmx] at m1 m2 hmin
      have la := fun w => lower_any x k mx.1 mx.2 w
      by_cases hk : k < mx.2
      · rw [if_pos hk] at hmin
        have HMI := Lib.hid hmin
        have hcmp : cmpI k mx.2 = -1 := by unfold cmpI; rw [if_pos hk]
        simp only [hcmp] at la
        have LA := Lib.hid la
        clear hmin hmx hk la hcmp
        go_wp2
        refine wp_region_behind (by kernel_rfl) (by kernel_rfl) ?_
        repeat (go_big_quiet_step ((go_at_call 112; exact Calls.behind (LA.out _))))
        refine wpQuiet_nil ?_
        intro w1 hw'
        have hb1 := behind_out hw'
        clear hw'
        have z1 := hb1.size; try simp at z1
        have hq : ∀ b o, b < wr.heap.size → w1.cell? ⟨b, o, none⟩ = wr.cell? ⟨b, o, none⟩ := fun b o h => hb1.cell (p := ⟨b, o, none⟩) h
        have hf : ∀ b o, b < wr.heap.size → w1.frozen? ⟨b, o, none⟩ = wr.frozen? ⟨b, o, none⟩ := fun b o h => hb1.frozen (p := ⟨b, o, none⟩) h
        rw [← hq _ _ hz] at m1 m2
        rw [← hf _ _ hz] at m3 m4
        rw [← hf _ _ (by omega)] at m5 m6
        rw [← hq _ _ (by omega)] at m7 m8
        rw [← hq _ _ zg] at r1 r3
        clear hq hf
        go_wp2
        go_roundw
        case rel =>
          refine ⟨i + 1, r2, by omega, by omega, by go_num, R2, (show _ ∧ _ from ?_), by simp [World.setCell]; omega, (by repeat (first | exact Below.refl _ _ | refine Below.drew ?_ | refine below_drewN ?_ _ | refine Below.trans ?_ (Below.mono (by assumption) (by first | omega | (simp; omega) | (simp; done))) | refine Below.alloc ?_ (by first | omega | (simp; omega) | (simp; done)) _ | refine Below.setCell ?_ (by first | omega | (simp; omega) | (simp; done)) _))⟩
          rw [HMI.out]
          refine ⟨?_, ?_, ?_, ?_, ?_, ?_, ?_, ?_⟩
          · rw [set_cell_other _ (by omega), set_cell_same _ m1]
          · rw [set_cell_same (x := .int .i64 mx.2) _ (by rw [set_cell_other _ (by omega)]; exact m2)]
          · rw [set_frozen, set_frozen]; exact m3
          · rw [set_frozen, set_frozen]; exact m4
          · rw [set_frozen, set_frozen]; exact m5
          · rw [set_frozen, set_frozen]; exact m6
          · rw [set_cell_far _ (by omega), set_cell_far _ (by omega)]; exact m7
          · rw [set_cell_far _ (by omega), set_cell_far _ (by omega)]; exact m8
        case measure => simp [intOf]; omega
      · rw [if_neg hk] at hmin
        have HMI := Lib.hid hmin
        obtain ⟨q, hq, hq0⟩ : ∃ q, cmpI k mx.2 = q ∧ ¬ q < 0 := ⟨_, rfl, by unfold cmpI; split; (· contradiction); (· split <;> omega)⟩
        simp only [hq] at la
        have LA := Lib.hid la
        have hq1 : decide (q < 0) = false := decide_eq_false hq0
        clear hmin hmx hk la hq hq0
        go_wp2
        refine wp_region_behind (by kernel_rfl) (by kernel_rfl) ?_
        repeat (go_big_quiet_step ((go_at_call 112; exact Calls.behind (LA.out _))))
        refine wpQuiet_nil ?_
        intro w1 hw'
        have hb1 := behind_out hw'
        clear hw'
        have z1 := hb1.size; try simp at z1
        have hq : ∀ b o, b < wr.heap.size → w1.cell? ⟨b, o, none⟩ = wr.cell? ⟨b, o, none⟩ := fun b o h => hb1.cell (p := ⟨b, o, none⟩) h
        have hf : ∀ b o, b < wr.heap.size → w1.frozen? ⟨b, o, none⟩ = wr.frozen? ⟨b, o, none⟩ := fun b o h => hb1.frozen (p := ⟨b, o, none⟩) h
        rw [← hq _ _ hz] at m1 m2
        rw [← hf _ _ hz] at m3 m4
        rw [← hf _ _ (by omega)] at m5 m6
        rw [← hq _ _ (by omega)] at m7 m8
        clear hq hf
        go_wp2
        go_roundw
        case rel =>
          refine ⟨i + 1, r2, by omega, by omega, by go_num, R2, (show _ ∧ _ from ?_), by omega, (by repeat (first | exact Below.refl _ _ | refine Below.drew ?_ | refine below_drewN ?_ _ | refine Below.trans ?_ (Below.mono (by assumption) (by first | omega | (simp; omega) | (simp; done))) | refine Below.alloc ?_ (by first | omega | (simp; omega) | (simp; done)) _ | refine Below.setCell ?_ (by first | omega | (simp; omega) | (simp; done)) _))⟩
          rw [HMI.out]
          exact ⟨m1, m2, m3, m4, m5, m6, m7, m8⟩
        case measure => simp [intOf]; omega
    · have ej : i = n := by omega
      have hfin : minL z r = minL z r' := by
        have := HT.out
        rw [ej, HN.out, List.take_length, HFE.out] at this
        rw [List.cons.inj this |>.2]
      obtain ⟨mx, hmx⟩ : ∃ mx, mx = minL z r' := ⟨_, rfl⟩
      rw [← hmx] at m1 m2 hfin
      have HFIN := Lib.hid hfin
      clear hfin hmx
      go_wp2
      have e0 := set_cell_same (.int .i64 mx.1) m7
      have e1 := set_cell_same (w := wr.setCell ⟨w.heap.size, 0, none⟩ (.int .i64 mx.1)) (.int .i64 mx.2) ((set_cell_other _ (by omega)).trans m8)
      have e2 := (set_cell_other (w := wr.setCell ⟨w.heap.size, 0, none⟩ (.int .i64 mx.1)) (g := w.heap.size) (o := 1) (o' := 0) (.int .i64 mx.2) (by omega)).trans e0
      exact bodyPost_ret (v := .agg #[.int .i64 mx.1, .int .i64 mx.2]) (by simp [e0, e1, e2, results, Tryz.results111, go_sem, hz, show w.heap.size < wr.heap.size from by omega]) rfl ⟨by rw [HFIN.out], (by repeat (first | exact Below.refl _ _ | refine Below.drew ?_ | refine below_drewN ?_ _ | refine Below.trans ?_ (Below.mono (by assumption) (by first | omega | (simp; omega) | (simp; done))) | refine Below.alloc ?_ (by first | omega | (simp; omega) | (simp; done)) _ | refine Below.setCell ?_ (by first | omega | (simp; omega) | (simp; done)) _))⟩
end Go.Proofs.YtcokmiidgdmdlaaGreatDoor

namespace Go.Proofs.YtcokmiidgdmdlaaGreatDoor
open Go.RowKit
set_option linter.unusedSimpArgs false

end Go.Proofs.YtcokmiidgdmdlaaGreatDoor

namespace Go.Proofs.YtcokmiidgdmdlaaGreatDoor
open Go.RowKit Go.Maps
set_option linter.unusedSimpArgs false

theorem putL_prefix {L : List (Int × Int)} (hA : Asc L) {j : Nat} {a k : Int} (h : L[j]? = some (a, k)) : putL a k (L.take j) = L.take (j + 1) := by
  rw [putL_last k (fun p hp => ?_), List.take_add_one, h]
  · rfl
  · have hj := (List.getElem?_eq_some_iff.1 h).1
    obtain ⟨i, hi, rfl⟩ := List.getElem_of_mem hp
    rw [List.length_take] at hi
    have := List.pairwise_iff_getElem.1 hA i j (by omega) hj (by omega)
    rw [(List.getElem?_eq_some_iff.1 h).2] at this
    simpa using this

theorem mapB_made (w : World) : MapB (w.alloc (.map #[] 0)) w.heap.size [] :=
  ⟨List.Pairwise.nil, World.ownsMap_made _ _ _ _, by simp, fun p hp => by cases hp⟩
theorem MapB.keep {S : List Nat} {w w' : World} {b : Nat} {l : List (Int × Int)} (h : MapB w b l) (hk : Keep S w w') (hb : b ∉ S) : MapB w' b l := by
  have hlt := h.own.lt
  obtain ⟨h1, ⟨es, clock, h2, h3⟩, h4, h5⟩ := h
  exact ⟨h1, ⟨es, clock, (hk.block b hlt hb).trans h2, h3⟩, h4, h5⟩
theorem lt_of_cell0 {W : World} {a : Addr} {v : Value} (h : W.cell? a = some v) : a.block < W.heap.size := by
  rcases Nat.lt_or_ge a.block W.heap.size with h' | h'
  · exact h'
  · simp [World.cell?, Array.getElem?_eq_none h'] at h
theorem Bud.ltp {w : World} {pb : Nat} {n : Int} {bf bt : Nat} {F T : List (Int × Int)} (h : Bud w pb n bf bt F T) : pb < w.heap.size := lt_of_cell0 h.c0
theorem Bud.ltf {w : World} {pb : Nat} {n : Int} {bf bt : Nat} {F T : List (Int × Int)} (h : Bud w pb n bf bt F T) : bf < w.heap.size := h.free.own.lt
theorem Bud.ltt {w : World} {pb : Nat} {n : Int} {bf bt : Nat} {F T : List (Int × Int)} (h : Bud w pb n bf bt F T) : bt < w.heap.size := h.taken.own.lt
theorem Bud.keep {S : List Nat} {w w' : World} {pb : Nat} {n : Int} {bf bt : Nat} {F T : List (Int × Int)} (h : Bud w pb n bf bt F T) (hk : Keep S w w') (h1 : pb ∉ S) (h2 : bf ∉ S) (h3 : bt ∉ S) : Bud w' pb n bf bt F T :=
  ⟨(hk.cell h.ltp h1).trans h.c0, (hk.cell h.ltp h1).trans h.c1, (hk.cell h.ltp h1).trans h.c2, h.free.keep hk h2, h.taken.keep hk h3, h.ne⟩
theorem Bud.below {w w' : World} {pb : Nat} {n : Int} {bf bt : Nat} {F T : List (Int × Int)} (h : Bud w pb n bf bt F T) (hk : Below w.heap.size w w') : Bud w' pb n bf bt F T :=
  h.keep (Keep.of (S := []) hk) (by simp) (by simp) (by simp)
theorem Bud.turnF {w w' : World} {pb : Nat} {n : Int} {bf bt : Nat} {F F' T : List (Int × Int)} (h : Bud w pb n bf bt F T) (hm : MapB w' bf F') (hk : Keep [bf] w w') : Bud w' pb n bf bt F' T :=
  ⟨(hk.cell h.ltp (by simpa using h.ne.2.1)).trans h.c0, (hk.cell h.ltp (by simpa using h.ne.2.1)).trans h.c1, (hk.cell h.ltp (by simpa using h.ne.2.1)).trans h.c2, hm, h.taken.keep hk (by simpa using h.ne.1.symm), h.ne⟩
theorem Bud.turnT {w w' : World} {pb : Nat} {n : Int} {bf bt : Nat} {F T T' : List (Int × Int)} (h : Bud w pb n bf bt F T) (hm : MapB w' bt T') (hk : Keep [bt] w w') : Bud w' pb n bf bt F T' :=
  ⟨(hk.cell h.ltp (by simpa using h.ne.2.2)).trans h.c0, (hk.cell h.ltp (by simpa using h.ne.2.2)).trans h.c1, (hk.cell h.ltp (by simpa using h.ne.2.2)).trans h.c2, h.free.keep hk (by simpa using h.ne.1), hm, h.ne⟩

set_option maxHeartbeats 2000000 in
set_option maxRecDepth 100000 in
theorem new_ok (n : Int) (w : World) (n1 : 1 ≤ n) (n2 : n ≤ 256) :
    Calls Tryz.prog 56 #[.int .i64 n] w fun e w' => ∃ pb bf bt, e = .returned (.tuple #[.pointer (some ⟨pb, 0, none⟩), .nilIface]) ∧ Bud w' pb n bf bt (covL 0 n) [] ∧ (w.heap.size ≤ pb ∧ w.heap.size ≤ bf ∧ w.heap.size ≤ bt) ∧ Below w.heap.size w w' := by
  have hmm := @run_makeMap Tryz.prog
  have hco := fun w => cover_ok 0 n w (by omega) (by omega) (by omega)
  have hI := Inv.start n1 n2
  generalize covL 0 n = L at *
  have HC := Lib.hid hco; have HI := Lib.hid hI
  clear hco hI
  have d1 : decide (n < 1) = false := decide_eq_false (by omega)
  have d2 : decide (256 < n) = false := decide_eq_false (by omega)
  go_enter Tryz.func56, Tryz.ntmps56
  go_wp2_with fail
  clear d1 d2 hmm
  refine (HC.out _).mono ?_
  obtain ⟨W0, hW0⟩ : ∃ W0, W0 = ((w.alloc (.map #[] 0)).alloc (.map #[] 0)).alloc (.cells #[.int .i64 n, .map (some w.heap.size), .map (some (w.heap.size + 1))] 183) := ⟨_, rfl⟩
  have B0 : Bud W0 (w.heap.size + 2) n w.heap.size (w.heap.size + 1) [] [] := by
    subst hW0
    refine ⟨?_, ?_, ?_, ?_, ?_, by omega, by omega, by omega⟩
    · rw [World.cell?_alloc_at _ _ _ _ (by simp)]; rfl
    · rw [World.cell?_alloc_at _ _ _ _ (by simp)]; rfl
    · rw [World.cell?_alloc_at _ _ _ _ (by simp)]; rfl
    · exact (mapB_made w).keep (Keep.alloc (Keep.alloc (Keep.refl [] _) _) _) (by simp)
    · exact (show MapB ((w.alloc (.map #[] 0)).alloc (.map #[] 0)) (w.alloc (.map #[] 0)).heap.size [] from mapB_made _).keep (Keep.alloc (Keep.refl [] _) _) (by simp) |> fun h => by simpa using h
  have K0 : Below w.heap.size w W0 := by subst hW0; exact (by repeat (first | exact Below.refl _ _ | refine Below.drew ?_ | refine below_drewN ?_ _ | refine Below.trans ?_ (Below.mono (by assumption) (by first | omega | (simp; omega) | (simp; done))) | refine Below.alloc ?_ (by first | omega | (simp; omega) | (simp; done)) _ | refine Below.setCell ?_ (by first | omega | (simp; omega) | (simp; done)) _))
  have z0 : W0.heap.size = w.heap.size + 3 := by subst hW0; simp
  rw [← hW0]
  clear hW0
  rintro e w1 ⟨v, rfl, hv⟩
  have hb1 := hv.2
  have B1 := B0.below hb1
  have K1 : Below w.heap.size w w1 := K0.trans (hb1.mono (by omega))
  have hlen := HI.out.lenF
  rcases hv.mrow with ⟨rfl, hnil⟩ | ⟨g, cap, rfl, hg0, hg, _, hc⟩
  · obtain ⟨x, hx, _⟩ := HI.out.t.cov (p := 0) (by omega) (by omega)
    rw [hnil] at hx
    cases hx
  · have C1 := Lib.hid hc
    obtain ⟨N, hn⟩ : ∃ N, N = L.length := ⟨_, rfl⟩
    rw [← hn] at hlen ⊢
    have HN := Lib.hid hn
    have z1 := hb1.size
    have hB0 : w.heap.size < g := by omega
    have HB1 := Lib.hid B1
    clear hn hc hv B0 B1 K0
    go_wp2_with fail
    go_loopw [8, 28] (fun _ i wr => ∃ j : Nat, j ≤ N ∧ i = .int .i64 j ∧ Hid (Bud wr (w.heap.size + 2) n w.heap.size (w.heap.size + 1) (L.take j) []) ∧ Keep [w.heap.size] w1 wr) (fun _ i _ => N - (intOf i).toNat)
    case atStart => exact ⟨0, Nat.zero_le _, rfl, HB1, Keep.refl _ _⟩
    case round =>
      obtain ⟨j, hj, rfl, HB, hk⟩ := hrel
      have zr := hk.size
      by_cases hlt : j < N
      · obtain ⟨y, hy⟩ : ∃ y, L[j]? = some y := ⟨L[j]'(by rw [← HN.out]; exact hlt), List.getElem?_eq_getElem _⟩
        obtain ⟨x, k⟩ := y
        obtain ⟨⟨p1, p2⟩, _, _⟩ := C1.out j x k hy
        have hrg := HI.out.rngF (List.mem_of_getElem? hy)
        simp only at hrg
        have gr : g < wr.heap.size := by omega
        have gne : g ≠ w.heap.size := by have := hB0; omega
        have r1 : wr.cell? ⟨g, j * 2, none⟩ = some (.int .i64 x) := (hk.cell (by omega) (by simpa using gne)).trans p1
        have r2 : wr.cell? ⟨g, j * 2 + 1, none⟩ = some (.int .i64 k) := (hk.cell (by omega) (by simpa using gne)).trans p2
        have hb := HB.out
        have q1 := hb.c1
        have hlp := hb.ltp
        have hka : Keep [] wr ((wr.alloc (.cells #[.int .i64 x, .int .i64 k] 39)).drew) := ((Keep.refl _ _).alloc _).drew
        obtain ⟨w2, hrun, hput, hgr⟩ := (hb.free.keep hka (by simp)).put hrg (by rw [putL_prefix HI.out.fa hy]; exact Nat.le_trans (List.length_take_le _ _) (by omega))
        rw [putL_prefix HI.out.fa hy] at hput
        have hk2 : Keep [w.heap.size] wr w2 := (hka.mono (fun s q => by cases q)).grown hgr (.inl (by simp))
        have HP := Lib.hid hput; have HG := Lib.hid hgr
        clear hput hgr hy p1 p2 hb
        go_wp2
        refine wp_tail 8 (by kernel_rfl) (by kernel_rfl) ?_
        simp only [List.take_succ_cons, List.take_zero, List.drop_succ_cons, List.drop_zero]
        repeat still_step
        refine wpStill_nil ?_
        go_wp2
        clear hrun
        go_roundw
        case rel => exact ⟨j + 1, by omega, by go_num, HB.out.turnF HP.out hk2, hk.then hk2⟩
        case measure => simp [intOf]; omega
      · have ej : j = N := by omega
        have HBe : Bud wr (w.heap.size + 2) n w.heap.size (w.heap.size + 1) L [] := by have := HB.out; rwa [ej, HN.out, List.take_length] at this
        have HB2 := Lib.hid HBe
        have K2 : Below w.heap.size w wr := hk.after K1 (by omega) (by simp)
        clear HBe ej
        go_wp2
        go_ret2
        exact ⟨_, _, _, rfl, HB2.out, ⟨by omega, by omega, by omega⟩, K2⟩

end Go.Proofs.YtcokmiidgdmdlaaGreatDoor

namespace Go.Proofs.YtcokmiidgdmdlaaGreatDoor
open Go.RowKit Go.Maps
set_option linter.unusedSimpArgs false

/-- pages of the blocks that are still to come -/
def toCome (left : Lit → Bool) : List (Int × Int) → Int
  | [] => 0
  | x :: r => (if left (.int .i64 x.1) then sz x.2 else 0) + toCome left r
theorem toCome_all (left : Lit → Bool) : ∀ l : List (Int × Int), (∀ x ∈ l, left (.int .i64 x.1) = true) → toCome left l = sumL l
  | [], _ => rfl
  | x :: r, h => by simp only [toCome, sumL, h x (by simp), if_true, toCome_all left r fun y hy => h y (List.mem_cons_of_mem _ hy)]
theorem toCome_none (left : Lit → Bool) : ∀ l : List (Int × Int), (∀ k, left k = false) → toCome left l = 0
  | [], _ => rfl
  | x :: r, h => by simp [toCome, h, toCome_none left r h]
theorem toCome_bd (left : Lit → Bool) : ∀ l : List (Int × Int), 0 ≤ toCome left l ∧ toCome left l ≤ sumL l
  | [] => ⟨Int.le_refl _, Int.le_refl _⟩
  | x :: r => by
    have := toCome_bd left r
    have := sz_pos x.2
    simp only [toCome, sumL]
    split <;> omega
theorem toCome_skip (left : Lit → Bool) (a : Int) : ∀ l : List (Int × Int), (∀ x ∈ l, x.1 ≠ a) → toCome (fun z => left z && !z.sameKey (.int .i64 a)) l = toCome left l
  | [], _ => rfl
  | x :: r, h => by
    have h0 := h x (by simp)
    have hf : (x.1 == a) = false := beq_eq_false_iff_ne.2 h0
    simp only [toCome, same_key, hf, Bool.not_false, Bool.and_true, toCome_skip left a r fun y hy => h y (List.mem_cons_of_mem _ hy)]
theorem toCome_step (left : Lit → Bool) : ∀ {l : List (Int × Int)} {a k : Int}, Asc l → (a, k) ∈ l → left (.int .i64 a) = true → toCome left l = sz k + toCome (fun z => left z && !z.sameKey (.int .i64 a)) l
  | [], a, k, _, h, _ => by cases h
  | x :: r, a, k, hA, h, hl => by
    obtain ⟨h1, h2⟩ := List.pairwise_cons.1 hA
    rcases List.mem_cons.1 h with rfl | h
    · have := toCome_skip left a r fun y hy => by have := h1 y hy; simp only at this; omega
      simp only [toCome, same_key, hl, this]
      simp
    · have hlt := h1 _ h
      simp only at hlt
      have hf : (x.1 == a) = false := beq_eq_false_iff_ne.2 (by omega)
      have := toCome_step left h2 h hl
      simp only [toCome, same_key, hf, Bool.not_false, Bool.and_true]
      omega
theorem sumL_bd : ∀ (l : List (Int × Int)), (∀ x ∈ l, 0 ≤ x.2 ∧ x.2 ≤ 6) → sumL l ≤ 64 * l.length
  | [], _ => by simp [sumL]
  | x :: r, h => by
    have := sumL_bd r fun y hy => h y (List.mem_cons_of_mem _ hy)
    have h0 := h x (by simp)
    have := sz_le64 h0.1 h0.2
    simp only [sumL, List.length_cons]
    omega

set_option maxHeartbeats 2000000 in
set_option maxRecDepth 100000 in
theorem pages_ok (pb : Nat) (n : Int) (bf bt : Nat) (F T : List (Int × Int)) (w : World) (hb : Bud w pb n bf bt F T) :
    Calls Tryz.prog 64 #[.pointer (some ⟨pb, 0, none⟩)] w fun e w' => e = .returned (.tuple #[.int .i64 (sumL F), .int .i64 n]) ∧ Below w.heap.size w w' := by
  have c0 := hb.c0; have c1 := hb.c1
  have lp := hb.ltp
  have hown := hb.free.own
  have hA := Lib.hid hb.free.asc
  have hR := Lib.hid hb.free.rng
  have few := hb.free.few
  have hbd := sumL_bd F fun x hx => (hR.out x hx).2.2
  have sn := sumL_nonneg F
  have lf := hb.ltf
  clear hb
  go_enter Tryz.func64, Tryz.ntmps64
  go_wp2_with (first
    | (at_range; refine wpList_range_own _ rfl _ 181 rfl 3 3 keyInt Tryz.underlying181 _ bf F.length _ rfl hown ?_; intro w0 hrg0 hg0 hs0)
    | go_in)
  go_frame
  have HO := Lib.hid hown
  clear hown
  have K0 : Below w.heap.size w w0 := (Below.refl _ _).grown hg0 (Nat.le_refl _) (fun j hj => by cases hj)
  have c0' := (K0.cell (p := ⟨pb, 0, none⟩) lp).trans c0
  clear c0 c1
  go_loopw [2, 5] (fun s _ wr => ∃ (left : Lit → Bool) (cnt : Nat), Hid (wr.ranges Tryz.prog 3 (plainElem Tryz.prog 3) bf w.heap.size F.length (toD (H := Unit) F) left cnt) ∧ s = .int .i64 (sumL F - toCome left F) ∧ Below w.heap.size w wr)
    (fun _ _ wr => wr.rangeLeft bf w.heap.size)
  case atStart =>
    refine ⟨_, _, hrg0, ?_, K0⟩
    rw [toCome_all _ _ fun x hx => ?_]
    · go_num
    · rw [toD_has, mem_getL hA.out (k := x.2) hx]; rfl
  case round =>
    obtain ⟨left, cnt, HRG, rfl, hbel⟩ := hrel
    have hrg := HRG.out
    have hmeas := hrg.left_eq
    have cr := (hbel.cell (p := ⟨pb, 0, none⟩) lp).trans ((K0.cell (p := ⟨pb, 0, none⟩) lp).symm.trans c0')
    have zr := hbel.size
    have HME := Lib.hid hmeas
    have htc := toCome_bd left F
    clear hrg0 hg0 hs0 c0' hmeas
    go_wp2_with (first
      | (at_next; refine wpList_next_ranges_ii _ rfl _ rfl 3 3 .i64 .i64 keyInt Tryz.underlying3 Tryz.underlying3 bf w.heap.size F.length _ _ _ rfl hrg ?_ ?_)
      | go_in)
    · intro hc0 hl0
      have ht0 := toCome_none left F hl0
      have HT := Lib.hid ht0
      clear hl0 ht0 hrg
      go_wp2
      go_quiet (fail)
      go_wp2
      go_ret2
      exact ⟨by rw [HT.out]; simp, (by repeat (first | exact Below.refl _ _ | refine Below.drew ?_ | refine below_drewN ?_ _ | refine Below.trans ?_ (Below.mono (by assumption) (by first | omega | (simp; omega) | (simp; done))) | refine Below.alloc ?_ (by first | omega | (simp; omega) | (simp; done)) _ | refine Below.setCell ?_ (by first | omega | (simp; omega) | (simp; done)) _))⟩
    · intro x c w1 cnt1 hwx hwc hlx hat hrg1 hlt hg1 hs1 hen
      have hmem : (x, c) ∈ F := by
        have := hat (.lit (.int .i64 0))
        have this2 := hat (.lit (.int .i64 1))
        rw [toD_at] at this this2
        cases hg : getL F x with
        | none => rw [hg] at this this2; simp at this this2; omega
        | some q => rw [hg] at this; simp at this; rw [← this]; exact getL_mem hg
      have hst := toCome_step left hA.out hmem hlx
      have hrc := hR.out _ hmem
      simp only at hrc
      obtain ⟨_, _, k0, k6⟩ := hrc
      have hs := shl_sz' k0 k6
      have htc1 := toCome_bd (fun z => left z && !z.sameKey (.int .i64 x)) F
      obtain ⟨s1, s2⟩ := sz_bd k0 k6
      have HST := Lib.hid hst; have HR1 := Lib.hid hrg1
      clear hst hrg1 hat hmem hrg hwx hwc
      have K1 : Below w.heap.size w w1 := hbel.grown hg1 zr (fun j hj => by cases hj; exact Nat.le_refl _)
      go_wp2
      go_roundw
      case rel => exact ⟨_, _, HR1, by have := HST.out; go_num, K1⟩
      case measure => rw [HR1.out.left_eq, HME.out]; omega
end Go.Proofs.YtcokmiidgdmdlaaGreatDoor

namespace Go.Proofs.YtcokmiidgdmdlaaGreatDoor
open Go.RowKit Go.Maps
set_option linter.unusedSimpArgs false

/-- what a copy's making has come to: nothing older has turned; what has been cloned lies where it was told -/
def CpS (w : World) (pb : Nat) (n : Int) (bf bt : Nat) (F T : List (Int × Int)) (w' : World) : Prop := Below w.heap.size w w' ∧ Bud w' pb n bf bt F T

end Go.Proofs.YtcokmiidgdmdlaaGreatDoor
