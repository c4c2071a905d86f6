/- A map of the program (from where a block begins to its order) as a sorted list: the datum that it reads as. -/
import Derived.Test.YtigginpcokfihaaGreatDoorPlain
import Derived.Maps.OwnSet
import Derived.Maps.Ext
import Derived.Lib.SlKeysI
namespace Go.Proofs.YtigginpcokfihaaGreatDoor
open Go.Maps

/-- the datum of a sorted list -/
def toD {H : Type} (l : List (Int × Int)) : DataW H := .map (l.map fun p => (.int .i64 p.1, .lit (.int .i64 p.2)))

theorem toD_nil {H : Type} : (toD [] : DataW H) = .map [] := rfl
theorem same_key (a b : Int) : (Lit.int .i64 a).sameKey (.int .i64 b) = (a == b) := by
  simp only [Lit.sameKey]
  by_cases h : a = b <;> simp [h]
theorem toD_size {H : Type} (l : List (Int × Int)) : size (toD l : DataW H) = l.length := by simp [toD, size]
theorem toD_del {H : Type} (l : List (Int × Int)) (a : Int) : (toD l : DataW H).del (.int .i64 a) = toD (delL a l) := by
  simp only [toD, DataW.del, delL, List.filter_map, DataW.map.injEq]
  congr 1
  refine List.filter_congr fun p _ => ?_
  simp only [Function.comp, same_key]
  rfl
theorem toD_has {H : Type} (l : List (Int × Int)) (a : Int) : has (toD l : DataW H) (.int .i64 a) = (getL l a).isSome := by
  induction l with
  | nil => rfl
  | cons p r ih =>
    simp only [toD, has_eq, List.map_cons, List.any_cons, same_key] at ih ⊢
    rw [ih, getL_cons]
    by_cases h : p.1 = a <;> simp [h]
theorem toD_at {H : Type} (l : List (Int × Int)) (a : Int) (z : DataW H) : (toD l : DataW H).atKey (.int .i64 a) z = match getL l a with | some k => .lit (.int .i64 k) | none => z := by
  induction l with
  | nil => rfl
  | cons p r ih =>
    simp only [toD, DataW.atKey, List.map_cons, List.find?_cons, same_key] at ih ⊢
    rw [getL_cons]
    by_cases h : p.1 = a
    · simp [h]
    · have hf : (p.1 == a) = false := by simpa using h
      simp only [hf, if_neg h]
      exact ih
theorem del_absent {l : List (Int × Int)} {a : Int} (h : ∀ p ∈ l, p.1 ≠ a) : delL a l = l := List.filter_eq_self.2 fun p hp => by simpa using h p hp
theorem insert_put {H : Type} : ∀ {l : List (Int × Int)} (a k : Int), Asc l →
    DataW.insert (.int .i64 a, (.lit (.int .i64 k) : DataW H)) ((delL a l).map fun p => (.int .i64 p.1, .lit (.int .i64 p.2))) = (putL a k l).map fun p => (.int .i64 p.1, .lit (.int .i64 p.2))
  | [], a, k, _ => rfl
  | p :: r, a, k, h => by
    obtain ⟨h1, h2⟩ := List.pairwise_cons.1 h
    unfold putL
    by_cases c1 : a < p.1
    · rw [if_pos c1, del_absent (fun q hq => by rcases List.mem_cons.1 hq with rfl | hq; (· omega); (· have := h1 q hq; omega))]
      simp [DataW.insert, Lit.before, c1]
    · rw [if_neg c1]
      by_cases c2 : a = p.1
      · rw [if_pos c2]
        have e : delL a (p :: r) = r := by
          have : delL a (p :: r) = delL a r := by simp [delL, c2]
          rw [this, del_absent (fun q hq => by have := h1 q hq; omega)]
        rw [e]
        cases r with
        | nil => rfl
        | cons q s =>
          have := h1 q (by simp)
          have c3 : a < q.1 := by omega
          simp [DataW.insert, Lit.before, c3]
      · rw [if_neg c2]
        have e : delL a (p :: r) = p :: delL a r := by
          have : ¬ p.1 = a := fun x => c2 x.symm
          simp [delL, this]
        rw [e]
        simp only [List.map_cons, DataW.insert, Lit.before, c1, decide_false, Bool.false_eq_true, if_false]
        rw [insert_put a k h2]
theorem toD_put {H : Type} {l : List (Int × Int)} (h : Asc l) (a k : Int) : (toD l : DataW H).put (.int .i64 a) (.lit (.int .i64 k)) = toD (putL a k l) := by
  have e := toD_del (H := H) l a
  simp only [toD, DataW.del, DataW.map.injEq] at e
  simp only [toD, DataW.put, DataW.map.injEq]
  rw [e]
  exact insert_put a k h
theorem toD_keys {H : Type} (l : List (Int × Int)) : Go.intKeys (toD l : DataW H) = l.map (·.1) := by
  simp [toD, Go.intKeys, Go.intOf]
end Go.Proofs.YtigginpcokfihaaGreatDoor
