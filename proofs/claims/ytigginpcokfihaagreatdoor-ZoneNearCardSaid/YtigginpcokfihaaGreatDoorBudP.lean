/- A store into a map of the program, and a delete: what the sorted list becomes. -/
import Derived.Test.YtigginpcokfihaaGreatDoorBudA
namespace Go.Proofs.YtigginpcokfihaaGreatDoor
open Go.RowKit Go.Maps
set_option linter.unusedSimpArgs false

theorem insert_length {H : Type} (x : Lit × DataW H) : ∀ l : List (Lit × DataW H), (DataW.insert x l).length = l.length + 1
  | [] => rfl
  | y :: r => by
    unfold DataW.insert
    split
    · simp
    · simp [insert_length x r]
theorem foldr_length {H : Type} : ∀ l : List (Lit × DataW H), (l.foldr DataW.insert []).length = l.length
  | [] => rfl
  | x :: r => by simp [insert_length, foldr_length r]
theorem own_tight {w : World} {b n : Nat} {k : TypeId} {R : Value → Option (DataW Unit × List MemPlace)} {l : List (Int × Int)} (h : w.ownsMap Tryz.prog k R b n (toD l)) : w.ownsMap Tryz.prog k R b l.length (toD l) := by
  obtain ⟨es, clock, hb, F, _, hD⟩ := h
  refine ⟨es, clock, hb, F, ?_, hD⟩
  have := congrArg size hD
  rw [toD_size, size_eq, foldr_length] at this
  simp at this
  omega
theorem putL_length_le : ∀ (l : List (Int × Int)) (a k : Int), (putL a k l).length ≤ l.length + 1
  | [], a, k => by simp [putL]
  | p :: r, a, k => by
    unfold putL
    split
    · simp
    · split
      · simp
      · have := putL_length_le r a k; simp; omega

/-- 'm[a] = k' -/
theorem MapB.put {w : World} {b : Nat} {l : List (Int × Int)} (h : MapB w b l) {a k : Int} (hr : 0 ≤ a ∧ a < 256 ∧ 0 ≤ k ∧ k ≤ 6) (hf : (putL a k l).length ≤ 256) :
    ∃ w', (Instr.mapUpdate 102 (.map (some b)) (.int .i64 a) (.int .i64 k)).run Tryz.prog w = .ok () w' ∧ MapB w' b (putL a k l) ∧ w.grownBy w' (some b) := by
  obtain ⟨w', hrun, hown, hg⟩ := h.own.update keyInt Tryz.underlying102 (by have := h.few; unfold maxLen; omega) (keyOf_int_mk Tryz.underlying3 (wfInt hr.1 hr.2.1)) (plainElem_int Tryz.underlying3 (wfInt hr.2.2.1 (by omega)))
  rw [toD_put h.asc] at hown
  refine ⟨w', hrun, ⟨h.asc.put a k, own_tight hown, hf, fun p hp => ?_⟩, hg⟩
  rcases putL_mem hp with rfl | hp
  · exact hr
  · exact h.rng p hp

/-- 'delete(m, a)' -/
theorem MapB.drop {w : World} {b : Nat} {l : List (Int × Int)} (h : MapB w b l) {a : Int} (ha : (Lit.int .i64 a).wf = true) (ty : TypeId) :
    ∃ w', (Builtin.delete_ #[102, 3] ty #[.map (some b), .int .i64 a]).run Tryz.prog w = .ok (.tuple #[]) w' ∧ MapB w' b (delL a l) ∧ w.mapTurned w' b := by
  obtain ⟨w', hrun, hown, hg⟩ := h.own.drop keyInt Tryz.underlying102 (keyOf_int_mk Tryz.underlying3 ha) ty
  rw [toD_del] at hown
  have hle : (delL a l).length ≤ l.length := List.length_filter_le _ _
  exact ⟨w', hrun, ⟨h.asc.del a, own_tight hown, Nat.le_trans hle h.few, fun p hp => h.rng p (mem_delL.1 hp).1⟩, hg⟩
end Go.Proofs.YtigginpcokfihaaGreatDoor
