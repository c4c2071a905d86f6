/- '==' and '!=' between two blocks of pages, and between an error and nil. -/
import Derived.Test.YtcooflachcimbaaDoorErrs
import Derived.Laws.StructEq
import Derived.WalkLawsBesides
namespace Go.Proofs.YtcooflachcimbaaDoor
open Go.RowKit

theorem eqB (a k b m : Int) (w : World) : (binOp .eql 23 (.agg #[.int .i64 a, .int .i64 k]) (.agg #[.int .i64 b, .int .i64 m])).run Tryd.prog w = .ok (.bool (a == b && k == m)) w := by
  have u3 := Tryd.underlying3
  have a3 := Tryd.isAgg3
  have z3 := Tryd.sizeOf3
  have hS : Tryd.prog.underlying 23 = some (.struct (Tryd.prog.fieldsOf 23)) := by kernel_rfl
  have hp : Tryd.prog.stoodInHeld 23 = false := by kernel_rfl
  rw [run_eql_struct, show (10000 : Nat) = 9999 + 1 from rfl, run_equalIn_agg w 9999 23 _ _ hS hp]
  simp only [Program.fieldsOf, Tryd.underlying23]
  go_simp
  by_cases h1 : a = b <;> by_cases h2 : k = m <;> simp [h1, h2]
theorem neqB (a k b m : Int) (w : World) : (binOp .neq 23 (.agg #[.int .i64 a, .int .i64 k]) (.agg #[.int .i64 b, .int .i64 m])).run Tryd.prog w = .ok (.bool (!(a == b && k == m))) w := by
  have u3 := Tryd.underlying3
  have a3 := Tryd.isAgg3
  have z3 := Tryd.sizeOf3
  have hS : Tryd.prog.underlying 23 = some (.struct (Tryd.prog.fieldsOf 23)) := by kernel_rfl
  have hp : Tryd.prog.stoodInHeld 23 = false := by kernel_rfl
  rw [run_neq_struct, show (10000 : Nat) = 9999 + 1 from rfl, run_equalIn_agg w 9999 23 _ _ hS hp]
  simp only [Program.fieldsOf, Tryd.underlying23]
  go_simp
  by_cases h1 : a = b <;> by_cases h2 : k = m <;> simp [h1, h2]
theorem guardB : Tryd.prog.eqGuardType Tryd.prog.depth 23 = false := by kernel_rfl
end Go.Proofs.YtcooflachcimbaaDoor
