/- '==' and '!=' between two blocks of pages, and between an error and nil. -/
import Derived.Test.YtigginpcokfihaaGreatDoorErrs
import Derived.Laws.StructEq
import Derived.WalkLawsBesides
namespace Go.Proofs.YtigginpcokfihaaGreatDoor
open Go.RowKit

theorem eqB (a k b m : Int) (w : World) : (binOp .eql 39 (.agg #[.int .i64 a, .int .i64 k]) (.agg #[.int .i64 b, .int .i64 m])).run Tryz.prog w = .ok (.bool (a == b && k == m)) w := by
  have u3 := Tryz.underlying3
  have a3 := Tryz.isAgg3
  have z3 := Tryz.sizeOf3
  have hS : Tryz.prog.underlying 39 = some (.struct (Tryz.prog.fieldsOf 39)) := by kernel_rfl
  have hp : Tryz.prog.stoodInHeld 39 = false := by kernel_rfl
  rw [run_eql_struct, show (10000 : Nat) = 9999 + 1 from rfl, run_equalIn_agg w 9999 39 _ _ hS hp]
  simp only [Program.fieldsOf, Tryz.underlying39]
  go_simp
  by_cases h1 : a = b <;> by_cases h2 : k = m <;> simp [h1, h2]
theorem neqB (a k b m : Int) (w : World) : (binOp .neq 39 (.agg #[.int .i64 a, .int .i64 k]) (.agg #[.int .i64 b, .int .i64 m])).run Tryz.prog w = .ok (.bool (!(a == b && k == m))) w := by
  have u3 := Tryz.underlying3
  have a3 := Tryz.isAgg3
  have z3 := Tryz.sizeOf3
  have hS : Tryz.prog.underlying 39 = some (.struct (Tryz.prog.fieldsOf 39)) := by kernel_rfl
  have hp : Tryz.prog.stoodInHeld 39 = false := by kernel_rfl
  rw [run_neq_struct, show (10000 : Nat) = 9999 + 1 from rfl, run_equalIn_agg w 9999 39 _ _ hS hp]
  simp only [Program.fieldsOf, Tryz.underlying39]
  go_simp
  by_cases h1 : a = b <;> by_cases h2 : k = m <;> simp [h1, h2]
theorem guardB : Tryz.prog.eqGuardType Tryz.prog.depth 39 = false := by kernel_rfl
end Go.Proofs.YtigginpcokfihaaGreatDoor
