/- '==' and '!=' between two places. -/
import Derived.Test.YtigginpcokfihaaGreatDoorEq
namespace Go.Proofs.YtigginpcokfihaaGreatDoor
open Go.RowKit

theorem eqP (n a k m b c : Int) (w : World) : (binOp .eql 41 (.agg #[.int .i64 n, .int .i64 a, .int .i64 k]) (.agg #[.int .i64 m, .int .i64 b, .int .i64 c])).run Tryz.prog w = .ok (.bool (n == m && (a == b && k == c))) w := by
  have u3 := Tryz.underlying3
  have a3 := Tryz.isAgg3
  have z3 := Tryz.sizeOf3
  have ub := Tryz.underlying39
  have zb := Tryz.sizeOf39
  have hS : Tryz.prog.underlying 41 = some (.struct (Tryz.prog.fieldsOf 41)) := by kernel_rfl
  have hp : Tryz.prog.stoodInHeld 41 = false := by kernel_rfl
  have hS2 : Tryz.prog.underlying 39 = some (.struct (Tryz.prog.fieldsOf 39)) := by kernel_rfl
  have hp2 : Tryz.prog.stoodInHeld 39 = false := by kernel_rfl
  rw [run_eql_struct, show (10000 : Nat) = 9999 + 1 from rfl, run_equalIn_agg w 9999 41 _ _ hS hp]
  simp only [Program.fieldsOf, Tryz.underlying41]
  go_simp
  by_cases h1 : n = m <;> by_cases h2 : a = b <;> by_cases h3 : k = c <;> simp [h1, h2, h3]
theorem neqP (n a k m b c : Int) (w : World) : (binOp .neq 41 (.agg #[.int .i64 n, .int .i64 a, .int .i64 k]) (.agg #[.int .i64 m, .int .i64 b, .int .i64 c])).run Tryz.prog w = .ok (.bool (!(n == m && (a == b && k == c)))) w := by
  have u3 := Tryz.underlying3
  have a3 := Tryz.isAgg3
  have z3 := Tryz.sizeOf3
  have ub := Tryz.underlying39
  have zb := Tryz.sizeOf39
  have hS : Tryz.prog.underlying 41 = some (.struct (Tryz.prog.fieldsOf 41)) := by kernel_rfl
  have hp : Tryz.prog.stoodInHeld 41 = false := by kernel_rfl
  have hS2 : Tryz.prog.underlying 39 = some (.struct (Tryz.prog.fieldsOf 39)) := by kernel_rfl
  have hp2 : Tryz.prog.stoodInHeld 39 = false := by kernel_rfl
  rw [run_neq_struct, show (10000 : Nat) = 9999 + 1 from rfl, run_equalIn_agg w 9999 41 _ _ hS hp]
  simp only [Program.fieldsOf, Tryz.underlying41]
  go_simp
  by_cases h1 : n = m <;> by_cases h2 : a = b <;> by_cases h3 : k = c <;> simp [h1, h2, h3]
theorem guardP : Tryz.prog.eqGuardType Tryz.prog.depth 41 = false := by kernel_rfl
end Go.Proofs.YtigginpcokfihaaGreatDoor
