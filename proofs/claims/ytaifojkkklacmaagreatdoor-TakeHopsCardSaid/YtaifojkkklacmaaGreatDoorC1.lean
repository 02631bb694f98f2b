/- Closed calls on TakeHops' road. -/
import Derived.Test.YtaifojkkklacmaaGreatDoorTb
set_option linter.unusedVariables false
set_option linter.unusedSimpArgs false
set_option linter.unusedSectionVars false
set_option linter.unnecessarySimpa false
set_option maxRecDepth 100000
namespace Go.Ab
open Go
theorem fc0 : callP (evN E2 100).1 true 7 [.int .i64 0] [] = some (z1) := by kernel_rfl
theorem fc7 : callP (evN E2 100).1 true 32 [.agg [.int .i64 8, .int .i64 4, .int .i64 2, .int .i64 8, .int .i64 8, .int .i64 8, .int .i64 16], .int .i64 2, z0] [] = some (.int .i64 0) := by kernel_rfl
theorem fc6 : callP (evN E2 100).1 true 32 [.agg [.int .i64 8, .int .i64 4, .int .i64 2, .int .i64 8, .int .i64 8, .int .i64 8, .int .i64 16], .int .i64 1, z0] [] = some (.int .i64 0) := by kernel_rfl
theorem fc37 : callP (evN E2 100).1 true 83 [.int .i64 0, z0, .int .i64 0] [] = some (.int .i64 1) := by kernel_rfl
theorem fc41 : callP (evN E2 100).1 true 83 [.int .i64 1, z0, .int .i64 2] [] = some (.int .i64 2) := by kernel_rfl
theorem fc45 : callP (evN E2 100).1 true 83 [.int .i64 3, z0, .int .i64 0] [] = some (.int .i64 1) := by kernel_rfl
theorem fc49 : callP (evN E2 100).1 true 83 [.int .i64 4, z0, .int .i64 0] [] = some (.int .i64 7) := by kernel_rfl
theorem fc53 : callP (evN E2 100).1 true 83 [.int .i64 6, z0, .int .i64 0] [] = some (.int .i64 2) := by kernel_rfl
theorem fc57 : callP (evN E2 100).1 true 83 [.int .i64 7, z0, .int .i64 0] [] = some (.int .i64 1) := by kernel_rfl
theorem fc15 : callP (evN E2 100).1 true 82 [.int .i64 0, z0, .int .i64 2] [] = some (.bool false) := by kernel_rfl
theorem fc23 : callP (evN E2 100).1 true 82 [.int .i64 3, z0, .int .i64 2] [] = some (.bool false) := by kernel_rfl
theorem fc31 : callP (evN E2 100).1 true 82 [.int .i64 6, z0, .int .i64 2] [] = some (.bool false) := by kernel_rfl
theorem fc13 : callP (evN E2 100).1 true 82 [.int .i64 0, z0, .int .i64 0] [] = some (.bool false) := by kernel_rfl
theorem fc21 : callP (evN E2 100).1 true 82 [.int .i64 3, z0, .int .i64 0] [] = some (.bool false) := by kernel_rfl
theorem fc29 : callP (evN E2 100).1 true 82 [.int .i64 6, z0, .int .i64 0] [] = some (.bool false) := by kernel_rfl
theorem fc4 : callP (evN E2 100).1 true 12 [z0, z0] [] = some (.bool true) := by kernel_rfl
end Go.Ab

set_option maxRecDepth 100000
namespace Go.Ab
open Go
theorem fc1 : callP (evN E2 100).1 true 7 [.int .i64 1] [] = some (z1) := by kernel_rfl
theorem fc10 : callP (evN E2 100).1 true 32 [.agg [.int .i64 8, .int .i64 4, .int .i64 2, .int .i64 8, .int .i64 8, .int .i64 8, .int .i64 16], .int .i64 5, z0] [] = some (.int .i64 0) := by kernel_rfl
theorem fc8 : callP (evN E2 100).1 true 32 [.agg [.int .i64 8, .int .i64 4, .int .i64 2, .int .i64 8, .int .i64 8, .int .i64 8, .int .i64 16], .int .i64 3, z0] [] = some (.int .i64 0) := by kernel_rfl
theorem fc38 : callP (evN E2 100).1 true 83 [.int .i64 0, z0, .int .i64 1] [] = some (.int .i64 1) := by kernel_rfl
theorem fc42 : callP (evN E2 100).1 true 83 [.int .i64 1, z0, .int .i64 3] [] = some (.int .i64 2) := by kernel_rfl
theorem fc46 : callP (evN E2 100).1 true 83 [.int .i64 3, z0, .int .i64 1] [] = some (.int .i64 1) := by kernel_rfl
theorem fc50 : callP (evN E2 100).1 true 83 [.int .i64 4, z0, .int .i64 1] [] = some (.int .i64 7) := by kernel_rfl
theorem fc54 : callP (evN E2 100).1 true 83 [.int .i64 6, z0, .int .i64 1] [] = some (.int .i64 2) := by kernel_rfl
theorem fc58 : callP (evN E2 100).1 true 83 [.int .i64 7, z0, .int .i64 1] [] = some (.int .i64 1) := by kernel_rfl
theorem fc16 : callP (evN E2 100).1 true 82 [.int .i64 0, z0, .int .i64 3] [] = some (.bool false) := by kernel_rfl
theorem fc24 : callP (evN E2 100).1 true 82 [.int .i64 3, z0, .int .i64 3] [] = some (.bool false) := by kernel_rfl
theorem fc32 : callP (evN E2 100).1 true 82 [.int .i64 6, z0, .int .i64 3] [] = some (.bool false) := by kernel_rfl
theorem fc14 : callP (evN E2 100).1 true 82 [.int .i64 0, z0, .int .i64 1] [] = some (.bool false) := by kernel_rfl
theorem fc22 : callP (evN E2 100).1 true 82 [.int .i64 3, z0, .int .i64 1] [] = some (.bool false) := by kernel_rfl
theorem fc30 : callP (evN E2 100).1 true 82 [.int .i64 6, z0, .int .i64 1] [] = some (.bool false) := by kernel_rfl
end Go.Ab
