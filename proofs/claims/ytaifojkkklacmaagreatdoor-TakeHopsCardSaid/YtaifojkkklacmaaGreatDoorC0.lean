/- Closed calls on TakeHops' road. -/
import Derived.Test.YtaifojkkklacmaaGreatDoorTb
set_option linter.unusedVariables false
set_option linter.unusedSimpArgs false
set_option linter.unusedSectionVars false
set_option linter.unnecessarySimpa false
set_option maxRecDepth 100000
namespace Go.Ab
open Go
theorem fc2 : callP (evN E2 100).1 true 7 [.int .i64 2] [] = some (z2) := by kernel_rfl
theorem fc11 : callP (evN E2 100).1 true 32 [.agg [.int .i64 8, .int .i64 4, .int .i64 2, .int .i64 8, .int .i64 8, .int .i64 8, .int .i64 16], .int .i64 6, z0] [] = some (.int .i64 0) := by kernel_rfl
theorem fc12 : callP (evN E2 100).1 true 32 [.agg [.int .i64 8, .int .i64 4, .int .i64 2, .int .i64 8, .int .i64 8, .int .i64 8, .int .i64 16], .int .i64 7, z0] [] = some (.int .i64 0) := by kernel_rfl
theorem fc40 : callP (evN E2 100).1 true 83 [.int .i64 0, z0, .int .i64 3] [] = some (.int .i64 2) := by kernel_rfl
theorem fc44 : callP (evN E2 100).1 true 83 [.int .i64 2, z0, .int .i64 1] [] = some (.int .i64 3) := by kernel_rfl
theorem fc48 : callP (evN E2 100).1 true 83 [.int .i64 3, z0, .int .i64 3] [] = some (.int .i64 6) := by kernel_rfl
theorem fc52 : callP (evN E2 100).1 true 83 [.int .i64 5, z0, .int .i64 3] [] = some (.int .i64 2) := by kernel_rfl
theorem fc56 : callP (evN E2 100).1 true 83 [.int .i64 6, z0, .int .i64 3] [] = some (.int .i64 2) := by kernel_rfl
theorem fc60 : callP (evN E2 100).1 true 83 [.int .i64 7, z0, .int .i64 3] [] = some (.int .i64 2) := by kernel_rfl
theorem fc18 : callP (evN E2 100).1 true 82 [.int .i64 1, z0, .int .i64 3] [] = some (.bool false) := by kernel_rfl
theorem fc28 : callP (evN E2 100).1 true 82 [.int .i64 5, z0, .int .i64 3] [] = some (.bool false) := by kernel_rfl
theorem fc36 : callP (evN E2 100).1 true 82 [.int .i64 7, z0, .int .i64 3] [] = some (.bool false) := by kernel_rfl
theorem fc20 : callP (evN E2 100).1 true 82 [.int .i64 2, z0, .int .i64 1] [] = some (.bool false) := by kernel_rfl
theorem fc26 : callP (evN E2 100).1 true 82 [.int .i64 4, z0, .int .i64 1] [] = some (.bool false) := by kernel_rfl
theorem fc34 : callP (evN E2 100).1 true 82 [.int .i64 7, z0, .int .i64 1] [] = some (.bool false) := by kernel_rfl
end Go.Ab

set_option maxRecDepth 100000
namespace Go.Ab
open Go
theorem fc3 : callP (evN E2 100).1 true 7 [.int .i64 3] [] = some (z2) := by kernel_rfl
theorem fc5 : callP (evN E2 100).1 true 32 [.agg [.int .i64 8, .int .i64 4, .int .i64 2, .int .i64 8, .int .i64 8, .int .i64 8, .int .i64 16], .int .i64 0, z0] [] = some (.int .i64 0) := by kernel_rfl
theorem fc9 : callP (evN E2 100).1 true 32 [.agg [.int .i64 8, .int .i64 4, .int .i64 2, .int .i64 8, .int .i64 8, .int .i64 8, .int .i64 16], .int .i64 4, z0] [] = some (.int .i64 0) := by kernel_rfl
theorem fc39 : callP (evN E2 100).1 true 83 [.int .i64 0, z0, .int .i64 2] [] = some (.int .i64 2) := by kernel_rfl
theorem fc43 : callP (evN E2 100).1 true 83 [.int .i64 2, z0, .int .i64 0] [] = some (.int .i64 3) := by kernel_rfl
theorem fc47 : callP (evN E2 100).1 true 83 [.int .i64 3, z0, .int .i64 2] [] = some (.int .i64 6) := by kernel_rfl
theorem fc51 : callP (evN E2 100).1 true 83 [.int .i64 5, z0, .int .i64 2] [] = some (.int .i64 2) := by kernel_rfl
theorem fc55 : callP (evN E2 100).1 true 83 [.int .i64 6, z0, .int .i64 2] [] = some (.int .i64 2) := by kernel_rfl
theorem fc59 : callP (evN E2 100).1 true 83 [.int .i64 7, z0, .int .i64 2] [] = some (.int .i64 2) := by kernel_rfl
theorem fc17 : callP (evN E2 100).1 true 82 [.int .i64 1, z0, .int .i64 2] [] = some (.bool false) := by kernel_rfl
theorem fc27 : callP (evN E2 100).1 true 82 [.int .i64 5, z0, .int .i64 2] [] = some (.bool false) := by kernel_rfl
theorem fc35 : callP (evN E2 100).1 true 82 [.int .i64 7, z0, .int .i64 2] [] = some (.bool false) := by kernel_rfl
theorem fc19 : callP (evN E2 100).1 true 82 [.int .i64 2, z0, .int .i64 0] [] = some (.bool false) := by kernel_rfl
theorem fc25 : callP (evN E2 100).1 true 82 [.int .i64 4, z0, .int .i64 0] [] = some (.bool false) := by kernel_rfl
theorem fc33 : callP (evN E2 100).1 true 82 [.int .i64 7, z0, .int .i64 0] [] = some (.bool false) := by kernel_rfl
end Go.Ab
