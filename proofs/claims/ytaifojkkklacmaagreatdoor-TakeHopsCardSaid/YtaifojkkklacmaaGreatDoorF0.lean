/- What fingers tells: two closed runs. -/
import Derived.Test.YtaifojkkklacmaaGreatDoorB1
import Derived.Test.YtaifojkkklacmaaGreatDoorA3
set_option linter.unusedVariables false
set_option linter.unusedSimpArgs false
set_option linter.unusedSectionVars false
set_option linter.unnecessarySimpa false
set_option maxRecDepth 100000
namespace Go.Ab
open Go
theorem fing0 : (evN (W1.En sy0 sc0 pr0) 100).1 205 [.imm [[.int .i64 0], [.int .i64 1], [.int .i64 2], [.int .i64 3], [.int .i64 4], [.int .i64 5], [.int .i64 6], [.int .i64 7]], .int .i64 0] [] = some (.own 1 0 3, [⟨1, true, [[.int .i64 1], [.int .i64 2], [.int .i64 5], []]⟩, ⟨1, false, [[.int .i64 1], [.int .i64 2], [.int .i64 5]]⟩]) := by kernel_rfl
end Go.Ab

set_option maxRecDepth 100000
namespace Go.Ab
open Go
theorem fing1 : (evN (W1.En sy0 sc0 pr0) 100).1 205 [.imm [[.int .i64 0], [.int .i64 1], [.int .i64 2], [.int .i64 3], [.int .i64 4], [.int .i64 5], [.int .i64 6], [.int .i64 7]], .int .i64 1] [] = some (.own 1 0 3, [⟨1, true, [[.int .i64 2], [.int .i64 5], [.int .i64 6], []]⟩, ⟨1, false, [[.int .i64 2], [.int .i64 5], [.int .i64 6]]⟩]) := by kernel_rfl
end Go.Ab
