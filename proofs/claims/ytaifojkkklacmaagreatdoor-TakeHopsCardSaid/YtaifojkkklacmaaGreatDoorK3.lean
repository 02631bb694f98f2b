/- TakeHops' runs at topic 3. -/
import Derived.Test.YtaifojkkklacmaaGreatDoorTh
set_option linter.unusedVariables false
set_option linter.unusedSimpArgs false
set_option linter.unusedSectionVars false
set_option linter.unnecessarySimpa false
set_option maxRecDepth 100000
namespace Go.Ab
open Go
theorem th0_3_0 : runP (evN (EH0 3 0) 60).1 4 argsH = some (.bool true) := by kernel_rfl
theorem th1_3_0 : runP (evN (EH1 3 0) 60).1 4 argsH = some (.bool true) := by kernel_rfl
theorem th0_3_1 : runP (evN (EH0 3 1) 60).1 4 argsH = some (.bool true) := by kernel_rfl
theorem th1_3_1 : runP (evN (EH1 3 1) 60).1 4 argsH = some (.bool true) := by kernel_rfl
theorem th0_3_2 : runP (evN (EH0 3 2) 60).1 4 argsH = some (.bool true) := by kernel_rfl
theorem th1_3_2 : runP (evN (EH1 3 2) 60).1 4 argsH = some (.bool true) := by kernel_rfl
theorem th0_3_3 : runP (evN (EH0 3 3) 60).1 4 argsH = some (.bool true) := by kernel_rfl
theorem th1_3_3 : runP (evN (EH1 3 3) 60).1 4 argsH = some (.bool true) := by kernel_rfl
theorem th0_3_4 : runP (evN (EH0 3 4) 60).1 4 argsH = some (.bool true) := by kernel_rfl
theorem th1_3_4 : runP (evN (EH1 3 4) 60).1 4 argsH = some (.bool true) := by kernel_rfl
theorem th0_3_5 : runP (evN (EH0 3 5) 60).1 4 argsH = some (.bool true) := by kernel_rfl
theorem th1_3_5 : runP (evN (EH1 3 5) 60).1 4 argsH = some (.bool true) := by kernel_rfl
end Go.Ab
