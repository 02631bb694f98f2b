/- TakeHops' runs at topic 2. -/
import Derived.Test.YtaifojkkklacmaaGreatDoorTh
set_option linter.unusedVariables false
set_option linter.unusedSimpArgs false
set_option linter.unusedSectionVars false
set_option linter.unnecessarySimpa false
set_option maxRecDepth 100000
namespace Go.Ab
open Go
theorem th0_2_0 : runP (evN (EH0 2 0) 60).1 4 argsH = some (.bool true) := by kernel_rfl
theorem th1_2_0 : runP (evN (EH1 2 0) 60).1 4 argsH = some (.bool true) := by kernel_rfl
theorem th0_2_1 : runP (evN (EH0 2 1) 60).1 4 argsH = some (.bool true) := by kernel_rfl
theorem th1_2_1 : runP (evN (EH1 2 1) 60).1 4 argsH = some (.bool true) := by kernel_rfl
theorem th0_2_2 : runP (evN (EH0 2 2) 60).1 4 argsH = some (.bool true) := by kernel_rfl
theorem th1_2_2 : runP (evN (EH1 2 2) 60).1 4 argsH = some (.bool true) := by kernel_rfl
theorem th0_2_3 : runP (evN (EH0 2 3) 60).1 4 argsH = some (.bool true) := by kernel_rfl
theorem th1_2_3 : runP (evN (EH1 2 3) 60).1 4 argsH = some (.bool true) := by kernel_rfl
theorem th0_2_4 : runP (evN (EH0 2 4) 60).1 4 argsH = some (.bool true) := by kernel_rfl
theorem th1_2_4 : runP (evN (EH1 2 4) 60).1 4 argsH = some (.bool true) := by kernel_rfl
theorem th0_2_5 : runP (evN (EH0 2 5) 60).1 4 argsH = some (.bool true) := by kernel_rfl
theorem th1_2_5 : runP (evN (EH1 2 5) 60).1 4 argsH = some (.bool true) := by kernel_rfl
end Go.Ab
