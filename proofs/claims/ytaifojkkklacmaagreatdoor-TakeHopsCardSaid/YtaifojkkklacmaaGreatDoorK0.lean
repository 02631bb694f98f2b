/- TakeHops' runs at topic 0. -/
import Derived.Test.YtaifojkkklacmaaGreatDoorTh
set_option linter.unusedVariables false
set_option linter.unusedSimpArgs false
set_option linter.unusedSectionVars false
set_option linter.unnecessarySimpa false
set_option maxRecDepth 100000
namespace Go.Ab
open Go
theorem th0_0_0 : runP (evN (EH0 0 0) 60).1 4 argsH = some (.bool true) := by kernel_rfl
theorem th1_0_0 : runP (evN (EH1 0 0) 60).1 4 argsH = some (.bool true) := by kernel_rfl
theorem th0_0_1 : runP (evN (EH0 0 1) 60).1 4 argsH = some (.bool true) := by kernel_rfl
theorem th1_0_1 : runP (evN (EH1 0 1) 60).1 4 argsH = some (.bool true) := by kernel_rfl
theorem th0_0_2 : runP (evN (EH0 0 2) 60).1 4 argsH = some (.bool true) := by kernel_rfl
theorem th1_0_2 : runP (evN (EH1 0 2) 60).1 4 argsH = some (.bool true) := by kernel_rfl
theorem th0_0_3 : runP (evN (EH0 0 3) 60).1 4 argsH = some (.bool true) := by kernel_rfl
theorem th1_0_3 : runP (evN (EH1 0 3) 60).1 4 argsH = some (.bool true) := by kernel_rfl
theorem th0_0_4 : runP (evN (EH0 0 4) 60).1 4 argsH = some (.bool true) := by kernel_rfl
theorem th1_0_4 : runP (evN (EH1 0 4) 60).1 4 argsH = some (.bool true) := by kernel_rfl
theorem th0_0_5 : runP (evN (EH0 0 5) 60).1 4 argsH = some (.bool true) := by kernel_rfl
theorem th1_0_5 : runP (evN (EH1 0 5) 60).1 4 argsH = some (.bool true) := by kernel_rfl
end Go.Ab
