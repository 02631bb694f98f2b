/- TakeHops' runs at topic 1. -/
import Derived.Test.YtaifojkkklacmaaGreatDoorTh
set_option linter.unusedVariables false
set_option linter.unusedSimpArgs false
set_option linter.unusedSectionVars false
set_option linter.unnecessarySimpa false
set_option maxRecDepth 100000
namespace Go.Ab
open Go
theorem th0_1_0 : runP (evN (EH0 1 0) 60).1 4 argsH = some (.bool true) := by kernel_rfl
theorem th1_1_0 : runP (evN (EH1 1 0) 60).1 4 argsH = some (.bool true) := by kernel_rfl
theorem th0_1_1 : runP (evN (EH0 1 1) 60).1 4 argsH = some (.bool true) := by kernel_rfl
theorem th1_1_1 : runP (evN (EH1 1 1) 60).1 4 argsH = some (.bool true) := by kernel_rfl
theorem th0_1_2 : runP (evN (EH0 1 2) 60).1 4 argsH = some (.bool true) := by kernel_rfl
theorem th1_1_2 : runP (evN (EH1 1 2) 60).1 4 argsH = some (.bool true) := by kernel_rfl
theorem th0_1_3 : runP (evN (EH0 1 3) 60).1 4 argsH = some (.bool true) := by kernel_rfl
theorem th1_1_3 : runP (evN (EH1 1 3) 60).1 4 argsH = some (.bool true) := by kernel_rfl
theorem th0_1_4 : runP (evN (EH0 1 4) 60).1 4 argsH = some (.bool true) := by kernel_rfl
theorem th1_1_4 : runP (evN (EH1 1 4) 60).1 4 argsH = some (.bool true) := by kernel_rfl
theorem th0_1_5 : runP (evN (EH0 1 5) 60).1 4 argsH = some (.bool true) := by kernel_rfl
theorem th1_1_5 : runP (evN (EH1 1 5) 60).1 4 argsH = some (.bool true) := by kernel_rfl
end Go.Ab
