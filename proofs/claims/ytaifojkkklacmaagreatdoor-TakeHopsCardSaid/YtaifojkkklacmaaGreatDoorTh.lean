/- What is known of TakeHops' numbers. -/
import Derived.Test.YtaifojkkklacmaaGreatDoorTb
set_option linter.unusedVariables false
set_option linter.unusedSimpArgs false
set_option linter.unusedSectionVars false
set_option linter.unnecessarySimpa false
set_option maxRecDepth 100000
namespace Go.Ab
open Go
/-! TakeHops: what is known of its numbers. -/
def scH : IntKind → A → Option A := fun k x => match k, x with
  | .u64, .sym .i64 10 => some (.sym .u64 20)
  | .u64, .sym .i64 11 => some (.sym .u64 21)
  | .u64, .sym .i64 12 => some (.sym .u64 22)
  | .u64, .sym .i64 13 => some (.sym .u64 23)
  | .i64, .sym .u64 32 => some (.sym .i64 42)
  | .i64, .sym .u64 33 => some (.sym .i64 44)
  | _, _ => none
/-- fewer hops than may be -/
def syH0 (T B : Int) : BinOp → A → A → Option A := fun op x y => match op, x, y with
  | .rem, .sym .u64 20, .int .u64 4 => some (.int .u64 T)
  | .rem, .sym .u64 21, .int .u64 6 => some (.int .u64 B)
  | .rem, .sym .u64 22, .int .u64 17 => some (.sym .u64 32)
  | .rem, .sym .u64 23, .int .u64 1000 => some (.sym .u64 33)
  | .add, .sym .i64 42, .int .i64 1 => some (.sym .i64 43)
  | .eql, .sym .i64 42, .int .i64 16 => some (.bool false)
  | .eql, .sym .i64 43, .sym .i64 43 => some (.bool true)
  | .eql, .sym .i64 44, .sym .i64 44 => some (.bool true)
  | .geq, .sym .i64 42, .int .i64 0 => some (.bool true)
  | .geq, .sym .i64 43, .int .i64 0 => some (.bool true)
  | .geq, .sym .i64 44, .int .i64 0 => some (.bool true)
  | .leq, .sym .i64 42, .int .i64 16 => some (.bool true)
  | .leq, .sym .i64 43, .int .i64 16 => some (.bool true)
  | .leq, .sym .i64 44, .int .i64 2147483647 => some (.bool true)
  | .lss, .sym .i64 42, .int .i64 16 => some (.bool true)
  | _, _, _ => none
/-- as many hops as may be -/
def syH1 (T B : Int) : BinOp → A → A → Option A := fun op x y => match op, x, y with
  | .rem, .sym .u64 20, .int .u64 4 => some (.int .u64 T)
  | .rem, .sym .u64 21, .int .u64 6 => some (.int .u64 B)
  | .rem, .sym .u64 22, .int .u64 17 => some (.int .u64 16)
  | .rem, .sym .u64 23, .int .u64 1000 => some (.sym .u64 33)
  | .geq, .sym .i64 44, .int .i64 0 => some (.bool true)
  | .leq, .sym .i64 44, .int .i64 2147483647 => some (.bool true)
  | _, _, _ => none
def argsH : List A := [.sym .i64 10, .sym .i64 11, .sym .i64 12, .sym .i64 13]
noncomputable def EH0 (T B : Int) : Env := W1.En (syH0 T B) scH (factP tbl2)
noncomputable def EH1 (T B : Int) : Env := W1.En (syH1 T B) scH (factP tbl2)
end Go.Ab
