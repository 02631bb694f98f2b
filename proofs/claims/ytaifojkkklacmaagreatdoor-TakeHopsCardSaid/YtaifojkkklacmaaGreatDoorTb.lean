/- Tables of closed calls. -/
import Derived.Test.YtaifojkkklacmaaGreatDoorA3
import Derived.Test.YtaifojkkklacmaaGreatDoorB1
import Derived.Test.YtaifojkkklacmaaGreatDoorF0
import Derived.Test.YtaifojkkklacmaaGreatDoorF1
import Derived.Test.YtaifojkkklacmaaGreatDoorF2
import Derived.Test.YtaifojkkklacmaaGreatDoorF3
set_option linter.unusedVariables false
set_option linter.unusedSimpArgs false
set_option linter.unusedSectionVars false
set_option linter.unnecessarySimpa false
set_option maxRecDepth 100000
namespace Go.Ab
open Go
def z0 : A := .agg [.bool true, .int .i64 5, .imm [[.int .i64 3, .int .i64 0], [.int .i64 3, .int .i64 0], [.int .i64 3, .int .i64 0], [.int .i64 3, .int .i64 0], [.int .i64 3, .int .i64 0], [.int .i64 3, .int .i64 0], [.int .i64 3, .int .i64 0], [.int .i64 3, .int .i64 0]], .imm [[.bool false, .bool false, .int .i64 0, .int .i64 0, .int .i64 0, .int .i64 0, .int .i64 0, .int .i64 0, .imm [], .imm [], .int .i64 0, .int .i64 0, .int .i64 0, .imm [], .imm [], .imm []], [.bool false, .bool false, .int .i64 0, .int .i64 0, .int .i64 0, .int .i64 0, .int .i64 0, .int .i64 0, .imm [], .imm [], .int .i64 0, .int .i64 0, .int .i64 0, .imm [], .imm [], .imm []], [.bool false, .bool false, .int .i64 0, .int .i64 0, .int .i64 0, .int .i64 0, .int .i64 0, .int .i64 0, .imm [], .imm [], .int .i64 0, .int .i64 0, .int .i64 0, .imm [], .imm [], .imm []], [.bool false, .bool false, .int .i64 0, .int .i64 0, .int .i64 0, .int .i64 0, .int .i64 0, .int .i64 0, .imm [], .imm [], .int .i64 0, .int .i64 0, .int .i64 0, .imm [], .imm [], .imm []]], .imm [], .int .i64 0, .int .i64 0, .imm [[.int .i64 0, .int .i64 0, .int .i64 0], [.int .i64 0, .int .i64 0, .int .i64 0], [.int .i64 0, .int .i64 0, .int .i64 0], [.int .i64 0, .int .i64 0, .int .i64 0], [.int .i64 0, .int .i64 0, .int .i64 0], [.int .i64 0, .int .i64 0, .int .i64 0], [.int .i64 0, .int .i64 0, .int .i64 0], [.int .i64 0, .int .i64 0, .int .i64 0]], .imm []]
def z1 : A := .imm [[.int .i64 1], [.int .i64 7], [.int .i64 0], [.int .i64 3], [.int .i64 4], [.int .i64 2], [.int .i64 6], [.int .i64 5]]
def z2 : A := .imm [[.int .i64 2], [.int .i64 6], [.int .i64 5], [.int .i64 1], [.int .i64 7], [.int .i64 0], [.int .i64 3], [.int .i64 4]]
def tblF : Tbl := fun f => match f with
  | 205 => [([.imm [[.int .i64 0], [.int .i64 1], [.int .i64 2], [.int .i64 3], [.int .i64 4], [.int .i64 5], [.int .i64 6], [.int .i64 7]], .int .i64 0], .own 1 0 3, [⟨1, true, [[.int .i64 1], [.int .i64 2], [.int .i64 5], []]⟩, ⟨1, false, [[.int .i64 1], [.int .i64 2], [.int .i64 5]]⟩]),
    ([.imm [[.int .i64 0], [.int .i64 1], [.int .i64 2], [.int .i64 3], [.int .i64 4], [.int .i64 5], [.int .i64 6], [.int .i64 7]], .int .i64 1], .own 1 0 3, [⟨1, true, [[.int .i64 2], [.int .i64 5], [.int .i64 6], []]⟩, ⟨1, false, [[.int .i64 2], [.int .i64 5], [.int .i64 6]]⟩]),
    ([.imm [[.int .i64 0], [.int .i64 1], [.int .i64 2], [.int .i64 3], [.int .i64 4], [.int .i64 5], [.int .i64 6], [.int .i64 7]], .int .i64 2], .own 1 0 1, [⟨1, true, [[.int .i64 3], []]⟩, ⟨1, false, [[.int .i64 3]]⟩]),
    ([.imm [[.int .i64 0], [.int .i64 1], [.int .i64 2], [.int .i64 3], [.int .i64 4], [.int .i64 5], [.int .i64 6], [.int .i64 7]], .int .i64 3], .own 1 0 4, [⟨1, true, [[.int .i64 0], [.int .i64 0], [.int .i64 1], [.int .i64 5], [.int .i64 6], []]⟩, ⟨1, false, [[.int .i64 0], [.int .i64 1], [.int .i64 5], [.int .i64 6]]⟩]),
    ([.imm [[.int .i64 0], [.int .i64 1], [.int .i64 2], [.int .i64 3], [.int .i64 4], [.int .i64 5], [.int .i64 6], [.int .i64 7]], .int .i64 4], .own 1 0 5, [⟨1, true, [[.int .i64 0], [.int .i64 0], [.int .i64 3], [.int .i64 3], [.int .i64 5], [.int .i64 6], [.int .i64 7], []]⟩, ⟨1, false, [[.int .i64 0], [.int .i64 3], [.int .i64 5], [.int .i64 6], [.int .i64 7]]⟩]),
    ([.imm [[.int .i64 0], [.int .i64 1], [.int .i64 2], [.int .i64 3], [.int .i64 4], [.int .i64 5], [.int .i64 6], [.int .i64 7]], .int .i64 5], .own 1 0 2, [⟨1, true, [[.int .i64 2], [.int .i64 6], [.int .i64 6], []]⟩, ⟨1, false, [[.int .i64 2], [.int .i64 6]]⟩]),
    ([.imm [[.int .i64 0], [.int .i64 1], [.int .i64 2], [.int .i64 3], [.int .i64 4], [.int .i64 5], [.int .i64 6], [.int .i64 7]], .int .i64 6], .own 1 0 1, [⟨1, true, [[.int .i64 2], [.int .i64 2], []]⟩, ⟨1, false, [[.int .i64 2]]⟩]),
    ([.imm [[.int .i64 0], [.int .i64 1], [.int .i64 2], [.int .i64 3], [.int .i64 4], [.int .i64 5], [.int .i64 6], [.int .i64 7]], .int .i64 7], .own 1 0 3, [⟨1, true, [[.int .i64 1], [.int .i64 1], [.int .i64 1], [.int .i64 2], [.int .i64 5], []]⟩, ⟨1, false, [[.int .i64 1], [.int .i64 2], [.int .i64 5]]⟩])]
  | _ => []
noncomputable def E2 : Env := W1.En sy0 sc0 (factP tblF)
def tbl2 : Tbl := fun f => match f with
  | 7 => [([.int .i64 0], z1, []),
    ([.int .i64 1], z1, []),
    ([.int .i64 2], z2, []),
    ([.int .i64 3], z2, [])]
  | 12 => [([z0, z0], .bool true, [])]
  | 32 => [([.agg [.int .i64 8, .int .i64 4, .int .i64 2, .int .i64 8, .int .i64 8, .int .i64 8, .int .i64 16], .int .i64 0, z0], .int .i64 0, []),
    ([.agg [.int .i64 8, .int .i64 4, .int .i64 2, .int .i64 8, .int .i64 8, .int .i64 8, .int .i64 16], .int .i64 1, z0], .int .i64 0, []),
    ([.agg [.int .i64 8, .int .i64 4, .int .i64 2, .int .i64 8, .int .i64 8, .int .i64 8, .int .i64 16], .int .i64 2, z0], .int .i64 0, []),
    ([.agg [.int .i64 8, .int .i64 4, .int .i64 2, .int .i64 8, .int .i64 8, .int .i64 8, .int .i64 16], .int .i64 3, z0], .int .i64 0, []),
    ([.agg [.int .i64 8, .int .i64 4, .int .i64 2, .int .i64 8, .int .i64 8, .int .i64 8, .int .i64 16], .int .i64 4, z0], .int .i64 0, []),
    ([.agg [.int .i64 8, .int .i64 4, .int .i64 2, .int .i64 8, .int .i64 8, .int .i64 8, .int .i64 16], .int .i64 5, z0], .int .i64 0, []),
    ([.agg [.int .i64 8, .int .i64 4, .int .i64 2, .int .i64 8, .int .i64 8, .int .i64 8, .int .i64 16], .int .i64 6, z0], .int .i64 0, []),
    ([.agg [.int .i64 8, .int .i64 4, .int .i64 2, .int .i64 8, .int .i64 8, .int .i64 8, .int .i64 16], .int .i64 7, z0], .int .i64 0, [])]
  | 82 => [([.int .i64 0, z0, .int .i64 0], .bool false, []),
    ([.int .i64 0, z0, .int .i64 1], .bool false, []),
    ([.int .i64 0, z0, .int .i64 2], .bool false, []),
    ([.int .i64 0, z0, .int .i64 3], .bool false, []),
    ([.int .i64 1, z0, .int .i64 2], .bool false, []),
    ([.int .i64 1, z0, .int .i64 3], .bool false, []),
    ([.int .i64 2, z0, .int .i64 0], .bool false, []),
    ([.int .i64 2, z0, .int .i64 1], .bool false, []),
    ([.int .i64 3, z0, .int .i64 0], .bool false, []),
    ([.int .i64 3, z0, .int .i64 1], .bool false, []),
    ([.int .i64 3, z0, .int .i64 2], .bool false, []),
    ([.int .i64 3, z0, .int .i64 3], .bool false, []),
    ([.int .i64 4, z0, .int .i64 0], .bool false, []),
    ([.int .i64 4, z0, .int .i64 1], .bool false, []),
    ([.int .i64 5, z0, .int .i64 2], .bool false, []),
    ([.int .i64 5, z0, .int .i64 3], .bool false, []),
    ([.int .i64 6, z0, .int .i64 0], .bool false, []),
    ([.int .i64 6, z0, .int .i64 1], .bool false, []),
    ([.int .i64 6, z0, .int .i64 2], .bool false, []),
    ([.int .i64 6, z0, .int .i64 3], .bool false, []),
    ([.int .i64 7, z0, .int .i64 0], .bool false, []),
    ([.int .i64 7, z0, .int .i64 1], .bool false, []),
    ([.int .i64 7, z0, .int .i64 2], .bool false, []),
    ([.int .i64 7, z0, .int .i64 3], .bool false, [])]
  | 83 => [([.int .i64 0, z0, .int .i64 0], .int .i64 1, []),
    ([.int .i64 0, z0, .int .i64 1], .int .i64 1, []),
    ([.int .i64 0, z0, .int .i64 2], .int .i64 2, []),
    ([.int .i64 0, z0, .int .i64 3], .int .i64 2, []),
    ([.int .i64 1, z0, .int .i64 2], .int .i64 2, []),
    ([.int .i64 1, z0, .int .i64 3], .int .i64 2, []),
    ([.int .i64 2, z0, .int .i64 0], .int .i64 3, []),
    ([.int .i64 2, z0, .int .i64 1], .int .i64 3, []),
    ([.int .i64 3, z0, .int .i64 0], .int .i64 1, []),
    ([.int .i64 3, z0, .int .i64 1], .int .i64 1, []),
    ([.int .i64 3, z0, .int .i64 2], .int .i64 6, []),
    ([.int .i64 3, z0, .int .i64 3], .int .i64 6, []),
    ([.int .i64 4, z0, .int .i64 0], .int .i64 7, []),
    ([.int .i64 4, z0, .int .i64 1], .int .i64 7, []),
    ([.int .i64 5, z0, .int .i64 2], .int .i64 2, []),
    ([.int .i64 5, z0, .int .i64 3], .int .i64 2, []),
    ([.int .i64 6, z0, .int .i64 0], .int .i64 2, []),
    ([.int .i64 6, z0, .int .i64 1], .int .i64 2, []),
    ([.int .i64 6, z0, .int .i64 2], .int .i64 2, []),
    ([.int .i64 6, z0, .int .i64 3], .int .i64 2, []),
    ([.int .i64 7, z0, .int .i64 0], .int .i64 1, []),
    ([.int .i64 7, z0, .int .i64 1], .int .i64 1, []),
    ([.int .i64 7, z0, .int .i64 2], .int .i64 2, []),
    ([.int .i64 7, z0, .int .i64 3], .int .i64 2, [])]
  | _ => []
end Go.Ab
