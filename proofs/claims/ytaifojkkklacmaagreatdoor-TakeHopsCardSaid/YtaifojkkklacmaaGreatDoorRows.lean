/-
  NARROWER THAN 'FOR EVERY INPUT', by the rows' own cells (each row's printed sentence says how): TakePubs: laid · TakeHops: laid · TakeNacks: laid.
  DERIVED. THE GIVEN ROWS OF THIS SEAT. 3 by the template 'for every input the law returns true; each argument reads behind the call as it read before'; 0 by the template 'total and deterministic' (their statements: YtaifojkkklacmaaGreatDoorTotals.lean).
  GIVEN WITH THE SEED: the statements are not yours to turn. If you find one false, say at which input.
  Laid BY PROGRAM, IN A SANDBOX (cutbox-rows.mjs): the forced cells as the released guide's own fill.sh prints them over the translation 9986e5e5dfe0b0df… (all of the seat's roots in one cut). By AI agents, Wed Nov 11 2026. No macro, syntax, notation, axiom, sorry.
-/
import Derived.Test.YtaifojkkklacmaaGreatDoorChecked
import GoSem.Claim
import GoSem.ClaimJoined
import GoSem.ClaimMapViews
import Derived.JoinedTies
import Derived.KernelRfl
namespace Go.Proofs.YtaifojkkklacmaaGreatDoor
/- THE CELL 'sum', in the pinned program and in every row, IS THE sha256 OF THE DUMP (.gsa) THAT YtaifojkkklacmaaGreatDoorProg.lean LOADS. Nothing in Lean hashes anything: it is a label: what it is worth is what the hold of that sum in a sandbox is worth. -/
noncomputable def Tryz.pinned : Pinned := { name := "ytaifojkkklacmaagreatdoor", sum := "9986e5e5dfe0b0dfb722b7d94a73a1fe1eb9f7b89195384ca4b4dadb87b8e836", checked := Tryz.checked }
namespace Rows
def none {H : Type} : Left H := { results := [], args := [] }

/- WHAT THE LISTED PACKAGE-LEVEL VARIABLES READ AS WHEN THE CALL BEGINS. Each datum BY PROGRAM (the guide's laid-datum.mjs) off the statement by which the dump's own 'gosem.cut.vars' lays the variable. In a bare row this is a premise. The card (YtaifojkkklacmaaGreatDoorCards.lean) ties it to the program's text. -/
def laid_errors_errorType {H : Type} : DataW H := .iface "internal/reflectlite.rtype" (.agg [.ptr (.lit (.string [101, 114, 114, 111, 114]))])

/-- 'bellwetherlaw23.TakePubs': WHATEVER THE INPUT: true; the input reads as it did. -/
def takePubsSpec : ChangeSpec := { name := "takePubs", fn := fun _ => fun
  | [d1, d2, d3] => { results := [.lit (.bool true)], args := [d1, d2, d3] }
  | _ => none }
def takePubsRow : OpenClaim := { program := "ytaifojkkklacmaagreatdoor", sum := "9986e5e5dfe0b0dfb722b7d94a73a1fe1eb9f7b89195384ca4b4dadb87b8e836", func := "bellwether/bellwetherlaw23.TakePubs", spec := "takePubs", inPlace := ["internal/reflectlite.TypeOf", "internal/reflectlite.ValueOf", "(internal/reflectlite.Value).Type", "(internal/reflectlite.Value).IsNil", "(internal/reflectlite.Value).Elem", "(internal/reflectlite.Value).Set", "slices.overlaps[bellwether/api.Item]", "slices.overlaps[bellwether/api.Kid]"], unfollowed := true, recurses := true, named := ["errors.errorType"], apart := false, laid := [("errors.errorType", laid_errors_errorType)] }
def TakePubsSaid : Prop := takePubsRow.holds Tryz.pinned (OpenSpec.ofChange takePubsSpec)

/-- ITS FALSE NEIGHBOUR: 'it returns false'. Refute it at one input. -/
def takePubsWrong : ChangeSpec := { name := "takePubs", fn := fun _ => fun
  | [d1, d2, d3] => { results := [.lit (.bool false)], args := [d1, d2, d3] }
  | _ => none }
def TakePubsWrongFalsely : Prop := takePubsRow.holds Tryz.pinned (OpenSpec.ofChange takePubsWrong)

/-- 'bellwetherlaw23.TakeHops': WHATEVER THE INPUT: true; the input reads as it did. -/
def takeHopsSpec : ChangeSpec := { name := "takeHops", fn := fun _ => fun
  | [d1, d2, d3, d4] => { results := [.lit (.bool true)], args := [d1, d2, d3, d4] }
  | _ => none }
def takeHopsRow : OpenClaim := { program := "ytaifojkkklacmaagreatdoor", sum := "9986e5e5dfe0b0dfb722b7d94a73a1fe1eb9f7b89195384ca4b4dadb87b8e836", func := "bellwether/bellwetherlaw23.TakeHops", spec := "takeHops", inPlace := ["internal/reflectlite.TypeOf", "internal/reflectlite.ValueOf", "(internal/reflectlite.Value).Type", "(internal/reflectlite.Value).IsNil", "(internal/reflectlite.Value).Elem", "(internal/reflectlite.Value).Set", "slices.overlaps[bellwether/api.Item]", "slices.overlaps[bellwether/api.Kid]"], unfollowed := true, recurses := true, named := ["errors.errorType"], apart := false, laid := [("errors.errorType", laid_errors_errorType)] }
def TakeHopsSaid : Prop := takeHopsRow.holds Tryz.pinned (OpenSpec.ofChange takeHopsSpec)

/-- ITS FALSE NEIGHBOUR: 'it returns false'. Refute it at one input. -/
def takeHopsWrong : ChangeSpec := { name := "takeHops", fn := fun _ => fun
  | [d1, d2, d3, d4] => { results := [.lit (.bool false)], args := [d1, d2, d3, d4] }
  | _ => none }
def TakeHopsWrongFalsely : Prop := takeHopsRow.holds Tryz.pinned (OpenSpec.ofChange takeHopsWrong)

/-- 'bellwetherlaw23.TakeNacks': WHATEVER THE INPUT: true; the input reads as it did. -/
def takeNacksSpec : ChangeSpec := { name := "takeNacks", fn := fun _ => fun
  | [d1, d2, d3, d4, d5] => { results := [.lit (.bool true)], args := [d1, d2, d3, d4, d5] }
  | _ => none }
def takeNacksRow : OpenClaim := { program := "ytaifojkkklacmaagreatdoor", sum := "9986e5e5dfe0b0dfb722b7d94a73a1fe1eb9f7b89195384ca4b4dadb87b8e836", func := "bellwether/bellwetherlaw23.TakeNacks", spec := "takeNacks", inPlace := ["internal/reflectlite.TypeOf", "internal/reflectlite.ValueOf", "(internal/reflectlite.Value).Type", "(internal/reflectlite.Value).IsNil", "(internal/reflectlite.Value).Elem", "(internal/reflectlite.Value).Set", "slices.overlaps[bellwether/api.Item]", "slices.overlaps[bellwether/api.Kid]"], unfollowed := true, recurses := true, named := ["errors.errorType"], apart := false, laid := [("errors.errorType", laid_errors_errorType)] }
def TakeNacksSaid : Prop := takeNacksRow.holds Tryz.pinned (OpenSpec.ofChange takeNacksSpec)

/-- ITS FALSE NEIGHBOUR: 'it returns false'. Refute it at one input. -/
def takeNacksWrong : ChangeSpec := { name := "takeNacks", fn := fun _ => fun
  | [d1, d2, d3, d4, d5] => { results := [.lit (.bool false)], args := [d1, d2, d3, d4, d5] }
  | _ => none }
def TakeNacksWrongFalsely : Prop := takeNacksRow.holds Tryz.pinned (OpenSpec.ofChange takeNacksWrong)

/- THE SECOND FORM. 'bulk': how many values and letters a reading holds, each counted each time it is reached (what is shared counts as often as it is met; a slice's spare places count too). A statement '..UptoSaid' is the law's where the arguments, and the package variables that the reading takes, are together of bulk at most 1048576: NARROWER than '..Said'. Prove '..Said' where nothing that the law and all that it calls make is longer than what came in: it says more and counts as full. Else prove '..UptoSaid'. A law counts once. -/
mutual
def uptoBulk {H : Type} : DataW H → Nat
  | .lit (.string bytes) => bytes.length + 1
  | .lit _ => 1
  | .nil => 1
  | .ptr d => uptoBulk d + 1
  | .slice elems spare => uptoBulkAll elems + uptoBulkAll spare + 1
  | .agg parts => uptoBulkAll parts + 1
  | .iface _ d => uptoBulk d + 1
  | .map entries => uptoBulkEntries entries + 1
  | .held _ => 1
def uptoBulkAll {H : Type} : List (DataW H) → Nat
  | [] => 0
  | d :: r => uptoBulk d + uptoBulkAll r
def uptoBulkEntries {H : Type} : List (Lit × DataW H) → Nat
  | [] => 0
  | x :: r => uptoBulkEntry x + uptoBulkEntries r
def uptoBulkEntry {H : Type} : Lit × DataW H → Nat
  | (.string bytes, d) => bytes.length + uptoBulk d + 1
  | (_, d) => uptoBulk d + 1
 end
def uptoSmall : (H : Type) → List (DataW H) → Bool := fun _ ds => decide (uptoBulkAll ds ≤ 1048576)
def OpenSpec.upto (s : _root_.Go.ChangeSpec) : _root_.Go.OpenSpec := { _root_.Go.OpenSpec.ofChange s with cond := some uptoSmall }

/-- 'bellwetherlaw23.TakePubs', WHERE WHAT IT READS IS OF BULK AT MOST 1048576: true; the input reads as it did. -/
def takePubsUptoRow : OpenClaim := { program := "ytaifojkkklacmaagreatdoor", sum := "9986e5e5dfe0b0dfb722b7d94a73a1fe1eb9f7b89195384ca4b4dadb87b8e836", func := "bellwether/bellwetherlaw23.TakePubs", spec := "takePubs", inPlace := ["internal/reflectlite.TypeOf", "internal/reflectlite.ValueOf", "(internal/reflectlite.Value).Type", "(internal/reflectlite.Value).IsNil", "(internal/reflectlite.Value).Elem", "(internal/reflectlite.Value).Set", "slices.overlaps[bellwether/api.Item]", "slices.overlaps[bellwether/api.Kid]"], unfollowed := true, recurses := true, named := ["errors.errorType"], apart := false, laid := [("errors.errorType", laid_errors_errorType)], narrowed := true }
def TakePubsUptoSaid : Prop := takePubsUptoRow.holds Tryz.pinned (OpenSpec.upto takePubsSpec)

/-- 'bellwetherlaw23.TakeHops', WHERE WHAT IT READS IS OF BULK AT MOST 1048576: true; the input reads as it did. -/
def takeHopsUptoRow : OpenClaim := { program := "ytaifojkkklacmaagreatdoor", sum := "9986e5e5dfe0b0dfb722b7d94a73a1fe1eb9f7b89195384ca4b4dadb87b8e836", func := "bellwether/bellwetherlaw23.TakeHops", spec := "takeHops", inPlace := ["internal/reflectlite.TypeOf", "internal/reflectlite.ValueOf", "(internal/reflectlite.Value).Type", "(internal/reflectlite.Value).IsNil", "(internal/reflectlite.Value).Elem", "(internal/reflectlite.Value).Set", "slices.overlaps[bellwether/api.Item]", "slices.overlaps[bellwether/api.Kid]"], unfollowed := true, recurses := true, named := ["errors.errorType"], apart := false, laid := [("errors.errorType", laid_errors_errorType)], narrowed := true }
def TakeHopsUptoSaid : Prop := takeHopsUptoRow.holds Tryz.pinned (OpenSpec.upto takeHopsSpec)

/-- 'bellwetherlaw23.TakeNacks', WHERE WHAT IT READS IS OF BULK AT MOST 1048576: true; the input reads as it did. -/
def takeNacksUptoRow : OpenClaim := { program := "ytaifojkkklacmaagreatdoor", sum := "9986e5e5dfe0b0dfb722b7d94a73a1fe1eb9f7b89195384ca4b4dadb87b8e836", func := "bellwether/bellwetherlaw23.TakeNacks", spec := "takeNacks", inPlace := ["internal/reflectlite.TypeOf", "internal/reflectlite.ValueOf", "(internal/reflectlite.Value).Type", "(internal/reflectlite.Value).IsNil", "(internal/reflectlite.Value).Elem", "(internal/reflectlite.Value).Set", "slices.overlaps[bellwether/api.Item]", "slices.overlaps[bellwether/api.Kid]"], unfollowed := true, recurses := true, named := ["errors.errorType"], apart := false, laid := [("errors.errorType", laid_errors_errorType)], narrowed := true }
def TakeNacksUptoSaid : Prop := takeNacksUptoRow.holds Tryz.pinned (OpenSpec.upto takeNacksSpec)

end Rows
end Go.Proofs.YtaifojkkklacmaaGreatDoor
