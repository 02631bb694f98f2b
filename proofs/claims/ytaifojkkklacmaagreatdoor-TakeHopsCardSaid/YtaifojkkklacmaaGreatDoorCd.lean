/- The tied card of TakeHops: the row, its listed variable tied to the program's text; no condition of its own. -/
import Derived.Test.YtaifojkkklacmaaGreatDoorRw
import Derived.Test.YtaifojkkklacmaaGreatDoorTie
import Derived.Test.YtaifojkkklacmaaGreatDoorCards
import Derived.SevenTiedAt
set_option linter.unusedVariables false
set_option linter.unusedSimpArgs false
set_option linter.unusedSectionVars false
set_option linter.unnecessarySimpa false
namespace Go.Proofs.YtaifojkkklacmaaGreatDoor
open Go
theorem takeHops_card : Rows.TakeHopsCardSaid :=
  Claim7.holds_tied_plain_at .later [] [.handle] true (true, "8a1f988d5a9264d6b1b3a2cd04f97c4ae3626ae5638d196fe976334b9ee4ef93") true
    takeHops_holds (fun _ h => by cases h) (by kernel_rfl) (fun _ h => by cases h) takeHops_row_tie rfl ⟨rfl, rfl⟩ (by kernel_rfl) rfl
    (fun f fn hf hfn => by
      obtain rfl : f = 4 := Option.some.inj ((show Tryz.prog.funcNamed "bellwether/bellwetherlaw23.TakeHops" = some 4 by kernel_rfl).symm.trans hf) |>.symm
      obtain rfl : fn = Tryz.f4 := (Option.some.inj (Tryz.func4.symm.trans hfn)).symm
      exact ⟨by kernel_rfl, fun j t ht => by
        rw [Tryz.params4] at ht
        have h3 : t = 3 := by
          rcases j with _ | _ | _ | _ | j
          · simpa using ht.symm
          · simpa using ht.symm
          · simpa using ht.symm
          · simpa using ht.symm
          · simp at ht
        subst h3
        exact (show Tryz.prog.wantsStandIn 3 = false by kernel_rfl)⟩)
    (by kernel_rfl)
#print axioms takeHops_card
end Go.Proofs.YtaifojkkklacmaaGreatDoor
