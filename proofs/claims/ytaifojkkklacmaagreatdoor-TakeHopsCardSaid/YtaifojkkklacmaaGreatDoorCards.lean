/-
  DERIVED. GIVEN WITH THE SEED: THE CARDS: each row of YtaifojkkklacmaaGreatDoorRows.lean that lists a variable, with what it lists TIED to the program's text (the seventh form; the later family's looks); each row that meets fmt, with fmt's text TOLD by the authors' own Lean function (tested against real Go, not proved from fmt's source: count such statements apart). THE CARD IS WHAT COUNTS. Prove the row's statement (the work); the ties are given (YtaifojkkklacmaaGreatDoorTie.lean); close each card by the builder's one call (the guide's Derived/Test/ToyasCard.lean, 'card_holds'). Laid BY PROGRAM, IN A SANDBOX (cutbox-door.mjs). By AI agents, Wed Nov 11 2026. No macro, syntax, notation, axiom, sorry.
-/
import Derived.Test.YtaifojkkklacmaaGreatDoorRows
import GoSem.ClaimSeven
namespace Go.Proofs.YtaifojkkklacmaaGreatDoor
namespace Rows

/-- THE TIED CARD OF 'bellwetherlaw23.TakePubs'. -/
def takePubsCard : Claim7 := { stood := { row := takePubsRow, standIns := [], harness := (true, "8a1f988d5a9264d6b1b3a2cd04f97c4ae3626ae5638d196fe976334b9ee4ef93"), looks := true }, kinds := [], alts := [], laidByText := true, laidKinds := [.handle], laidTests := true, laidLooks := .later }
def TakePubsCardSaid : Prop := Claim7.holds Tryz.pinned (.plain (OpenSpec.ofChange takePubsSpec)) takePubsCard

/-- THE TIED CARD OF 'bellwetherlaw23.TakeHops'. -/
def takeHopsCard : Claim7 := { stood := { row := takeHopsRow, standIns := [], harness := (true, "8a1f988d5a9264d6b1b3a2cd04f97c4ae3626ae5638d196fe976334b9ee4ef93"), looks := true }, kinds := [], alts := [], laidByText := true, laidKinds := [.handle], laidTests := true, laidLooks := .later }
def TakeHopsCardSaid : Prop := Claim7.holds Tryz.pinned (.plain (OpenSpec.ofChange takeHopsSpec)) takeHopsCard

/-- THE TIED CARD OF 'bellwetherlaw23.TakeNacks'. -/
def takeNacksCard : Claim7 := { stood := { row := takeNacksRow, standIns := [], harness := (true, "8a1f988d5a9264d6b1b3a2cd04f97c4ae3626ae5638d196fe976334b9ee4ef93"), looks := true }, kinds := [], alts := [], laidByText := true, laidKinds := [.handle], laidTests := true, laidLooks := .later }
def TakeNacksCardSaid : Prop := Claim7.holds Tryz.pinned (.plain (OpenSpec.ofChange takeNacksSpec)) takeNacksCard

/-- THE SECOND FORM's CARD OF 'bellwetherlaw23.TakePubs'. -/
def takePubsUptoCard : Claim7 := { stood := { row := takePubsUptoRow, standIns := [], harness := (true, "8a1f988d5a9264d6b1b3a2cd04f97c4ae3626ae5638d196fe976334b9ee4ef93"), looks := true }, kinds := [], alts := [], laidByText := true, laidKinds := [.handle], laidTests := true, laidLooks := .later }
def TakePubsUptoCardSaid : Prop := Claim7.holds Tryz.pinned (.plain (OpenSpec.upto takePubsSpec)) takePubsUptoCard

/-- THE SECOND FORM's CARD OF 'bellwetherlaw23.TakeHops'. -/
def takeHopsUptoCard : Claim7 := { stood := { row := takeHopsUptoRow, standIns := [], harness := (true, "8a1f988d5a9264d6b1b3a2cd04f97c4ae3626ae5638d196fe976334b9ee4ef93"), looks := true }, kinds := [], alts := [], laidByText := true, laidKinds := [.handle], laidTests := true, laidLooks := .later }
def TakeHopsUptoCardSaid : Prop := Claim7.holds Tryz.pinned (.plain (OpenSpec.upto takeHopsSpec)) takeHopsUptoCard

/-- THE SECOND FORM's CARD OF 'bellwetherlaw23.TakeNacks'. -/
def takeNacksUptoCard : Claim7 := { stood := { row := takeNacksUptoRow, standIns := [], harness := (true, "8a1f988d5a9264d6b1b3a2cd04f97c4ae3626ae5638d196fe976334b9ee4ef93"), looks := true }, kinds := [], alts := [], laidByText := true, laidKinds := [.handle], laidTests := true, laidLooks := .later }
def TakeNacksUptoCardSaid : Prop := Claim7.holds Tryz.pinned (.plain (OpenSpec.upto takeNacksSpec)) takeNacksUptoCard
end Rows
end Go.Proofs.YtaifojkkklacmaaGreatDoor
