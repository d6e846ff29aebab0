/-
  DERIVED. GIVEN WITH THE SEED: THE CARDS: each row of YtgciegobebabfaaGreatDoorRows.lean that lists a variable, with what it lists TIED to the program's text (the seventh form; the later family's looks); each row that meets fmt, with fmt's text TOLD by the authors' own Lean function (tested against real Go, not proved from fmt's source: count such statements apart). THE CARD IS WHAT COUNTS. Prove the row's statement (the work); the ties are given (YtgciegobebabfaaGreatDoorTie.lean); close each card by the builder's one call (the guide's Derived/Test/ToyasCard.lean, 'card_holds'). Laid BY PROGRAM, IN A SANDBOX (cutbox-door.mjs). By AI agents, Wed Nov 11 2026. No macro, syntax, notation, axiom, sorry.
-/
import Derived.Test.YtgciegobebabfaaGreatDoorRows
import GoSem.ClaimSeven
namespace Go.Proofs.YtgciegobebabfaaGreatDoor
namespace Rows

/-- THE TIED CARD OF 'laws.FnExactNewMachine'. -/
def fnExactNewMachineCard : Claim7 := { stood := { row := fnExactNewMachineRow, standIns := [], harness := (true, "a97f5db36c2c7ca05f92cb8a33cf8a834e0bed5cfeab3a3f9b6102dbb89fe145"), looks := true }, kinds := [], alts := [], laidByText := true, laidKinds := [.data, .data, .data, .sentinel, .sentinel], laidTests := true, laidLooks := .later }
def FnExactNewMachineCardSaid : Prop := Claim7.holds Tryz.pinned (.plain (OpenSpec.ofChange fnExactNewMachineSpec)) fnExactNewMachineCard

/-- THE SECOND FORM's CARD OF 'laws.FnExactNewMachine'. -/
def fnExactNewMachineUptoCard : Claim7 := { stood := { row := fnExactNewMachineUptoRow, standIns := [], harness := (true, "a97f5db36c2c7ca05f92cb8a33cf8a834e0bed5cfeab3a3f9b6102dbb89fe145"), looks := true }, kinds := [], alts := [], laidByText := true, laidKinds := [.data, .data, .data, .sentinel, .sentinel], laidTests := true, laidLooks := .later }
def FnExactNewMachineUptoCardSaid : Prop := Claim7.holds Tryz.pinned (.plain (OpenSpec.upto fnExactNewMachineSpec)) fnExactNewMachineUptoCard
end Rows
end Go.Proofs.YtgciegobebabfaaGreatDoor
