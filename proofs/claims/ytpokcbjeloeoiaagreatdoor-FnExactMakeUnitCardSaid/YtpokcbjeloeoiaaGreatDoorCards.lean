/-
  DERIVED. GIVEN WITH THE SEED: THE CARDS: each row of YtpokcbjeloeoiaaGreatDoorRows.lean that lists a variable, with what it lists TIED to the program's text (the seventh form; the later family's looks); each row that meets fmt, with fmt's text TOLD by the authors' own Lean function (tested against real Go, not proved from fmt's source: count such statements apart). THE CARD IS WHAT COUNTS. Prove the row's statement (the work); the ties are given (YtpokcbjeloeoiaaGreatDoorTie.lean); close each card by the builder's one call (the guide's Derived/Test/ToyasCard.lean, 'card_holds'). Laid BY PROGRAM, IN A SANDBOX (cutbox-door.mjs). By AI agents, Wed Nov 11 2026. No macro, syntax, notation, axiom, sorry.
-/
import Derived.Test.YtpokcbjeloeoiaaGreatDoorRows
import GoSem.ClaimSeven
namespace Go.Proofs.YtpokcbjeloeoiaaGreatDoor
namespace Rows

/-- THE TIED CARD OF 'laws.FnExactMakeUnit'. -/
def fnExactMakeUnitCard : Claim7 := { stood := { row := fnExactMakeUnitRow, standIns := [], harness := (true, "acba306e1d60d118a00fefbdf9dc1ca336c28f5648ca6581e8a71cc4d5d75cea"), looks := true }, kinds := [], alts := [], laidByText := true, laidKinds := [.data, .data, .data, .sentinel, .sentinel], laidTests := true, laidLooks := .later }
def FnExactMakeUnitCardSaid : Prop := Claim7.holds Tryz.pinned (.plain (OpenSpec.ofChange fnExactMakeUnitSpec)) fnExactMakeUnitCard

/-- THE SECOND FORM's CARD OF 'laws.FnExactMakeUnit'. -/
def fnExactMakeUnitUptoCard : Claim7 := { stood := { row := fnExactMakeUnitUptoRow, standIns := [], harness := (true, "acba306e1d60d118a00fefbdf9dc1ca336c28f5648ca6581e8a71cc4d5d75cea"), looks := true }, kinds := [], alts := [], laidByText := true, laidKinds := [.data, .data, .data, .sentinel, .sentinel], laidTests := true, laidLooks := .later }
def FnExactMakeUnitUptoCardSaid : Prop := Claim7.holds Tryz.pinned (.plain (OpenSpec.upto fnExactMakeUnitSpec)) fnExactMakeUnitUptoCard
end Rows
end Go.Proofs.YtpokcbjeloeoiaaGreatDoor
