/-
  DERIVED. GIVEN WITH THE SEED: THE CARDS: each row of YtdjleldpjijnpaaGreatDoorRows.lean that lists a variable, with what it lists TIED to the program's text (the seventh form; the later family's looks); each row that meets fmt, with fmt's text TOLD by the authors' own Lean function (tested against real Go, not proved from fmt's source: count such statements apart). THE CARD IS WHAT COUNTS. Prove the row's statement (the work); the ties are given (YtdjleldpjijnpaaGreatDoorTie.lean); close each card by the builder's one call (the guide's Derived/Test/ToyasCard.lean, 'card_holds'). Laid BY PROGRAM, IN A SANDBOX (cutbox-door.mjs). By AI agents, Wed Nov 11 2026. No macro, syntax, notation, axiom, sorry.
-/
import Derived.Test.YtdjleldpjijnpaaGreatDoorRows
import GoSem.ClaimSeven
namespace Go.Proofs.YtdjleldpjijnpaaGreatDoor
namespace Rows

/-- THE TIED CARD OF 'laws.FnExactOptimize'. -/
def fnExactOptimizeCard : Claim7 := { stood := { row := fnExactOptimizeRow, standIns := [], harness := (true, "c65f88278cd7c1cbda861bbc3dcea1e72682f76cd4f594f2820a889d19e9a2a9"), looks := true }, kinds := [], alts := [], laidByText := true, laidKinds := [.data, .data, .data, .sentinel, .sentinel], laidTests := true, laidLooks := .later }
def FnExactOptimizeCardSaid : Prop := Claim7.holds Tryz.pinned (.plain (OpenSpec.ofChange fnExactOptimizeSpec)) fnExactOptimizeCard

/-- THE SECOND FORM's CARD OF 'laws.FnExactOptimize'. -/
def fnExactOptimizeUptoCard : Claim7 := { stood := { row := fnExactOptimizeUptoRow, standIns := [], harness := (true, "c65f88278cd7c1cbda861bbc3dcea1e72682f76cd4f594f2820a889d19e9a2a9"), looks := true }, kinds := [], alts := [], laidByText := true, laidKinds := [.data, .data, .data, .sentinel, .sentinel], laidTests := true, laidLooks := .later }
def FnExactOptimizeUptoCardSaid : Prop := Claim7.holds Tryz.pinned (.plain (OpenSpec.upto fnExactOptimizeSpec)) fnExactOptimizeUptoCard
end Rows
end Go.Proofs.YtdjleldpjijnpaaGreatDoor
