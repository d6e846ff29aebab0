/-
  DERIVED. GIVEN WITH THE SEED: THE CARDS: each row of YtmkelbnaodipcaaDoorRows.lean that lists a variable, with what it lists TIED to the program's text (the seventh form; the later family's looks); each row that meets fmt, with fmt's text TOLD by the authors' own Lean function (tested against real Go, not proved from fmt's source: count such statements apart). THE CARD IS WHAT COUNTS. Prove the row's statement (the work); the ties are given (YtmkelbnaodipcaaDoorTie.lean); close each card by the builder's one call (the guide's Derived/Test/ToyasCard.lean, 'card_holds'). Laid BY PROGRAM, IN A SANDBOX (cutbox-door.mjs). By AI agents, Wed Nov 11 2026. No macro, syntax, notation, axiom, sorry.
-/
import Derived.Test.YtmkelbnaodipcaaDoorRows
import GoSem.ClaimSeven
namespace Go.Proofs.YtmkelbnaodipcaaDoor
namespace Rows

/-- THE TIED CARD OF 'laws.FnPaths'. -/
def fnPathsCard : Claim7 := { stood := { row := fnPathsRow, standIns := [], harness := (true, "a1cdd1864ed6506b7ab611904b59c0ca44c1cd86e1cd0a6a43d9599a0b1b39a8"), looks := true }, kinds := [], alts := [], laidByText := true, laidKinds := [.data, .data, .data, .sentinel, .sentinel], laidTests := true, laidLooks := .later }
def FnPathsCardSaid : Prop := Claim7.holds Tryd.pinned (.plain (OpenSpec.ofChange fnPathsSpec)) fnPathsCard

/-- THE SECOND FORM's CARD OF 'laws.FnPaths'. -/
def fnPathsUptoCard : Claim7 := { stood := { row := fnPathsUptoRow, standIns := [], harness := (true, "a1cdd1864ed6506b7ab611904b59c0ca44c1cd86e1cd0a6a43d9599a0b1b39a8"), looks := true }, kinds := [], alts := [], laidByText := true, laidKinds := [.data, .data, .data, .sentinel, .sentinel], laidTests := true, laidLooks := .later }
def FnPathsUptoCardSaid : Prop := Claim7.holds Tryd.pinned (.plain (OpenSpec.upto fnPathsSpec)) fnPathsUptoCard
end Rows
end Go.Proofs.YtmkelbnaodipcaaDoor
