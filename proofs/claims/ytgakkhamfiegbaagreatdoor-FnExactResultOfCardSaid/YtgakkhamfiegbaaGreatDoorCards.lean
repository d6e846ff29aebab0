/-
  DERIVED. GIVEN WITH THE SEED: THE CARDS: each row of YtgakkhamfiegbaaGreatDoorRows.lean that lists a variable, with what it lists TIED to the program's text (the seventh form; the later family's looks); each row that meets fmt, with fmt's text TOLD by the authors' own Lean function (tested against real Go, not proved from fmt's source: count such statements apart). THE CARD IS WHAT COUNTS. Prove the row's statement (the work); the ties are given (YtgakkhamfiegbaaGreatDoorTie.lean); close each card by the builder's one call (the guide's Derived/Test/ToyasCard.lean, 'card_holds'). Laid BY PROGRAM, IN A SANDBOX (cutbox-door.mjs). By AI agents, Wed Nov 11 2026. No macro, syntax, notation, axiom, sorry.
-/
import Derived.Test.YtgakkhamfiegbaaGreatDoorRows
import GoSem.ClaimSeven
namespace Go.Proofs.YtgakkhamfiegbaaGreatDoor
namespace Rows

/-- THE TIED CARD OF 'laws.FnExactResultOf'. -/
def fnExactResultOfCard : Claim7 := { stood := { row := fnExactResultOfRow, standIns := [], harness := (true, "fb4b4c9fa3a47f52ed7264020719a19a8579b30a59c90a3829f0595f78c15790"), looks := true }, kinds := [], alts := [], laidByText := true, laidKinds := [.data, .data, .data, .sentinel, .sentinel], laidTests := true, laidLooks := .later }
def FnExactResultOfCardSaid : Prop := Claim7.holds Tryz.pinned (.plain (OpenSpec.ofChange fnExactResultOfSpec)) fnExactResultOfCard

/-- THE SECOND FORM's CARD OF 'laws.FnExactResultOf'. -/
def fnExactResultOfUptoCard : Claim7 := { stood := { row := fnExactResultOfUptoRow, standIns := [], harness := (true, "fb4b4c9fa3a47f52ed7264020719a19a8579b30a59c90a3829f0595f78c15790"), looks := true }, kinds := [], alts := [], laidByText := true, laidKinds := [.data, .data, .data, .sentinel, .sentinel], laidTests := true, laidLooks := .later }
def FnExactResultOfUptoCardSaid : Prop := Claim7.holds Tryz.pinned (.plain (OpenSpec.upto fnExactResultOfSpec)) fnExactResultOfUptoCard
end Rows
end Go.Proofs.YtgakkhamfiegbaaGreatDoor
