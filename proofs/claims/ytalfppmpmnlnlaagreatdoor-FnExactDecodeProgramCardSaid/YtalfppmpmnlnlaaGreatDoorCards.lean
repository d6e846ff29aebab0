/-
  DERIVED. GIVEN WITH THE SEED: THE CARDS: each row of YtalfppmpmnlnlaaGreatDoorRows.lean that lists a variable, with what it lists TIED to the program's text (the seventh form; the later family's looks); each row that meets fmt, with fmt's text TOLD by the authors' own Lean function (tested against real Go, not proved from fmt's source: count such statements apart). THE CARD IS WHAT COUNTS. Prove the row's statement (the work); the ties are given (YtalfppmpmnlnlaaGreatDoorTie.lean); close each card by the builder's one call (the guide's Derived/Test/ToyasCard.lean, 'card_holds'). Laid BY PROGRAM, IN A SANDBOX (cutbox-door.mjs). By AI agents, Wed Nov 11 2026. No macro, syntax, notation, axiom, sorry.
-/
import Derived.Test.YtalfppmpmnlnlaaGreatDoorRows
import GoSem.ClaimSeven
namespace Go.Proofs.YtalfppmpmnlnlaaGreatDoor
namespace Rows

/-- THE TIED CARD OF 'laws.FnExactEncodeProgram'. -/
def fnExactEncodeProgramCard : Claim7 := { stood := { row := fnExactEncodeProgramRow, standIns := [], harness := (true, "a6315651cd0bb4e8d8ab8c22d4d9cf354f8ec356a7e6331f154a77d5bb5c3187"), looks := true }, kinds := [], alts := [], laidByText := true, laidKinds := [.data, .data, .data, .sentinel, .sentinel], laidTests := true, laidLooks := .later }
def FnExactEncodeProgramCardSaid : Prop := Claim7.holds Tryz.pinned (.plain (OpenSpec.ofChange fnExactEncodeProgramSpec)) fnExactEncodeProgramCard

/-- THE TIED CARD OF 'laws.FnExactDecodeProgram'. -/
def fnExactDecodeProgramCard : Claim7 := { stood := { row := fnExactDecodeProgramRow, standIns := [], harness := (true, "a6315651cd0bb4e8d8ab8c22d4d9cf354f8ec356a7e6331f154a77d5bb5c3187"), looks := true }, kinds := [], alts := [], laidByText := true, laidKinds := [.data, .data, .data, .sentinel, .sentinel], laidTests := true, laidLooks := .later }
def FnExactDecodeProgramCardSaid : Prop := Claim7.holds Tryz.pinned (.plain (OpenSpec.ofChange fnExactDecodeProgramSpec)) fnExactDecodeProgramCard

/-- THE SECOND FORM's CARD OF 'laws.FnExactEncodeProgram'. -/
def fnExactEncodeProgramUptoCard : Claim7 := { stood := { row := fnExactEncodeProgramUptoRow, standIns := [], harness := (true, "a6315651cd0bb4e8d8ab8c22d4d9cf354f8ec356a7e6331f154a77d5bb5c3187"), looks := true }, kinds := [], alts := [], laidByText := true, laidKinds := [.data, .data, .data, .sentinel, .sentinel], laidTests := true, laidLooks := .later }
def FnExactEncodeProgramUptoCardSaid : Prop := Claim7.holds Tryz.pinned (.plain (OpenSpec.upto fnExactEncodeProgramSpec)) fnExactEncodeProgramUptoCard

/-- THE SECOND FORM's CARD OF 'laws.FnExactDecodeProgram'. -/
def fnExactDecodeProgramUptoCard : Claim7 := { stood := { row := fnExactDecodeProgramUptoRow, standIns := [], harness := (true, "a6315651cd0bb4e8d8ab8c22d4d9cf354f8ec356a7e6331f154a77d5bb5c3187"), looks := true }, kinds := [], alts := [], laidByText := true, laidKinds := [.data, .data, .data, .sentinel, .sentinel], laidTests := true, laidLooks := .later }
def FnExactDecodeProgramUptoCardSaid : Prop := Claim7.holds Tryz.pinned (.plain (OpenSpec.upto fnExactDecodeProgramSpec)) fnExactDecodeProgramUptoCard
end Rows
end Go.Proofs.YtalfppmpmnlnlaaGreatDoor
