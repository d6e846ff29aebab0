/-
  DERIVED. GIVEN WITH THE SEED: THE CARDS: each row of YtdongnkoilijjaaGreatDoorRows.lean that lists a variable, with what it lists TIED to the program's text (the seventh form; the later family's looks); each row that meets fmt, with fmt's text TOLD by the authors' own Lean function (tested against real Go, not proved from fmt's source: count such statements apart). THE CARD IS WHAT COUNTS. Prove the row's statement (the work); the ties are given (YtdongnkoilijjaaGreatDoorTie.lean); close each card by the builder's one call (the guide's Derived/Test/ToyasCard.lean, 'card_holds'). Laid BY PROGRAM, IN A SANDBOX (cutbox-door.mjs). By AI agents, Wed Nov 11 2026. No macro, syntax, notation, axiom, sorry.
-/
import Derived.Test.YtdongnkoilijjaaGreatDoorRows
import GoSem.ClaimSeven
namespace Go.Proofs.YtdongnkoilijjaaGreatDoor
namespace Rows

/-- THE TIED CARD OF 'laws.FnBuiltins'. -/
def fnBuiltinsCard : Claim7 := { stood := { row := fnBuiltinsRow, standIns := [], harness := (true, "babf3690f9c52133f7c7d41d8ab1090961ba4242f487829292963fa03130ac97"), looks := true }, kinds := [], alts := [], laidByText := true, laidKinds := [.data, .data, .data, .sentinel, .sentinel], laidTests := true, laidLooks := .later }
def FnBuiltinsCardSaid : Prop := Claim7.holds Tryz.pinned (.plain (OpenSpec.ofChange fnBuiltinsSpec)) fnBuiltinsCard

/-- THE TIED CARD OF 'laws.FnExactCallBuiltin'. -/
def fnExactCallBuiltinCard : Claim7 := { stood := { row := fnExactCallBuiltinRow, standIns := [], harness := (true, "babf3690f9c52133f7c7d41d8ab1090961ba4242f487829292963fa03130ac97"), looks := true }, kinds := [], alts := [], laidByText := true, laidKinds := [.data, .data, .data, .sentinel, .sentinel], laidTests := true, laidLooks := .later }
def FnExactCallBuiltinCardSaid : Prop := Claim7.holds Tryz.pinned (.plain (OpenSpec.ofChange fnExactCallBuiltinSpec)) fnExactCallBuiltinCard

/-- THE SECOND FORM's CARD OF 'laws.FnBuiltins'. -/
def fnBuiltinsUptoCard : Claim7 := { stood := { row := fnBuiltinsUptoRow, standIns := [], harness := (true, "babf3690f9c52133f7c7d41d8ab1090961ba4242f487829292963fa03130ac97"), looks := true }, kinds := [], alts := [], laidByText := true, laidKinds := [.data, .data, .data, .sentinel, .sentinel], laidTests := true, laidLooks := .later }
def FnBuiltinsUptoCardSaid : Prop := Claim7.holds Tryz.pinned (.plain (OpenSpec.upto fnBuiltinsSpec)) fnBuiltinsUptoCard

/-- THE SECOND FORM's CARD OF 'laws.FnExactCallBuiltin'. -/
def fnExactCallBuiltinUptoCard : Claim7 := { stood := { row := fnExactCallBuiltinUptoRow, standIns := [], harness := (true, "babf3690f9c52133f7c7d41d8ab1090961ba4242f487829292963fa03130ac97"), looks := true }, kinds := [], alts := [], laidByText := true, laidKinds := [.data, .data, .data, .sentinel, .sentinel], laidTests := true, laidLooks := .later }
def FnExactCallBuiltinUptoCardSaid : Prop := Claim7.holds Tryz.pinned (.plain (OpenSpec.upto fnExactCallBuiltinSpec)) fnExactCallBuiltinUptoCard
end Rows
end Go.Proofs.YtdongnkoilijjaaGreatDoor
