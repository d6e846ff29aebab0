/-
  DERIVED. GIVEN WITH THE SEED: THE CARDS: each row of YtcipcpjmialcoaaDoorRows.lean that lists a variable, with what it lists TIED to the program's text (the seventh form; the later family's looks); each row that meets fmt, with fmt's text TOLD by the authors' own Lean function (tested against real Go, not proved from fmt's source: count such statements apart). THE CARD IS WHAT COUNTS. Prove the row's statement (the work); the ties are given (YtcipcpjmialcoaaDoorTie.lean); close each card by the builder's one call (the guide's Derived/Test/ToyasCard.lean, 'card_holds'). Laid BY PROGRAM, IN A SANDBOX (cutbox-door.mjs). By AI agents, Wed Nov 11 2026. No macro, syntax, notation, axiom, sorry.
-/
import Derived.Test.YtcipcpjmialcoaaDoorRows
import GoSem.ClaimSeven
namespace Go.Proofs.YtcipcpjmialcoaaDoor
namespace Rows

/-- THE TIED CARD OF 'laws.FnExactUnserialize'. -/
def fnExactUnserializeCard : Claim7 := { stood := { row := fnExactUnserializeRow, standIns := [], harness := (true, "db28082e32b7f8376eced87eddd75b643ffe8ea2a5ae0896f19c497f5c296f65"), looks := true }, kinds := [], alts := [], laidByText := true, laidKinds := [.data, .data, .data, .sentinel, .sentinel], laidTests := true, laidLooks := .later }
def FnExactUnserializeCardSaid : Prop := Claim7.holds Tryd.pinned (.plain (OpenSpec.ofChange fnExactUnserializeSpec)) fnExactUnserializeCard

/-- THE TIED CARD OF 'laws.FnPaths'. -/
def fnPathsCard : Claim7 := { stood := { row := fnPathsRow, standIns := [], harness := (true, "db28082e32b7f8376eced87eddd75b643ffe8ea2a5ae0896f19c497f5c296f65"), looks := true }, kinds := [], alts := [], laidByText := true, laidKinds := [.data, .data, .data, .sentinel, .sentinel], laidTests := true, laidLooks := .later }
def FnPathsCardSaid : Prop := Claim7.holds Tryd.pinned (.plain (OpenSpec.ofChange fnPathsSpec)) fnPathsCard

/-- THE SECOND FORM's CARD OF 'laws.FnExactUnserialize'. -/
def fnExactUnserializeUptoCard : Claim7 := { stood := { row := fnExactUnserializeUptoRow, standIns := [], harness := (true, "db28082e32b7f8376eced87eddd75b643ffe8ea2a5ae0896f19c497f5c296f65"), looks := true }, kinds := [], alts := [], laidByText := true, laidKinds := [.data, .data, .data, .sentinel, .sentinel], laidTests := true, laidLooks := .later }
def FnExactUnserializeUptoCardSaid : Prop := Claim7.holds Tryd.pinned (.plain (OpenSpec.upto fnExactUnserializeSpec)) fnExactUnserializeUptoCard

/-- THE SECOND FORM's CARD OF 'laws.FnPaths'. -/
def fnPathsUptoCard : Claim7 := { stood := { row := fnPathsUptoRow, standIns := [], harness := (true, "db28082e32b7f8376eced87eddd75b643ffe8ea2a5ae0896f19c497f5c296f65"), looks := true }, kinds := [], alts := [], laidByText := true, laidKinds := [.data, .data, .data, .sentinel, .sentinel], laidTests := true, laidLooks := .later }
def FnPathsUptoCardSaid : Prop := Claim7.holds Tryd.pinned (.plain (OpenSpec.upto fnPathsSpec)) fnPathsUptoCard
end Rows
end Go.Proofs.YtcipcpjmialcoaaDoor
