/-
  DERIVED. GIVEN WITH THE SEED: THE CARDS: each row of YtbdanphebcjmmaaDoorRows.lean that lists a variable, with what it lists TIED to the program's text (the seventh form; the later family's looks); each row that meets fmt, with fmt's text TOLD by the authors' own Lean function (tested against real Go, not proved from fmt's source: count such statements apart). THE CARD IS WHAT COUNTS. Prove the row's statement (the work); the ties are given (YtbdanphebcjmmaaDoorTie.lean); close each card by the builder's one call (the guide's Derived/Test/ToyasCard.lean, 'card_holds'). Laid BY PROGRAM, IN A SANDBOX (cutbox-door.mjs). By AI agents, Wed Nov 11 2026. No macro, syntax, notation, axiom, sorry.
-/
import Derived.Test.YtbdanphebcjmmaaDoorRows
import GoSem.ClaimSeven
namespace Go.Proofs.YtbdanphebcjmmaaDoor
namespace Rows

/-- THE TIED CARD OF 'laws.FnLexed'. -/
def fnLexedCard : Claim7 := { stood := { row := fnLexedRow, standIns := [], harness := (true, "86510dc8aa5574d0331e844ec4fb26cc99be6f751a0cf34578466a12074c3b3b"), looks := true }, kinds := [], alts := [], laidByText := true, laidKinds := [.data, .data, .data, .sentinel, .sentinel], laidTests := true, laidLooks := .later }
def FnLexedCardSaid : Prop := Claim7.holds Tryd.pinned (.plain (OpenSpec.ofChange fnLexedSpec)) fnLexedCard

/-- THE SECOND FORM's CARD OF 'laws.FnLexed'. -/
def fnLexedUptoCard : Claim7 := { stood := { row := fnLexedUptoRow, standIns := [], harness := (true, "86510dc8aa5574d0331e844ec4fb26cc99be6f751a0cf34578466a12074c3b3b"), looks := true }, kinds := [], alts := [], laidByText := true, laidKinds := [.data, .data, .data, .sentinel, .sentinel], laidTests := true, laidLooks := .later }
def FnLexedUptoCardSaid : Prop := Claim7.holds Tryd.pinned (.plain (OpenSpec.upto fnLexedSpec)) fnLexedUptoCard
end Rows
end Go.Proofs.YtbdanphebcjmmaaDoor
