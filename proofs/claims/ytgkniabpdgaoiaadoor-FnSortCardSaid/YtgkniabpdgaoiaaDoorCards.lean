/-
  DERIVED. GIVEN WITH THE SEED: THE CARDS: each row of YtgkniabpdgaoiaaDoorRows.lean that lists a variable, with what it lists TIED to the program's text (the seventh form; the later family's looks); each row that meets fmt, with fmt's text TOLD by the authors' own Lean function (tested against real Go, not proved from fmt's source: count such statements apart). THE CARD IS WHAT COUNTS. Prove the row's statement (the work); the ties are given (YtgkniabpdgaoiaaDoorTie.lean); close each card by the builder's one call (the guide's Derived/Test/ToyasCard.lean, 'card_holds'). Laid BY PROGRAM, IN A SANDBOX (cutbox-door.mjs). By AI agents, Wed Nov 11 2026. No macro, syntax, notation, axiom, sorry.
-/
import Derived.Test.YtgkniabpdgaoiaaDoorRows
import GoSem.ClaimSeven
namespace Go.Proofs.YtgkniabpdgaoiaaDoor
namespace Rows

/-- THE TIED CARD OF 'laws.FnSort'. -/
def fnSortCard : Claim7 := { stood := { row := fnSortRow, standIns := [], harness := (true, "c7cdcbe53c551a974fd24f644b19b863ff1ff2daf17e4fa7b30c8e94553cd770"), looks := true }, kinds := [], alts := [], laidByText := true, laidKinds := [.data, .data, .data], laidTests := true, laidLooks := .later }
def FnSortCardSaid : Prop := Claim7.holds Tryd.pinned (.plain (OpenSpec.ofChange fnSortSpec)) fnSortCard

/-- THE TIED CARD OF 'laws.FnPacked'. -/
def fnPackedCard : Claim7 := { stood := { row := fnPackedRow, standIns := [], harness := (true, "c7cdcbe53c551a974fd24f644b19b863ff1ff2daf17e4fa7b30c8e94553cd770"), looks := true }, kinds := [], alts := [], laidByText := true, laidKinds := [.data, .data, .data, .sentinel, .sentinel], laidTests := true, laidLooks := .later }
def FnPackedCardSaid : Prop := Claim7.holds Tryd.pinned (.plain (OpenSpec.ofChange fnPackedSpec)) fnPackedCard

/-- THE SECOND FORM's CARD OF 'laws.FnSort'. -/
def fnSortUptoCard : Claim7 := { stood := { row := fnSortUptoRow, standIns := [], harness := (true, "c7cdcbe53c551a974fd24f644b19b863ff1ff2daf17e4fa7b30c8e94553cd770"), looks := true }, kinds := [], alts := [], laidByText := true, laidKinds := [.data, .data, .data], laidTests := true, laidLooks := .later }
def FnSortUptoCardSaid : Prop := Claim7.holds Tryd.pinned (.plain (OpenSpec.upto fnSortSpec)) fnSortUptoCard

/-- THE SECOND FORM's CARD OF 'laws.FnPacked'. -/
def fnPackedUptoCard : Claim7 := { stood := { row := fnPackedUptoRow, standIns := [], harness := (true, "c7cdcbe53c551a974fd24f644b19b863ff1ff2daf17e4fa7b30c8e94553cd770"), looks := true }, kinds := [], alts := [], laidByText := true, laidKinds := [.data, .data, .data, .sentinel, .sentinel], laidTests := true, laidLooks := .later }
def FnPackedUptoCardSaid : Prop := Claim7.holds Tryd.pinned (.plain (OpenSpec.upto fnPackedSpec)) fnPackedUptoCard
end Rows
end Go.Proofs.YtgkniabpdgaoiaaDoor
