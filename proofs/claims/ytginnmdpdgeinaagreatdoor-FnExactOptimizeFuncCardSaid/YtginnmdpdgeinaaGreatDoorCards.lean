/-
  DERIVED. GIVEN WITH THE SEED: THE CARDS: each row of YtginnmdpdgeinaaGreatDoorRows.lean that lists a variable, with what it lists TIED to the program's text (the seventh form; the later family's looks); each row that meets fmt, with fmt's text TOLD by the authors' own Lean function (tested against real Go, not proved from fmt's source: count such statements apart). THE CARD IS WHAT COUNTS. Prove the row's statement (the work); the ties are given (YtginnmdpdgeinaaGreatDoorTie.lean); close each card by the builder's one call (the guide's Derived/Test/ToyasCard.lean, 'card_holds'). Laid BY PROGRAM, IN A SANDBOX (cutbox-door.mjs). By AI agents, Wed Nov 11 2026. No macro, syntax, notation, axiom, sorry.
-/
import Derived.Test.YtginnmdpdgeinaaGreatDoorRows
import GoSem.ClaimSeven
namespace Go.Proofs.YtginnmdpdgeinaaGreatDoor
namespace Rows

/-- THE TIED CARD OF 'laws.FnExactCheckFold'. -/
def fnExactCheckFoldCard : Claim7 := { stood := { row := fnExactCheckFoldRow, standIns := [], harness := (true, "996e58211567ae01bffb12692f53e55c88624dcc32d4889b4e18147981bfec83"), looks := true }, kinds := [], alts := [], laidByText := true, laidKinds := [.data, .data, .data, .sentinel, .sentinel], laidTests := true, laidLooks := .later }
def FnExactCheckFoldCardSaid : Prop := Claim7.holds Tryz.pinned (.plain (OpenSpec.ofChange fnExactCheckFoldSpec)) fnExactCheckFoldCard

/-- THE TIED CARD OF 'laws.FnExactFoldCode'. -/
def fnExactFoldCodeCard : Claim7 := { stood := { row := fnExactFoldCodeRow, standIns := [], harness := (true, "996e58211567ae01bffb12692f53e55c88624dcc32d4889b4e18147981bfec83"), looks := true }, kinds := [], alts := [], laidByText := true, laidKinds := [.data, .data, .data, .sentinel, .sentinel], laidTests := true, laidLooks := .later }
def FnExactFoldCodeCardSaid : Prop := Claim7.holds Tryz.pinned (.plain (OpenSpec.ofChange fnExactFoldCodeSpec)) fnExactFoldCodeCard

/-- THE TIED CARD OF 'laws.FnExactOptimizeFunc'. -/
def fnExactOptimizeFuncCard : Claim7 := { stood := { row := fnExactOptimizeFuncRow, standIns := [], harness := (true, "996e58211567ae01bffb12692f53e55c88624dcc32d4889b4e18147981bfec83"), looks := true }, kinds := [], alts := [], laidByText := true, laidKinds := [.data, .data, .data, .sentinel, .sentinel], laidTests := true, laidLooks := .later }
def FnExactOptimizeFuncCardSaid : Prop := Claim7.holds Tryz.pinned (.plain (OpenSpec.ofChange fnExactOptimizeFuncSpec)) fnExactOptimizeFuncCard

/-- THE SECOND FORM's CARD OF 'laws.FnExactCheckFold'. -/
def fnExactCheckFoldUptoCard : Claim7 := { stood := { row := fnExactCheckFoldUptoRow, standIns := [], harness := (true, "996e58211567ae01bffb12692f53e55c88624dcc32d4889b4e18147981bfec83"), looks := true }, kinds := [], alts := [], laidByText := true, laidKinds := [.data, .data, .data, .sentinel, .sentinel], laidTests := true, laidLooks := .later }
def FnExactCheckFoldUptoCardSaid : Prop := Claim7.holds Tryz.pinned (.plain (OpenSpec.upto fnExactCheckFoldSpec)) fnExactCheckFoldUptoCard

/-- THE SECOND FORM's CARD OF 'laws.FnExactFoldCode'. -/
def fnExactFoldCodeUptoCard : Claim7 := { stood := { row := fnExactFoldCodeUptoRow, standIns := [], harness := (true, "996e58211567ae01bffb12692f53e55c88624dcc32d4889b4e18147981bfec83"), looks := true }, kinds := [], alts := [], laidByText := true, laidKinds := [.data, .data, .data, .sentinel, .sentinel], laidTests := true, laidLooks := .later }
def FnExactFoldCodeUptoCardSaid : Prop := Claim7.holds Tryz.pinned (.plain (OpenSpec.upto fnExactFoldCodeSpec)) fnExactFoldCodeUptoCard

/-- THE SECOND FORM's CARD OF 'laws.FnExactOptimizeFunc'. -/
def fnExactOptimizeFuncUptoCard : Claim7 := { stood := { row := fnExactOptimizeFuncUptoRow, standIns := [], harness := (true, "996e58211567ae01bffb12692f53e55c88624dcc32d4889b4e18147981bfec83"), looks := true }, kinds := [], alts := [], laidByText := true, laidKinds := [.data, .data, .data, .sentinel, .sentinel], laidTests := true, laidLooks := .later }
def FnExactOptimizeFuncUptoCardSaid : Prop := Claim7.holds Tryz.pinned (.plain (OpenSpec.upto fnExactOptimizeFuncSpec)) fnExactOptimizeFuncUptoCard
end Rows
end Go.Proofs.YtginnmdpdgeinaaGreatDoor
