/-
  DERIVED. GIVEN WITH THE SEED: THE CARDS: each row of YtiigfbapjeefbaaGreatDoorRows.lean that lists a variable, with what it lists TIED to the program's text (the seventh form; the later family's looks); each row that meets fmt, with fmt's text TOLD by the authors' own Lean function (tested against real Go, not proved from fmt's source: count such statements apart). THE CARD IS WHAT COUNTS. Prove the row's statement (the work); the ties are given (YtiigfbapjeefbaaGreatDoorTie.lean); close each card by the builder's one call (the guide's Derived/Test/ToyasCard.lean, 'card_holds'). Laid BY PROGRAM, IN A SANDBOX (cutbox-door.mjs). By AI agents, Wed Nov 11 2026. No macro, syntax, notation, axiom, sorry.
-/
import Derived.Test.YtiigfbapjeefbaaGreatDoorRows
import GoSem.ClaimSeven
namespace Go.Proofs.YtiigfbapjeefbaaGreatDoor
namespace Rows

/-- THE TIED CARD OF 'laws.FnExactPrintBlock'. -/
def fnExactPrintBlockCard : Claim7 := { stood := { row := fnExactPrintBlockRow, standIns := [], harness := (true, "ab74de15634e0f8a56f5c7a472e40495cd2fb79f038ee583fa48df26ba417a97"), looks := true }, kinds := [], alts := [], laidByText := true, laidKinds := [.data, .data, .data], laidTests := true, laidLooks := .later }
def FnExactPrintBlockCardSaid : Prop := Claim7.holds Tryz.pinned (.plain (OpenSpec.ofChange fnExactPrintBlockSpec)) fnExactPrintBlockCard

/-- THE TIED CARD OF 'laws.FnExactPrintExpr'. -/
def fnExactPrintExprCard : Claim7 := { stood := { row := fnExactPrintExprRow, standIns := [], harness := (true, "ab74de15634e0f8a56f5c7a472e40495cd2fb79f038ee583fa48df26ba417a97"), looks := true }, kinds := [], alts := [], laidByText := true, laidKinds := [.data, .data, .data], laidTests := true, laidLooks := .later }
def FnExactPrintExprCardSaid : Prop := Claim7.holds Tryz.pinned (.plain (OpenSpec.ofChange fnExactPrintExprSpec)) fnExactPrintExprCard

/-- THE TIED CARD OF 'laws.FnExactPrintScript'. -/
def fnExactPrintScriptCard : Claim7 := { stood := { row := fnExactPrintScriptRow, standIns := [], harness := (true, "ab74de15634e0f8a56f5c7a472e40495cd2fb79f038ee583fa48df26ba417a97"), looks := true }, kinds := [], alts := [], laidByText := true, laidKinds := [.data, .data, .data], laidTests := true, laidLooks := .later }
def FnExactPrintScriptCardSaid : Prop := Claim7.holds Tryz.pinned (.plain (OpenSpec.ofChange fnExactPrintScriptSpec)) fnExactPrintScriptCard

/-- THE TIED CARD OF 'laws.FnExactParseExpr'. -/
def fnExactParseExprCard : Claim7 := { stood := { row := fnExactParseExprRow, standIns := [], harness := (true, "ab74de15634e0f8a56f5c7a472e40495cd2fb79f038ee583fa48df26ba417a97"), looks := true }, kinds := [], alts := [], laidByText := true, laidKinds := [.data, .data, .data, .sentinel, .sentinel], laidTests := true, laidLooks := .later }
def FnExactParseExprCardSaid : Prop := Claim7.holds Tryz.pinned (.plain (OpenSpec.ofChange fnExactParseExprSpec)) fnExactParseExprCard

/-- THE TIED CARD OF 'laws.FnExactParseScript'. -/
def fnExactParseScriptCard : Claim7 := { stood := { row := fnExactParseScriptRow, standIns := [], harness := (true, "ab74de15634e0f8a56f5c7a472e40495cd2fb79f038ee583fa48df26ba417a97"), looks := true }, kinds := [], alts := [], laidByText := true, laidKinds := [.data, .data, .data, .sentinel, .sentinel], laidTests := true, laidLooks := .later }
def FnExactParseScriptCardSaid : Prop := Claim7.holds Tryz.pinned (.plain (OpenSpec.ofChange fnExactParseScriptSpec)) fnExactParseScriptCard

/-- THE TIED CARD OF 'laws.FnParsed'. -/
def fnParsedCard : Claim7 := { stood := { row := fnParsedRow, standIns := [], harness := (true, "ab74de15634e0f8a56f5c7a472e40495cd2fb79f038ee583fa48df26ba417a97"), looks := true }, kinds := [], alts := [], laidByText := true, laidKinds := [.data, .data, .data, .sentinel, .sentinel], laidTests := true, laidLooks := .later }
def FnParsedCardSaid : Prop := Claim7.holds Tryz.pinned (.plain (OpenSpec.ofChange fnParsedSpec)) fnParsedCard

/-- THE TIED CARD OF 'laws.FnPrinted'. -/
def fnPrintedCard : Claim7 := { stood := { row := fnPrintedRow, standIns := [], harness := (true, "ab74de15634e0f8a56f5c7a472e40495cd2fb79f038ee583fa48df26ba417a97"), looks := true }, kinds := [], alts := [], laidByText := true, laidKinds := [.data, .data, .data, .sentinel, .sentinel], laidTests := true, laidLooks := .later }
def FnPrintedCardSaid : Prop := Claim7.holds Tryz.pinned (.plain (OpenSpec.ofChange fnPrintedSpec)) fnPrintedCard

/-- THE SECOND FORM's CARD OF 'laws.FnExactPrintBlock'. -/
def fnExactPrintBlockUptoCard : Claim7 := { stood := { row := fnExactPrintBlockUptoRow, standIns := [], harness := (true, "ab74de15634e0f8a56f5c7a472e40495cd2fb79f038ee583fa48df26ba417a97"), looks := true }, kinds := [], alts := [], laidByText := true, laidKinds := [.data, .data, .data], laidTests := true, laidLooks := .later }
def FnExactPrintBlockUptoCardSaid : Prop := Claim7.holds Tryz.pinned (.plain (OpenSpec.upto fnExactPrintBlockSpec)) fnExactPrintBlockUptoCard

/-- THE SECOND FORM's CARD OF 'laws.FnExactPrintExpr'. -/
def fnExactPrintExprUptoCard : Claim7 := { stood := { row := fnExactPrintExprUptoRow, standIns := [], harness := (true, "ab74de15634e0f8a56f5c7a472e40495cd2fb79f038ee583fa48df26ba417a97"), looks := true }, kinds := [], alts := [], laidByText := true, laidKinds := [.data, .data, .data], laidTests := true, laidLooks := .later }
def FnExactPrintExprUptoCardSaid : Prop := Claim7.holds Tryz.pinned (.plain (OpenSpec.upto fnExactPrintExprSpec)) fnExactPrintExprUptoCard

/-- THE SECOND FORM's CARD OF 'laws.FnExactPrintScript'. -/
def fnExactPrintScriptUptoCard : Claim7 := { stood := { row := fnExactPrintScriptUptoRow, standIns := [], harness := (true, "ab74de15634e0f8a56f5c7a472e40495cd2fb79f038ee583fa48df26ba417a97"), looks := true }, kinds := [], alts := [], laidByText := true, laidKinds := [.data, .data, .data], laidTests := true, laidLooks := .later }
def FnExactPrintScriptUptoCardSaid : Prop := Claim7.holds Tryz.pinned (.plain (OpenSpec.upto fnExactPrintScriptSpec)) fnExactPrintScriptUptoCard

/-- THE SECOND FORM's CARD OF 'laws.FnExactParseExpr'. -/
def fnExactParseExprUptoCard : Claim7 := { stood := { row := fnExactParseExprUptoRow, standIns := [], harness := (true, "ab74de15634e0f8a56f5c7a472e40495cd2fb79f038ee583fa48df26ba417a97"), looks := true }, kinds := [], alts := [], laidByText := true, laidKinds := [.data, .data, .data, .sentinel, .sentinel], laidTests := true, laidLooks := .later }
def FnExactParseExprUptoCardSaid : Prop := Claim7.holds Tryz.pinned (.plain (OpenSpec.upto fnExactParseExprSpec)) fnExactParseExprUptoCard

/-- THE SECOND FORM's CARD OF 'laws.FnExactParseScript'. -/
def fnExactParseScriptUptoCard : Claim7 := { stood := { row := fnExactParseScriptUptoRow, standIns := [], harness := (true, "ab74de15634e0f8a56f5c7a472e40495cd2fb79f038ee583fa48df26ba417a97"), looks := true }, kinds := [], alts := [], laidByText := true, laidKinds := [.data, .data, .data, .sentinel, .sentinel], laidTests := true, laidLooks := .later }
def FnExactParseScriptUptoCardSaid : Prop := Claim7.holds Tryz.pinned (.plain (OpenSpec.upto fnExactParseScriptSpec)) fnExactParseScriptUptoCard

/-- THE SECOND FORM's CARD OF 'laws.FnParsed'. -/
def fnParsedUptoCard : Claim7 := { stood := { row := fnParsedUptoRow, standIns := [], harness := (true, "ab74de15634e0f8a56f5c7a472e40495cd2fb79f038ee583fa48df26ba417a97"), looks := true }, kinds := [], alts := [], laidByText := true, laidKinds := [.data, .data, .data, .sentinel, .sentinel], laidTests := true, laidLooks := .later }
def FnParsedUptoCardSaid : Prop := Claim7.holds Tryz.pinned (.plain (OpenSpec.upto fnParsedSpec)) fnParsedUptoCard

/-- THE SECOND FORM's CARD OF 'laws.FnPrinted'. -/
def fnPrintedUptoCard : Claim7 := { stood := { row := fnPrintedUptoRow, standIns := [], harness := (true, "ab74de15634e0f8a56f5c7a472e40495cd2fb79f038ee583fa48df26ba417a97"), looks := true }, kinds := [], alts := [], laidByText := true, laidKinds := [.data, .data, .data, .sentinel, .sentinel], laidTests := true, laidLooks := .later }
def FnPrintedUptoCardSaid : Prop := Claim7.holds Tryz.pinned (.plain (OpenSpec.upto fnPrintedSpec)) fnPrintedUptoCard
end Rows
end Go.Proofs.YtiigfbapjeefbaaGreatDoor
