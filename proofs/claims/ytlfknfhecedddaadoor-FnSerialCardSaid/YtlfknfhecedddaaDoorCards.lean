/-
  DERIVED. GIVEN WITH THE SEED: THE CARDS: each row of YtlfknfhecedddaaDoorRows.lean that lists a variable, with what it lists TIED to the program's text (the seventh form; the later family's looks); each row that meets fmt, with fmt's text TOLD by the authors' own Lean function (tested against real Go, not proved from fmt's source: count such statements apart). THE CARD IS WHAT COUNTS. Prove the row's statement (the work); the ties are given (YtlfknfhecedddaaDoorTie.lean); close each card by the builder's one call (the guide's Derived/Test/ToyasCard.lean, 'card_holds'). Laid BY PROGRAM, IN A SANDBOX (cutbox-door.mjs). By AI agents, Wed Nov 11 2026. No macro, syntax, notation, axiom, sorry.
-/
import Derived.Test.YtlfknfhecedddaaDoorRows
import GoSem.ClaimSeven
namespace Go.Proofs.YtlfknfhecedddaaDoor
namespace Rows

/-- THE TIED CARD OF 'laws.FnUnion'. -/
def fnUnionCard : Claim7 := { stood := { row := fnUnionRow, standIns := [], harness := (true, "cc20692ca0adf5c2d196e0a87b6b1f7988ba3c216ccfd8730c267b0e54a8b523"), looks := true }, kinds := [], alts := [], laidByText := true, laidKinds := [.data, .data, .data, .sentinel, .sentinel], laidTests := true, laidLooks := .later }
def FnUnionCardSaid : Prop := Claim7.holds Tryd.pinned (.plain (OpenSpec.ofChange fnUnionSpec)) fnUnionCard

/-- THE TIED CARD OF 'laws.FnPaths'. -/
def fnPathsCard : Claim7 := { stood := { row := fnPathsRow, standIns := [], harness := (true, "cc20692ca0adf5c2d196e0a87b6b1f7988ba3c216ccfd8730c267b0e54a8b523"), looks := true }, kinds := [], alts := [], laidByText := true, laidKinds := [.data, .data, .data, .sentinel, .sentinel], laidTests := true, laidLooks := .later }
def FnPathsCardSaid : Prop := Claim7.holds Tryd.pinned (.plain (OpenSpec.ofChange fnPathsSpec)) fnPathsCard

/-- THE TIED CARD OF 'laws.FnPacked'. -/
def fnPackedCard : Claim7 := { stood := { row := fnPackedRow, standIns := [], harness := (true, "cc20692ca0adf5c2d196e0a87b6b1f7988ba3c216ccfd8730c267b0e54a8b523"), looks := true }, kinds := [], alts := [], laidByText := true, laidKinds := [.data, .data, .data, .sentinel, .sentinel], laidTests := true, laidLooks := .later }
def FnPackedCardSaid : Prop := Claim7.holds Tryd.pinned (.plain (OpenSpec.ofChange fnPackedSpec)) fnPackedCard

/-- THE TIED CARD OF 'laws.FnSerial'. -/
def fnSerialCard : Claim7 := { stood := { row := fnSerialRow, standIns := [], harness := (true, "cc20692ca0adf5c2d196e0a87b6b1f7988ba3c216ccfd8730c267b0e54a8b523"), looks := true }, kinds := [], alts := [], laidByText := true, laidKinds := [.data, .data, .data, .sentinel, .sentinel], laidTests := true, laidLooks := .later }
def FnSerialCardSaid : Prop := Claim7.holds Tryd.pinned (.plain (OpenSpec.ofChange fnSerialSpec)) fnSerialCard

/-- THE TIED CARD OF 'laws.FnExactUnserialize'. -/
def fnExactUnserializeCard : Claim7 := { stood := { row := fnExactUnserializeRow, standIns := [], harness := (true, "cc20692ca0adf5c2d196e0a87b6b1f7988ba3c216ccfd8730c267b0e54a8b523"), looks := true }, kinds := [], alts := [], laidByText := true, laidKinds := [.data, .data, .data, .sentinel, .sentinel], laidTests := true, laidLooks := .later }
def FnExactUnserializeCardSaid : Prop := Claim7.holds Tryd.pinned (.plain (OpenSpec.ofChange fnExactUnserializeSpec)) fnExactUnserializeCard

/-- THE SECOND FORM's CARD OF 'laws.FnUnion'. -/
def fnUnionUptoCard : Claim7 := { stood := { row := fnUnionUptoRow, standIns := [], harness := (true, "cc20692ca0adf5c2d196e0a87b6b1f7988ba3c216ccfd8730c267b0e54a8b523"), looks := true }, kinds := [], alts := [], laidByText := true, laidKinds := [.data, .data, .data, .sentinel, .sentinel], laidTests := true, laidLooks := .later }
def FnUnionUptoCardSaid : Prop := Claim7.holds Tryd.pinned (.plain (OpenSpec.upto fnUnionSpec)) fnUnionUptoCard

/-- THE SECOND FORM's CARD OF 'laws.FnPaths'. -/
def fnPathsUptoCard : Claim7 := { stood := { row := fnPathsUptoRow, standIns := [], harness := (true, "cc20692ca0adf5c2d196e0a87b6b1f7988ba3c216ccfd8730c267b0e54a8b523"), looks := true }, kinds := [], alts := [], laidByText := true, laidKinds := [.data, .data, .data, .sentinel, .sentinel], laidTests := true, laidLooks := .later }
def FnPathsUptoCardSaid : Prop := Claim7.holds Tryd.pinned (.plain (OpenSpec.upto fnPathsSpec)) fnPathsUptoCard

/-- THE SECOND FORM's CARD OF 'laws.FnPacked'. -/
def fnPackedUptoCard : Claim7 := { stood := { row := fnPackedUptoRow, standIns := [], harness := (true, "cc20692ca0adf5c2d196e0a87b6b1f7988ba3c216ccfd8730c267b0e54a8b523"), looks := true }, kinds := [], alts := [], laidByText := true, laidKinds := [.data, .data, .data, .sentinel, .sentinel], laidTests := true, laidLooks := .later }
def FnPackedUptoCardSaid : Prop := Claim7.holds Tryd.pinned (.plain (OpenSpec.upto fnPackedSpec)) fnPackedUptoCard

/-- THE SECOND FORM's CARD OF 'laws.FnSerial'. -/
def fnSerialUptoCard : Claim7 := { stood := { row := fnSerialUptoRow, standIns := [], harness := (true, "cc20692ca0adf5c2d196e0a87b6b1f7988ba3c216ccfd8730c267b0e54a8b523"), looks := true }, kinds := [], alts := [], laidByText := true, laidKinds := [.data, .data, .data, .sentinel, .sentinel], laidTests := true, laidLooks := .later }
def FnSerialUptoCardSaid : Prop := Claim7.holds Tryd.pinned (.plain (OpenSpec.upto fnSerialSpec)) fnSerialUptoCard

/-- THE SECOND FORM's CARD OF 'laws.FnExactUnserialize'. -/
def fnExactUnserializeUptoCard : Claim7 := { stood := { row := fnExactUnserializeUptoRow, standIns := [], harness := (true, "cc20692ca0adf5c2d196e0a87b6b1f7988ba3c216ccfd8730c267b0e54a8b523"), looks := true }, kinds := [], alts := [], laidByText := true, laidKinds := [.data, .data, .data, .sentinel, .sentinel], laidTests := true, laidLooks := .later }
def FnExactUnserializeUptoCardSaid : Prop := Claim7.holds Tryd.pinned (.plain (OpenSpec.upto fnExactUnserializeSpec)) fnExactUnserializeUptoCard
end Rows
end Go.Proofs.YtlfknfhecedddaaDoor
