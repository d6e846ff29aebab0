/-
  DERIVED. GIVEN WITH THE SEED: THE CARDS: each row of YtgkniabpdgaoiaaGreatDoorRows.lean that lists a variable, with what it lists TIED to the program's text (the seventh form; the later family's looks); each row that meets fmt, with fmt's text TOLD by the authors' own Lean function (tested against real Go, not proved from fmt's source: count such statements apart). THE CARD IS WHAT COUNTS. Prove the row's statement (the work); the ties are given (YtgkniabpdgaoiaaGreatDoorTie.lean); close each card by the builder's one call (the guide's Derived/Test/ToyasCard.lean, 'card_holds'). Laid BY PROGRAM, IN A SANDBOX (cutbox-door.mjs). By AI agents, Wed Nov 11 2026. No macro, syntax, notation, axiom, sorry.
-/
import Derived.Test.YtgkniabpdgaoiaaGreatDoorRows
import GoSem.ClaimSeven
namespace Go.Proofs.YtgkniabpdgaoiaaGreatDoor
namespace Rows

/-- THE TIED CARD OF 'laws.FnTables'. -/
def fnTablesCard : Claim7 := { stood := { row := fnTablesRow, standIns := [], harness := (true, "1fe0fa3a6369dd2e8282ad4206867df8cefddc6a9cb4a5d5a614ce5869b81154"), looks := true }, kinds := [], alts := [], laidByText := true, laidKinds := [.data, .data, .data, .sentinel, .sentinel], laidTests := true, laidLooks := .later }
def FnTablesCardSaid : Prop := Claim7.holds Tryz.pinned (.plain (OpenSpec.ofChange fnTablesSpec)) fnTablesCard

/-- THE TIED CARD OF 'laws.FnLoadOfStore'. -/
def fnLoadOfStoreCard : Claim7 := { stood := { row := fnLoadOfStoreRow, standIns := [], harness := (true, "1fe0fa3a6369dd2e8282ad4206867df8cefddc6a9cb4a5d5a614ce5869b81154"), looks := true }, kinds := [], alts := [], laidByText := true, laidKinds := [.data, .data, .data, .sentinel, .sentinel], laidTests := true, laidLooks := .later }
def FnLoadOfStoreCardSaid : Prop := Claim7.holds Tryz.pinned (.plain (OpenSpec.ofChange fnLoadOfStoreSpec)) fnLoadOfStoreCard

/-- THE TIED CARD OF 'laws.FnSharingUnseen'. -/
def fnSharingUnseenCard : Claim7 := { stood := { row := fnSharingUnseenRow, standIns := [], harness := (true, "1fe0fa3a6369dd2e8282ad4206867df8cefddc6a9cb4a5d5a614ce5869b81154"), looks := true }, kinds := [], alts := [], laidByText := true, laidKinds := [.data, .data, .data, .sentinel, .sentinel], laidTests := true, laidLooks := .later }
def FnSharingUnseenCardSaid : Prop := Claim7.holds Tryz.pinned (.plain (OpenSpec.ofChange fnSharingUnseenSpec)) fnSharingUnseenCard

/-- THE SECOND FORM's CARD OF 'laws.FnTables'. -/
def fnTablesUptoCard : Claim7 := { stood := { row := fnTablesUptoRow, standIns := [], harness := (true, "1fe0fa3a6369dd2e8282ad4206867df8cefddc6a9cb4a5d5a614ce5869b81154"), looks := true }, kinds := [], alts := [], laidByText := true, laidKinds := [.data, .data, .data, .sentinel, .sentinel], laidTests := true, laidLooks := .later }
def FnTablesUptoCardSaid : Prop := Claim7.holds Tryz.pinned (.plain (OpenSpec.upto fnTablesSpec)) fnTablesUptoCard

/-- THE SECOND FORM's CARD OF 'laws.FnLoadOfStore'. -/
def fnLoadOfStoreUptoCard : Claim7 := { stood := { row := fnLoadOfStoreUptoRow, standIns := [], harness := (true, "1fe0fa3a6369dd2e8282ad4206867df8cefddc6a9cb4a5d5a614ce5869b81154"), looks := true }, kinds := [], alts := [], laidByText := true, laidKinds := [.data, .data, .data, .sentinel, .sentinel], laidTests := true, laidLooks := .later }
def FnLoadOfStoreUptoCardSaid : Prop := Claim7.holds Tryz.pinned (.plain (OpenSpec.upto fnLoadOfStoreSpec)) fnLoadOfStoreUptoCard

/-- THE SECOND FORM's CARD OF 'laws.FnSharingUnseen'. -/
def fnSharingUnseenUptoCard : Claim7 := { stood := { row := fnSharingUnseenUptoRow, standIns := [], harness := (true, "1fe0fa3a6369dd2e8282ad4206867df8cefddc6a9cb4a5d5a614ce5869b81154"), looks := true }, kinds := [], alts := [], laidByText := true, laidKinds := [.data, .data, .data, .sentinel, .sentinel], laidTests := true, laidLooks := .later }
def FnSharingUnseenUptoCardSaid : Prop := Claim7.holds Tryz.pinned (.plain (OpenSpec.upto fnSharingUnseenSpec)) fnSharingUnseenUptoCard
end Rows
end Go.Proofs.YtgkniabpdgaoiaaGreatDoor
