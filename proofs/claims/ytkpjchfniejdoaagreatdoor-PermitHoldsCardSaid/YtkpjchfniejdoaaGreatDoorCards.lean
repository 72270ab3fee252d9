/-
  DERIVED. GIVEN WITH THE SEED: THE CARDS: each row of YtkpjchfniejdoaaGreatDoorRows.lean that lists a variable, with what it lists TIED to the program's text (the seventh form; the later family's looks); each row that meets fmt, with fmt's text TOLD by the authors' own Lean function (tested against real Go, not proved from fmt's source: count such statements apart). THE CARD IS WHAT COUNTS. Prove the row's statement (the work); the ties are given (YtkpjchfniejdoaaGreatDoorTie.lean); close each card by the builder's one call (the guide's Derived/Test/ToyasCard.lean, 'card_holds'). Laid BY PROGRAM, IN A SANDBOX (cutbox-door.mjs). By AI agents, Wed Nov 11 2026. No macro, syntax, notation, axiom, sorry.
-/
import Derived.Test.YtkpjchfniejdoaaGreatDoorRows
import GoSem.ClaimSeven
namespace Go.Proofs.YtkpjchfniejdoaaGreatDoor
namespace Rows

/-- THE TIED CARD OF 'skylanternlaw46.PermitHolds'. -/
def permitHoldsCard : Claim7 := { stood := { row := permitHoldsRow, standIns := [], harness := (true, "6c66b062d2c76ca4c7f40aea97f1e4dd2bbc7ff0ac8d6e2ad9627eaacd49f362"), looks := true }, kinds := [], alts := [], laidByText := true, laidKinds := [.data, .data, .data, .data, .sentinel, .sentinel, .pinned], laidTests := true, laidLooks := .later }
def PermitHoldsCardSaid : Prop := Claim7.holds Tryz.pinned (.plain (OpenSpec.ofChange permitHoldsSpec)) permitHoldsCard

/-- THE SECOND FORM's CARD OF 'skylanternlaw46.PermitHolds'. -/
def permitHoldsUptoCard : Claim7 := { stood := { row := permitHoldsUptoRow, standIns := [], harness := (true, "6c66b062d2c76ca4c7f40aea97f1e4dd2bbc7ff0ac8d6e2ad9627eaacd49f362"), looks := true }, kinds := [], alts := [], laidByText := true, laidKinds := [.data, .data, .data, .data, .sentinel, .sentinel, .pinned], laidTests := true, laidLooks := .later }
def PermitHoldsUptoCardSaid : Prop := Claim7.holds Tryz.pinned (.plain (OpenSpec.upto permitHoldsSpec)) permitHoldsUptoCard
end Rows
end Go.Proofs.YtkpjchfniejdoaaGreatDoor
