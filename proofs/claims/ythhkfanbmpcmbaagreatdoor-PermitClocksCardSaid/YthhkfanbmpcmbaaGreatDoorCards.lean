/-
  DERIVED. GIVEN WITH THE SEED: THE CARDS: each row of YthhkfanbmpcmbaaGreatDoorRows.lean that lists a variable, with what it lists TIED to the program's text (the seventh form; the later family's looks); each row that meets fmt, with fmt's text TOLD by the authors' own Lean function (tested against real Go, not proved from fmt's source: count such statements apart). THE CARD IS WHAT COUNTS. Prove the row's statement (the work); the ties are given (YthhkfanbmpcmbaaGreatDoorTie.lean); close each card by the builder's one call (the guide's Derived/Test/ToyasCard.lean, 'card_holds'). Laid BY PROGRAM, IN A SANDBOX (cutbox-door.mjs). By AI agents, Wed Nov 11 2026. No macro, syntax, notation, axiom, sorry.
-/
import Derived.Test.YthhkfanbmpcmbaaGreatDoorRows
import GoSem.ClaimSeven
namespace Go.Proofs.YthhkfanbmpcmbaaGreatDoor
namespace Rows

/-- THE TIED CARD OF 'skylanternlaw46.PermitClocks'. -/
def permitClocksCard : Claim7 := { stood := { row := permitClocksRow, standIns := [], harness := (true, "cfab1b3d92039bb8c9d0ad9645d72a6e4758517b2ef5a8b4e54ce8e5dce85d00"), looks := true }, kinds := [], alts := [], laidByText := true, laidKinds := [.data, .data, .data, .sentinel, .sentinel], laidTests := true, laidLooks := .later }
def PermitClocksCardSaid : Prop := Claim7.holds Tryz.pinned (.plain (OpenSpec.ofChange permitClocksSpec)) permitClocksCard

/-- THE SECOND FORM's CARD OF 'skylanternlaw46.PermitClocks'. -/
def permitClocksUptoCard : Claim7 := { stood := { row := permitClocksUptoRow, standIns := [], harness := (true, "cfab1b3d92039bb8c9d0ad9645d72a6e4758517b2ef5a8b4e54ce8e5dce85d00"), looks := true }, kinds := [], alts := [], laidByText := true, laidKinds := [.data, .data, .data, .sentinel, .sentinel], laidTests := true, laidLooks := .later }
def PermitClocksUptoCardSaid : Prop := Claim7.holds Tryz.pinned (.plain (OpenSpec.upto permitClocksSpec)) permitClocksUptoCard
end Rows
end Go.Proofs.YthhkfanbmpcmbaaGreatDoor
