/-
  DERIVED. GIVEN WITH THE SEED: THE CARDS: each row of YtolmehmglgmanaaGreatDoorRows.lean that lists a variable, with what it lists TIED to the program's text (the seventh form; the later family's looks); each row that meets fmt, with fmt's text TOLD by the authors' own Lean function (tested against real Go, not proved from fmt's source: count such statements apart). THE CARD IS WHAT COUNTS. Prove the row's statement (the work); the ties are given (YtolmehmglgmanaaGreatDoorTie.lean); close each card by the builder's one call (the guide's Derived/Test/ToyasCard.lean, 'card_holds'). Laid BY PROGRAM, IN A SANDBOX (cutbox-door.mjs). By AI agents, Wed Nov 11 2026. No macro, syntax, notation, axiom, sorry.
-/
import Derived.Test.YtolmehmglgmanaaGreatDoorRows
import GoSem.ClaimSeven
namespace Go.Proofs.YtolmehmglgmanaaGreatDoor
namespace Rows

/-- THE TIED CARD OF 'skylanternlaw52.ReportAnswers'. -/
def reportAnswersCard : Claim7 := { stood := { row := reportAnswersRow, standIns := [], harness := (true, "42f85aabcccf28e75f8b231932c68ef364eaaca54a844868e98733a2e37b0da2"), looks := true }, kinds := [], alts := [], laidByText := true, laidKinds := [.data, .data, .data, .data, .sentinel, .sentinel, .pinned], laidTests := true, laidLooks := .later }
def ReportAnswersCardSaid : Prop := Claim7.holds Tryz.pinned (.plain (OpenSpec.ofChange reportAnswersSpec)) reportAnswersCard

/-- THE SECOND FORM's CARD OF 'skylanternlaw52.ReportAnswers'. -/
def reportAnswersUptoCard : Claim7 := { stood := { row := reportAnswersUptoRow, standIns := [], harness := (true, "42f85aabcccf28e75f8b231932c68ef364eaaca54a844868e98733a2e37b0da2"), looks := true }, kinds := [], alts := [], laidByText := true, laidKinds := [.data, .data, .data, .data, .sentinel, .sentinel, .pinned], laidTests := true, laidLooks := .later }
def ReportAnswersUptoCardSaid : Prop := Claim7.holds Tryz.pinned (.plain (OpenSpec.upto reportAnswersSpec)) reportAnswersUptoCard
end Rows
end Go.Proofs.YtolmehmglgmanaaGreatDoor
