/-
  DERIVED. GIVEN WITH THE SEED: THE CARDS: each row of YtckagpelhjgnpaaDoorRows.lean that lists a variable, with what it lists TIED to the program's text (the seventh form; the later family's looks); each row that meets fmt, with fmt's text TOLD by the authors' own Lean function (tested against real Go, not proved from fmt's source: count such statements apart). THE CARD IS WHAT COUNTS. Prove the row's statement (the work); the ties are given (YtckagpelhjgnpaaDoorTie.lean); close each card by the builder's one call (the guide's Derived/Test/ToyasCard.lean, 'card_holds'). Laid BY PROGRAM, IN A SANDBOX (cutbox-door.mjs). By AI agents, Wed Nov 11 2026. No macro, syntax, notation, axiom, sorry.
-/
import Derived.Test.YtckagpelhjgnpaaDoorRows
import GoSem.ClaimSeven
namespace Go.Proofs.YtckagpelhjgnpaaDoor
namespace Rows

/-- THE TIED CARD OF 'skylanternlaw52.ReportTables'. -/
def reportTablesCard : Claim7 := { stood := { row := reportTablesRow, standIns := [], harness := (true, "38f28a1aa8d6479a12d8d68e4fa38a7f2eacd2fd8eed1f4161aea20f20f2d2e9"), looks := true }, kinds := [], alts := [], laidByText := true, laidKinds := [.data, .data, .data], laidTests := true, laidLooks := .later }
def ReportTablesCardSaid : Prop := Claim7.holds Tryd.pinned (.plain (OpenSpec.ofChange reportTablesSpec)) reportTablesCard

/-- THE TIED CARD OF 'skylanternlaw52.ReportFindings'. -/
def reportFindingsCard : Claim7 := { stood := { row := reportFindingsRow, standIns := [], harness := (true, "38f28a1aa8d6479a12d8d68e4fa38a7f2eacd2fd8eed1f4161aea20f20f2d2e9"), looks := true }, kinds := [], alts := [], laidByText := true, laidKinds := [.data, .data, .data, .data, .sentinel, .sentinel, .pinned], laidTests := true, laidLooks := .later }
def ReportFindingsCardSaid : Prop := Claim7.holds Tryd.pinned (.plain (OpenSpec.ofChange reportFindingsSpec)) reportFindingsCard

/-- THE SECOND FORM's CARD OF 'skylanternlaw52.ReportTables'. -/
def reportTablesUptoCard : Claim7 := { stood := { row := reportTablesUptoRow, standIns := [], harness := (true, "38f28a1aa8d6479a12d8d68e4fa38a7f2eacd2fd8eed1f4161aea20f20f2d2e9"), looks := true }, kinds := [], alts := [], laidByText := true, laidKinds := [.data, .data, .data], laidTests := true, laidLooks := .later }
def ReportTablesUptoCardSaid : Prop := Claim7.holds Tryd.pinned (.plain (OpenSpec.upto reportTablesSpec)) reportTablesUptoCard

/-- THE SECOND FORM's CARD OF 'skylanternlaw52.ReportFindings'. -/
def reportFindingsUptoCard : Claim7 := { stood := { row := reportFindingsUptoRow, standIns := [], harness := (true, "38f28a1aa8d6479a12d8d68e4fa38a7f2eacd2fd8eed1f4161aea20f20f2d2e9"), looks := true }, kinds := [], alts := [], laidByText := true, laidKinds := [.data, .data, .data, .data, .sentinel, .sentinel, .pinned], laidTests := true, laidLooks := .later }
def ReportFindingsUptoCardSaid : Prop := Claim7.holds Tryd.pinned (.plain (OpenSpec.upto reportFindingsSpec)) reportFindingsUptoCard
end Rows
end Go.Proofs.YtckagpelhjgnpaaDoor
