/-
  DERIVED. GIVEN WITH THE SEED: THE CARDS: each row of YtihcpmmopejpoaaGreatDoorRows.lean that lists a variable, with what it lists TIED to the program's text (the seventh form; the later family's looks); each row that meets fmt, with fmt's text TOLD by the authors' own Lean function (tested against real Go, not proved from fmt's source: count such statements apart). THE CARD IS WHAT COUNTS. Prove the row's statement (the work); the ties are given (YtihcpmmopejpoaaGreatDoorTie.lean); close each card by the builder's one call (the guide's Derived/Test/ToyasCard.lean, 'card_holds'). Laid BY PROGRAM, IN A SANDBOX (cutbox-door.mjs). By AI agents, Wed Nov 11 2026. No macro, syntax, notation, axiom, sorry.
-/
import Derived.Test.YtihcpmmopejpoaaGreatDoorRows
import GoSem.ClaimSeven
namespace Go.Proofs.YtihcpmmopejpoaaGreatDoor
namespace Rows

/-- THE TIED CARD OF 'skylanternlaw46.PermitLacks'. -/
def permitLacksCard : Claim7 := { stood := { row := permitLacksRow, standIns := [], harness := (true, "08751587b9eb93a7690de7fa5e80196b2df48c58e279a42356d87d921c708680"), looks := true }, kinds := [], alts := [], laidByText := true, laidKinds := [.data, .data, .data, .sentinel, .sentinel], laidTests := true, laidLooks := .later }
def PermitLacksCardSaid : Prop := Claim7.holds Tryz.pinned (.plain (OpenSpec.ofChange permitLacksSpec)) permitLacksCard

/-- THE TIED CARD OF 'skylanternlaw46.PermitFinds'. -/
def permitFindsCard : Claim7 := { stood := { row := permitFindsRow, standIns := [], harness := (true, "08751587b9eb93a7690de7fa5e80196b2df48c58e279a42356d87d921c708680"), looks := true }, kinds := [], alts := [], laidByText := true, laidKinds := [.data, .data, .data, .sentinel, .sentinel], laidTests := true, laidLooks := .later }
def PermitFindsCardSaid : Prop := Claim7.holds Tryz.pinned (.plain (OpenSpec.ofChange permitFindsSpec)) permitFindsCard

/-- THE SECOND FORM's CARD OF 'skylanternlaw46.PermitLacks'. -/
def permitLacksUptoCard : Claim7 := { stood := { row := permitLacksUptoRow, standIns := [], harness := (true, "08751587b9eb93a7690de7fa5e80196b2df48c58e279a42356d87d921c708680"), looks := true }, kinds := [], alts := [], laidByText := true, laidKinds := [.data, .data, .data, .sentinel, .sentinel], laidTests := true, laidLooks := .later }
def PermitLacksUptoCardSaid : Prop := Claim7.holds Tryz.pinned (.plain (OpenSpec.upto permitLacksSpec)) permitLacksUptoCard

/-- THE SECOND FORM's CARD OF 'skylanternlaw46.PermitFinds'. -/
def permitFindsUptoCard : Claim7 := { stood := { row := permitFindsUptoRow, standIns := [], harness := (true, "08751587b9eb93a7690de7fa5e80196b2df48c58e279a42356d87d921c708680"), looks := true }, kinds := [], alts := [], laidByText := true, laidKinds := [.data, .data, .data, .sentinel, .sentinel], laidTests := true, laidLooks := .later }
def PermitFindsUptoCardSaid : Prop := Claim7.holds Tryz.pinned (.plain (OpenSpec.upto permitFindsSpec)) permitFindsUptoCard
end Rows
end Go.Proofs.YtihcpmmopejpoaaGreatDoor
