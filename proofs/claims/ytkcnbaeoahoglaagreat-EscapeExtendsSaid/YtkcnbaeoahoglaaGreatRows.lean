/-
  No cell of these rows narrows 'for every input' (looked for: loops, veiled, ifaces, maps, wideKeys, modest, calm, conditions, laid).
  DERIVED. THE GIVEN ROWS OF THIS SEAT. 3 by the template 'for every input the law returns true; each argument reads behind the call as it read before'; 0 by the template 'total and deterministic' (their statements: YtkcnbaeoahoglaaGreatTotals.lean).
  GIVEN WITH THE SEED: the statements are not yours to turn. If you find one false, say at which input.
  Laid BY PROGRAM, IN A SANDBOX (cutbox-rows.mjs): the forced cells as the released guide's own fill.sh prints them over the translation 0cdc14d91e13ec4a… (all of the seat's roots in one cut). By AI agents, Wed Nov 11 2026. No macro, syntax, notation, axiom, sorry.
-/
import Derived.Test.YtkcnbaeoahoglaaGreatChecked
import GoSem.Claim
import GoSem.ClaimJoined
import GoSem.ClaimMapViews
import Derived.JoinedTies
import Derived.KernelRfl
namespace Go.Proofs.YtkcnbaeoahoglaaGreat
/- THE CELL 'sum', in the pinned program and in every row, IS THE sha256 OF THE DUMP (.gsa) THAT YtkcnbaeoahoglaaGreatProg.lean LOADS. Nothing in Lean hashes anything: it is a label: what it is worth is what the hold of that sum in a sandbox is worth. -/
noncomputable def Tryz.pinned : Pinned := { name := "ytkcnbaeoahoglaagreat", sum := "0cdc14d91e13ec4a5c738b3b9103c8925fd3cc9858bb379999cdbd1aaaa0f9d0", checked := Tryz.checked }
namespace Rows
def none {H : Type} : Left H := { results := [], args := [] }

/-- 'skylanternlaw42.EscapeValid': WHATEVER THE INPUT: true; the input reads as it did. -/
def escapeValidSpec : ChangeSpec := { name := "escapeValid", fn := fun _ => fun
  | [d1, d2] => { results := [.lit (.bool true)], args := [d1, d2] }
  | _ => none }
def escapeValidRow : OpenClaim := { program := "ytkcnbaeoahoglaagreat", sum := "0cdc14d91e13ec4a5c738b3b9103c8925fd3cc9858bb379999cdbd1aaaa0f9d0", func := "skylantern/skylanternlaw42.EscapeValid", spec := "escapeValid", inPlace := ["math/bits.Add64", "math/bits.Sub64"], unfollowed := true, recurses := true, named := ["math/bits.divideError", "math/bits.overflowError"], plainKeys := false, apart := false }
def EscapeValidSaid : Prop := escapeValidRow.holds Tryz.pinned (OpenSpec.ofChange escapeValidSpec)

/-- ITS FALSE NEIGHBOUR: 'it returns false'. Refute it at one input. -/
def escapeValidWrong : ChangeSpec := { name := "escapeValid", fn := fun _ => fun
  | [d1, d2] => { results := [.lit (.bool false)], args := [d1, d2] }
  | _ => none }
def EscapeValidWrongFalsely : Prop := escapeValidRow.holds Tryz.pinned (OpenSpec.ofChange escapeValidWrong)

/-- 'skylanternlaw42.EscapeWays': WHATEVER THE INPUT: true; the input reads as it did. -/
def escapeWaysSpec : ChangeSpec := { name := "escapeWays", fn := fun _ => fun
  | [d1, d2, d3, d4] => { results := [.lit (.bool true)], args := [d1, d2, d3, d4] }
  | _ => none }
def escapeWaysRow : OpenClaim := { program := "ytkcnbaeoahoglaagreat", sum := "0cdc14d91e13ec4a5c738b3b9103c8925fd3cc9858bb379999cdbd1aaaa0f9d0", func := "skylantern/skylanternlaw42.EscapeWays", spec := "escapeWays", inPlace := ["math/bits.Add64", "math/bits.Sub64"], unfollowed := true, recurses := true, named := ["math/bits.divideError", "math/bits.overflowError"], plainKeys := false, apart := false }
def EscapeWaysSaid : Prop := escapeWaysRow.holds Tryz.pinned (OpenSpec.ofChange escapeWaysSpec)

/-- ITS FALSE NEIGHBOUR: 'it returns false'. Refute it at one input. -/
def escapeWaysWrong : ChangeSpec := { name := "escapeWays", fn := fun _ => fun
  | [d1, d2, d3, d4] => { results := [.lit (.bool false)], args := [d1, d2, d3, d4] }
  | _ => none }
def EscapeWaysWrongFalsely : Prop := escapeWaysRow.holds Tryz.pinned (OpenSpec.ofChange escapeWaysWrong)

/-- 'skylanternlaw42.EscapeExtends': WHATEVER THE INPUT: true; the input reads as it did. -/
def escapeExtendsSpec : ChangeSpec := { name := "escapeExtends", fn := fun _ => fun
  | [d1, d2, d3, d4] => { results := [.lit (.bool true)], args := [d1, d2, d3, d4] }
  | _ => none }
def escapeExtendsRow : OpenClaim := { program := "ytkcnbaeoahoglaagreat", sum := "0cdc14d91e13ec4a5c738b3b9103c8925fd3cc9858bb379999cdbd1aaaa0f9d0", func := "skylantern/skylanternlaw42.EscapeExtends", spec := "escapeExtends", inPlace := ["math/bits.Add64", "math/bits.Sub64"], unfollowed := true, recurses := true, named := ["math/bits.divideError", "math/bits.overflowError"], plainKeys := false, apart := false }
def EscapeExtendsSaid : Prop := escapeExtendsRow.holds Tryz.pinned (OpenSpec.ofChange escapeExtendsSpec)

/-- ITS FALSE NEIGHBOUR: 'it returns false'. Refute it at one input. -/
def escapeExtendsWrong : ChangeSpec := { name := "escapeExtends", fn := fun _ => fun
  | [d1, d2, d3, d4] => { results := [.lit (.bool false)], args := [d1, d2, d3, d4] }
  | _ => none }
def EscapeExtendsWrongFalsely : Prop := escapeExtendsRow.holds Tryz.pinned (OpenSpec.ofChange escapeExtendsWrong)

/- THE SECOND FORM. 'bulk': how many values and letters a reading holds, each counted each time it is reached (what is shared counts as often as it is met; a slice's spare places count too). A statement '..UptoSaid' is the law's where the arguments, and the package variables that the reading takes, are together of bulk at most 1048576: NARROWER than '..Said'. Prove '..Said' where nothing that the law and all that it calls make is longer than what came in: it says more and counts as full. Else prove '..UptoSaid'. A law counts once. -/
mutual
def uptoBulk {H : Type} : DataW H → Nat
  | .lit (.string bytes) => bytes.length + 1
  | .lit _ => 1
  | .nil => 1
  | .ptr d => uptoBulk d + 1
  | .slice elems spare => uptoBulkAll elems + uptoBulkAll spare + 1
  | .agg parts => uptoBulkAll parts + 1
  | .iface _ d => uptoBulk d + 1
  | .map entries => uptoBulkEntries entries + 1
  | .held _ => 1
def uptoBulkAll {H : Type} : List (DataW H) → Nat
  | [] => 0
  | d :: r => uptoBulk d + uptoBulkAll r
def uptoBulkEntries {H : Type} : List (Lit × DataW H) → Nat
  | [] => 0
  | x :: r => uptoBulkEntry x + uptoBulkEntries r
def uptoBulkEntry {H : Type} : Lit × DataW H → Nat
  | (.string bytes, d) => bytes.length + uptoBulk d + 1
  | (_, d) => uptoBulk d + 1
 end
def uptoSmall : (H : Type) → List (DataW H) → Bool := fun _ ds => decide (uptoBulkAll ds ≤ 1048576)
def OpenSpec.upto (s : _root_.Go.ChangeSpec) : _root_.Go.OpenSpec := { _root_.Go.OpenSpec.ofChange s with cond := some uptoSmall }

/-- 'skylanternlaw42.EscapeValid', WHERE WHAT IT READS IS OF BULK AT MOST 1048576: true; the input reads as it did. -/
def escapeValidUptoRow : OpenClaim := { program := "ytkcnbaeoahoglaagreat", sum := "0cdc14d91e13ec4a5c738b3b9103c8925fd3cc9858bb379999cdbd1aaaa0f9d0", func := "skylantern/skylanternlaw42.EscapeValid", spec := "escapeValid", inPlace := ["math/bits.Add64", "math/bits.Sub64"], unfollowed := true, recurses := true, named := ["math/bits.divideError", "math/bits.overflowError"], plainKeys := false, apart := false, narrowed := true }
def EscapeValidUptoSaid : Prop := escapeValidUptoRow.holds Tryz.pinned (OpenSpec.upto escapeValidSpec)

/-- 'skylanternlaw42.EscapeWays', WHERE WHAT IT READS IS OF BULK AT MOST 1048576: true; the input reads as it did. -/
def escapeWaysUptoRow : OpenClaim := { program := "ytkcnbaeoahoglaagreat", sum := "0cdc14d91e13ec4a5c738b3b9103c8925fd3cc9858bb379999cdbd1aaaa0f9d0", func := "skylantern/skylanternlaw42.EscapeWays", spec := "escapeWays", inPlace := ["math/bits.Add64", "math/bits.Sub64"], unfollowed := true, recurses := true, named := ["math/bits.divideError", "math/bits.overflowError"], plainKeys := false, apart := false, narrowed := true }
def EscapeWaysUptoSaid : Prop := escapeWaysUptoRow.holds Tryz.pinned (OpenSpec.upto escapeWaysSpec)

/-- 'skylanternlaw42.EscapeExtends', WHERE WHAT IT READS IS OF BULK AT MOST 1048576: true; the input reads as it did. -/
def escapeExtendsUptoRow : OpenClaim := { program := "ytkcnbaeoahoglaagreat", sum := "0cdc14d91e13ec4a5c738b3b9103c8925fd3cc9858bb379999cdbd1aaaa0f9d0", func := "skylantern/skylanternlaw42.EscapeExtends", spec := "escapeExtends", inPlace := ["math/bits.Add64", "math/bits.Sub64"], unfollowed := true, recurses := true, named := ["math/bits.divideError", "math/bits.overflowError"], plainKeys := false, apart := false, narrowed := true }
def EscapeExtendsUptoSaid : Prop := escapeExtendsUptoRow.holds Tryz.pinned (OpenSpec.upto escapeExtendsSpec)

end Rows
end Go.Proofs.YtkcnbaeoahoglaaGreat
