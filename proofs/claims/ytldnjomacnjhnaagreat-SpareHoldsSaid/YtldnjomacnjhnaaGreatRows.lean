/-
  No cell of these rows narrows 'for every input' (looked for: loops, veiled, ifaces, maps, wideKeys, modest, calm, conditions, laid).
  DERIVED. THE GIVEN ROWS OF THIS SEAT. 6 by the template 'for every input the law returns true; each argument reads behind the call as it read before'; 0 by the template 'total and deterministic' (their statements: YtldnjomacnjhnaaGreatTotals.lean).
  GIVEN WITH THE SEED: the statements are not yours to turn. If you find one false, say at which input.
  Laid BY PROGRAM, IN A SANDBOX (cutbox-rows.mjs): the forced cells as the released guide's own fill.sh prints them over the translation b97c220f7aae4b04… (all of the seat's roots in one cut). By AI agents, Wed Nov 11 2026. No macro, syntax, notation, axiom, sorry.
-/
import Derived.Test.YtldnjomacnjhnaaGreatChecked
import GoSem.Claim
import GoSem.ClaimJoined
import GoSem.ClaimMapViews
import Derived.JoinedTies
import Derived.KernelRfl
namespace Go.Proofs.YtldnjomacnjhnaaGreat
/- THE CELL 'sum', in the pinned program and in every row, IS THE sha256 OF THE DUMP (.gsa) THAT YtldnjomacnjhnaaGreatProg.lean LOADS. Nothing in Lean hashes anything: it is a label: what it is worth is what the hold of that sum in a sandbox is worth. -/
noncomputable def Tryz.pinned : Pinned := { name := "ytldnjomacnjhnaagreat", sum := "b97c220f7aae4b0444f5fca686252db54581c07e14110bad5c9a5b383a05f6ee", checked := Tryz.checked }
namespace Rows
def none {H : Type} : Left H := { results := [], args := [] }

/-- 'skylanternlaw41.SpareValid': WHATEVER THE INPUT: true; the input reads as it did. -/
def spareValidSpec : ChangeSpec := { name := "spareValid", fn := fun _ => fun
  | [d] => { results := [.lit (.bool true)], args := [d] }
  | _ => none }
def spareValidRow : OpenClaim := { program := "ytldnjomacnjhnaagreat", sum := "b97c220f7aae4b0444f5fca686252db54581c07e14110bad5c9a5b383a05f6ee", func := "skylantern/skylanternlaw41.SpareValid", spec := "spareValid", inPlace := ["math/bits.Add64", "math/bits.Sub64"], unfollowed := true, recurses := true, named := ["math/bits.divideError", "math/bits.overflowError"], plainKeys := false, apart := false }
def SpareValidSaid : Prop := spareValidRow.holds Tryz.pinned (OpenSpec.ofChange spareValidSpec)

/-- ITS FALSE NEIGHBOUR: 'it returns false'. Refute it at one input. -/
def spareValidWrong : ChangeSpec := { name := "spareValid", fn := fun _ => fun
  | [d] => { results := [.lit (.bool false)], args := [d] }
  | _ => none }
def SpareValidWrongFalsely : Prop := spareValidRow.holds Tryz.pinned (OpenSpec.ofChange spareValidWrong)

/-- 'skylanternlaw41.SpareTargets': WHATEVER THE INPUT: true; the input reads as it did. -/
def spareTargetsSpec : ChangeSpec := { name := "spareTargets", fn := fun _ => fun
  | [d1, d2, d3, d4] => { results := [.lit (.bool true)], args := [d1, d2, d3, d4] }
  | _ => none }
def spareTargetsRow : OpenClaim := { program := "ytldnjomacnjhnaagreat", sum := "b97c220f7aae4b0444f5fca686252db54581c07e14110bad5c9a5b383a05f6ee", func := "skylantern/skylanternlaw41.SpareTargets", spec := "spareTargets", inPlace := ["math/bits.Add64", "math/bits.Sub64"], unfollowed := true, recurses := true, named := ["math/bits.divideError", "math/bits.overflowError"], plainKeys := false, apart := false }
def SpareTargetsSaid : Prop := spareTargetsRow.holds Tryz.pinned (OpenSpec.ofChange spareTargetsSpec)

/-- ITS FALSE NEIGHBOUR: 'it returns false'. Refute it at one input. -/
def spareTargetsWrong : ChangeSpec := { name := "spareTargets", fn := fun _ => fun
  | [d1, d2, d3, d4] => { results := [.lit (.bool false)], args := [d1, d2, d3, d4] }
  | _ => none }
def SpareTargetsWrongFalsely : Prop := spareTargetsRow.holds Tryz.pinned (OpenSpec.ofChange spareTargetsWrong)

/-- 'skylanternlaw41.SpareReliefs': WHATEVER THE INPUT: true; the input reads as it did. -/
def spareReliefsSpec : ChangeSpec := { name := "spareReliefs", fn := fun _ => fun
  | [d1, d2, d3] => { results := [.lit (.bool true)], args := [d1, d2, d3] }
  | _ => none }
def spareReliefsRow : OpenClaim := { program := "ytldnjomacnjhnaagreat", sum := "b97c220f7aae4b0444f5fca686252db54581c07e14110bad5c9a5b383a05f6ee", func := "skylantern/skylanternlaw41.SpareReliefs", spec := "spareReliefs", inPlace := ["math/bits.Add64", "math/bits.Sub64"], unfollowed := true, recurses := true, named := ["math/bits.divideError", "math/bits.overflowError"], plainKeys := false, apart := false }
def SpareReliefsSaid : Prop := spareReliefsRow.holds Tryz.pinned (OpenSpec.ofChange spareReliefsSpec)

/-- ITS FALSE NEIGHBOUR: 'it returns false'. Refute it at one input. -/
def spareReliefsWrong : ChangeSpec := { name := "spareReliefs", fn := fun _ => fun
  | [d1, d2, d3] => { results := [.lit (.bool false)], args := [d1, d2, d3] }
  | _ => none }
def SpareReliefsWrongFalsely : Prop := spareReliefsRow.holds Tryz.pinned (OpenSpec.ofChange spareReliefsWrong)

/-- 'skylanternlaw41.SparePaths': WHATEVER THE INPUT: true; the input reads as it did. -/
def sparePathsSpec : ChangeSpec := { name := "sparePaths", fn := fun _ => fun
  | [d1, d2, d3, d4, d5] => { results := [.lit (.bool true)], args := [d1, d2, d3, d4, d5] }
  | _ => none }
def sparePathsRow : OpenClaim := { program := "ytldnjomacnjhnaagreat", sum := "b97c220f7aae4b0444f5fca686252db54581c07e14110bad5c9a5b383a05f6ee", func := "skylantern/skylanternlaw41.SparePaths", spec := "sparePaths", inPlace := ["math/bits.Add64", "math/bits.Sub64"], unfollowed := true, recurses := true, named := ["math/bits.divideError", "math/bits.overflowError"], plainKeys := false, apart := false }
def SparePathsSaid : Prop := sparePathsRow.holds Tryz.pinned (OpenSpec.ofChange sparePathsSpec)

/-- ITS FALSE NEIGHBOUR: 'it returns false'. Refute it at one input. -/
def sparePathsWrong : ChangeSpec := { name := "sparePaths", fn := fun _ => fun
  | [d1, d2, d3, d4, d5] => { results := [.lit (.bool false)], args := [d1, d2, d3, d4, d5] }
  | _ => none }
def SparePathsWrongFalsely : Prop := sparePathsRow.holds Tryz.pinned (OpenSpec.ofChange sparePathsWrong)

/-- 'skylanternlaw41.SpareParks': WHATEVER THE INPUT: true; the input reads as it did. -/
def spareParksSpec : ChangeSpec := { name := "spareParks", fn := fun _ => fun
  | [d1, d2] => { results := [.lit (.bool true)], args := [d1, d2] }
  | _ => none }
def spareParksRow : OpenClaim := { program := "ytldnjomacnjhnaagreat", sum := "b97c220f7aae4b0444f5fca686252db54581c07e14110bad5c9a5b383a05f6ee", func := "skylantern/skylanternlaw41.SpareParks", spec := "spareParks", inPlace := ["math/bits.Add64", "math/bits.Sub64"], unfollowed := true, recurses := true, named := ["math/bits.divideError", "math/bits.overflowError"], plainKeys := false, apart := false }
def SpareParksSaid : Prop := spareParksRow.holds Tryz.pinned (OpenSpec.ofChange spareParksSpec)

/-- ITS FALSE NEIGHBOUR: 'it returns false'. Refute it at one input. -/
def spareParksWrong : ChangeSpec := { name := "spareParks", fn := fun _ => fun
  | [d1, d2] => { results := [.lit (.bool false)], args := [d1, d2] }
  | _ => none }
def SpareParksWrongFalsely : Prop := spareParksRow.holds Tryz.pinned (OpenSpec.ofChange spareParksWrong)

/-- 'skylanternlaw41.SpareHolds': WHATEVER THE INPUT: true; the input reads as it did. -/
def spareHoldsSpec : ChangeSpec := { name := "spareHolds", fn := fun _ => fun
  | [d1, d2, d3, d4, d5, d6, d7] => { results := [.lit (.bool true)], args := [d1, d2, d3, d4, d5, d6, d7] }
  | _ => none }
def spareHoldsRow : OpenClaim := { program := "ytldnjomacnjhnaagreat", sum := "b97c220f7aae4b0444f5fca686252db54581c07e14110bad5c9a5b383a05f6ee", func := "skylantern/skylanternlaw41.SpareHolds", spec := "spareHolds", inPlace := ["math/bits.Add64", "math/bits.Sub64"], unfollowed := true, recurses := true, named := ["math/bits.divideError", "math/bits.overflowError"], plainKeys := false, apart := false }
def SpareHoldsSaid : Prop := spareHoldsRow.holds Tryz.pinned (OpenSpec.ofChange spareHoldsSpec)

/-- ITS FALSE NEIGHBOUR: 'it returns false'. Refute it at one input. -/
def spareHoldsWrong : ChangeSpec := { name := "spareHolds", fn := fun _ => fun
  | [d1, d2, d3, d4, d5, d6, d7] => { results := [.lit (.bool false)], args := [d1, d2, d3, d4, d5, d6, d7] }
  | _ => none }
def SpareHoldsWrongFalsely : Prop := spareHoldsRow.holds Tryz.pinned (OpenSpec.ofChange spareHoldsWrong)

/- THE SECOND FORM. 'bulk': how many values and letters a reading holds, each counted each time it is reached (what is shared counts as often as it is met; a slice's spare places count too). A statement '..UptoSaid' is the law's where the arguments, and the package variables that the reading takes, are together of bulk at most 1048576: NARROWER than '..Said'. Prove '..Said' where nothing that the law and all that it calls make is longer than what came in: it says more and counts as full. Else prove '..UptoSaid'. A law counts once. -/
mutual
def uptoBulk {H : Type} : DataW H → Nat
  | .lit (.string bytes) => bytes.length + 1
  | .lit _ => 1
  | .nil => 1
  | .ptr d => uptoBulk d + 1
  | .slice elems spare => uptoBulkAll elems + uptoBulkAll spare + 1
  | .agg parts => uptoBulkAll parts + 1
  | .iface _ d => uptoBulk d + 1
  | .map entries => uptoBulkEntries entries + 1
  | .held _ => 1
def uptoBulkAll {H : Type} : List (DataW H) → Nat
  | [] => 0
  | d :: r => uptoBulk d + uptoBulkAll r
def uptoBulkEntries {H : Type} : List (Lit × DataW H) → Nat
  | [] => 0
  | x :: r => uptoBulkEntry x + uptoBulkEntries r
def uptoBulkEntry {H : Type} : Lit × DataW H → Nat
  | (.string bytes, d) => bytes.length + uptoBulk d + 1
  | (_, d) => uptoBulk d + 1
 end
def uptoSmall : (H : Type) → List (DataW H) → Bool := fun _ ds => decide (uptoBulkAll ds ≤ 1048576)
def OpenSpec.upto (s : _root_.Go.ChangeSpec) : _root_.Go.OpenSpec := { _root_.Go.OpenSpec.ofChange s with cond := some uptoSmall }

/-- 'skylanternlaw41.SpareValid', WHERE WHAT IT READS IS OF BULK AT MOST 1048576: true; the input reads as it did. -/
def spareValidUptoRow : OpenClaim := { program := "ytldnjomacnjhnaagreat", sum := "b97c220f7aae4b0444f5fca686252db54581c07e14110bad5c9a5b383a05f6ee", func := "skylantern/skylanternlaw41.SpareValid", spec := "spareValid", inPlace := ["math/bits.Add64", "math/bits.Sub64"], unfollowed := true, recurses := true, named := ["math/bits.divideError", "math/bits.overflowError"], plainKeys := false, apart := false, narrowed := true }
def SpareValidUptoSaid : Prop := spareValidUptoRow.holds Tryz.pinned (OpenSpec.upto spareValidSpec)

/-- 'skylanternlaw41.SpareTargets', WHERE WHAT IT READS IS OF BULK AT MOST 1048576: true; the input reads as it did. -/
def spareTargetsUptoRow : OpenClaim := { program := "ytldnjomacnjhnaagreat", sum := "b97c220f7aae4b0444f5fca686252db54581c07e14110bad5c9a5b383a05f6ee", func := "skylantern/skylanternlaw41.SpareTargets", spec := "spareTargets", inPlace := ["math/bits.Add64", "math/bits.Sub64"], unfollowed := true, recurses := true, named := ["math/bits.divideError", "math/bits.overflowError"], plainKeys := false, apart := false, narrowed := true }
def SpareTargetsUptoSaid : Prop := spareTargetsUptoRow.holds Tryz.pinned (OpenSpec.upto spareTargetsSpec)

/-- 'skylanternlaw41.SpareReliefs', WHERE WHAT IT READS IS OF BULK AT MOST 1048576: true; the input reads as it did. -/
def spareReliefsUptoRow : OpenClaim := { program := "ytldnjomacnjhnaagreat", sum := "b97c220f7aae4b0444f5fca686252db54581c07e14110bad5c9a5b383a05f6ee", func := "skylantern/skylanternlaw41.SpareReliefs", spec := "spareReliefs", inPlace := ["math/bits.Add64", "math/bits.Sub64"], unfollowed := true, recurses := true, named := ["math/bits.divideError", "math/bits.overflowError"], plainKeys := false, apart := false, narrowed := true }
def SpareReliefsUptoSaid : Prop := spareReliefsUptoRow.holds Tryz.pinned (OpenSpec.upto spareReliefsSpec)

/-- 'skylanternlaw41.SparePaths', WHERE WHAT IT READS IS OF BULK AT MOST 1048576: true; the input reads as it did. -/
def sparePathsUptoRow : OpenClaim := { program := "ytldnjomacnjhnaagreat", sum := "b97c220f7aae4b0444f5fca686252db54581c07e14110bad5c9a5b383a05f6ee", func := "skylantern/skylanternlaw41.SparePaths", spec := "sparePaths", inPlace := ["math/bits.Add64", "math/bits.Sub64"], unfollowed := true, recurses := true, named := ["math/bits.divideError", "math/bits.overflowError"], plainKeys := false, apart := false, narrowed := true }
def SparePathsUptoSaid : Prop := sparePathsUptoRow.holds Tryz.pinned (OpenSpec.upto sparePathsSpec)

/-- 'skylanternlaw41.SpareParks', WHERE WHAT IT READS IS OF BULK AT MOST 1048576: true; the input reads as it did. -/
def spareParksUptoRow : OpenClaim := { program := "ytldnjomacnjhnaagreat", sum := "b97c220f7aae4b0444f5fca686252db54581c07e14110bad5c9a5b383a05f6ee", func := "skylantern/skylanternlaw41.SpareParks", spec := "spareParks", inPlace := ["math/bits.Add64", "math/bits.Sub64"], unfollowed := true, recurses := true, named := ["math/bits.divideError", "math/bits.overflowError"], plainKeys := false, apart := false, narrowed := true }
def SpareParksUptoSaid : Prop := spareParksUptoRow.holds Tryz.pinned (OpenSpec.upto spareParksSpec)

/-- 'skylanternlaw41.SpareHolds', WHERE WHAT IT READS IS OF BULK AT MOST 1048576: true; the input reads as it did. -/
def spareHoldsUptoRow : OpenClaim := { program := "ytldnjomacnjhnaagreat", sum := "b97c220f7aae4b0444f5fca686252db54581c07e14110bad5c9a5b383a05f6ee", func := "skylantern/skylanternlaw41.SpareHolds", spec := "spareHolds", inPlace := ["math/bits.Add64", "math/bits.Sub64"], unfollowed := true, recurses := true, named := ["math/bits.divideError", "math/bits.overflowError"], plainKeys := false, apart := false, narrowed := true }
def SpareHoldsUptoSaid : Prop := spareHoldsUptoRow.holds Tryz.pinned (OpenSpec.upto spareHoldsSpec)

end Rows
end Go.Proofs.YtldnjomacnjhnaaGreat
