/-
  No cell of these rows narrows 'for every input' (looked for: loops, veiled, ifaces, maps, wideKeys, modest, calm, conditions, laid).
  DERIVED. THE GIVEN ROWS OF THIS SEAT. 4 by the template 'for every input the law returns true; each argument reads behind the call as it read before'; 0 by the template 'total and deterministic' (their statements: YtgiiolidgiglaaaTotals.lean).
  GIVEN WITH THE SEED: the statements are not yours to turn. If you find one false, say at which input.
  Laid BY PROGRAM, IN A SANDBOX (cutbox-rows.mjs): the forced cells as the released guide's own fill.sh prints them over the translation 0fbd2d3f538ba823… (all of the seat's roots in one cut). By AI agents, Wed Nov 11 2026. No macro, syntax, notation, axiom, sorry.
-/
import Derived.Test.YtgiiolidgiglaaaChecked
import GoSem.Claim
import GoSem.ClaimJoined
import GoSem.ClaimMapViews
import Derived.JoinedTies
import Derived.KernelRfl
namespace Go.Proofs.Ytgiiolidgiglaaa
/- THE CELL 'sum', in the pinned program and in every row, IS THE sha256 OF THE DUMP (.gsa) THAT YtgiiolidgiglaaaProg.lean LOADS. Nothing in Lean hashes anything: it is a label: what it is worth is what the hold of that sum in a sandbox is worth. -/
noncomputable def Try.pinned : Pinned := { name := "ytgiiolidgiglaaa", sum := "0fbd2d3f538ba823218186eab0cd7b539d0ebb46b3ef8b99a4c159a63bbf1734", checked := Try.checked }
namespace Rows
def none {H : Type} : Left H := { results := [], args := [] }

/-- 'laws.FnExactBlindWires': WHATEVER THE INPUT: true; the input reads as it did. -/
def fnExactBlindWiresSpec : ChangeSpec := { name := "fnExactBlindWires", fn := fun _ => fun
  | [d] => { results := [.lit (.bool true)], args := [d] }
  | _ => none }
def fnExactBlindWiresRow : OpenClaim := { program := "ytgiiolidgiglaaa", sum := "0fbd2d3f538ba823218186eab0cd7b539d0ebb46b3ef8b99a4c159a63bbf1734", func := "loop.example/g00859/laws.FnExactBlindWires", spec := "fnExactBlindWires", recurses := true, apart := false }
def FnExactBlindWiresSaid : Prop := fnExactBlindWiresRow.holds Try.pinned (OpenSpec.ofChange fnExactBlindWiresSpec)

/-- ITS FALSE NEIGHBOUR: 'it returns false'. Refute it at one input. -/
def fnExactBlindWiresWrong : ChangeSpec := { name := "fnExactBlindWires", fn := fun _ => fun
  | [d] => { results := [.lit (.bool false)], args := [d] }
  | _ => none }
def FnExactBlindWiresWrongFalsely : Prop := fnExactBlindWiresRow.holds Try.pinned (OpenSpec.ofChange fnExactBlindWiresWrong)

/-- 'laws.FnFaults': WHATEVER THE INPUT: true; the input reads as it did. -/
def fnFaultsSpec : ChangeSpec := { name := "fnFaults", fn := fun _ => fun
  | [d] => { results := [.lit (.bool true)], args := [d] }
  | _ => none }
def fnFaultsRow : OpenClaim := { program := "ytgiiolidgiglaaa", sum := "0fbd2d3f538ba823218186eab0cd7b539d0ebb46b3ef8b99a4c159a63bbf1734", func := "loop.example/g00859/laws.FnFaults", spec := "fnFaults", unfollowed := true, recurses := true, apart := false }
def FnFaultsSaid : Prop := fnFaultsRow.holds Try.pinned (OpenSpec.ofChange fnFaultsSpec)

/-- ITS FALSE NEIGHBOUR: 'it returns false'. Refute it at one input. -/
def fnFaultsWrong : ChangeSpec := { name := "fnFaults", fn := fun _ => fun
  | [d] => { results := [.lit (.bool false)], args := [d] }
  | _ => none }
def FnFaultsWrongFalsely : Prop := fnFaultsRow.holds Try.pinned (OpenSpec.ofChange fnFaultsWrong)

/-- 'laws.FnHidden': WHATEVER THE INPUT: true; the input reads as it did. -/
def fnHiddenSpec : ChangeSpec := { name := "fnHidden", fn := fun _ => fun
  | [d] => { results := [.lit (.bool true)], args := [d] }
  | _ => none }
def fnHiddenRow : OpenClaim := { program := "ytgiiolidgiglaaa", sum := "0fbd2d3f538ba823218186eab0cd7b539d0ebb46b3ef8b99a4c159a63bbf1734", func := "loop.example/g00859/laws.FnHidden", spec := "fnHidden", unfollowed := true, recurses := true, apart := false }
def FnHiddenSaid : Prop := fnHiddenRow.holds Try.pinned (OpenSpec.ofChange fnHiddenSpec)

/-- ITS FALSE NEIGHBOUR: 'it returns false'. Refute it at one input. -/
def fnHiddenWrong : ChangeSpec := { name := "fnHidden", fn := fun _ => fun
  | [d] => { results := [.lit (.bool false)], args := [d] }
  | _ => none }
def FnHiddenWrongFalsely : Prop := fnHiddenRow.holds Try.pinned (OpenSpec.ofChange fnHiddenWrong)

/-- 'laws.FnLocated': WHATEVER THE INPUT: true; the input reads as it did. -/
def fnLocatedSpec : ChangeSpec := { name := "fnLocated", fn := fun _ => fun
  | [d] => { results := [.lit (.bool true)], args := [d] }
  | _ => none }
def fnLocatedRow : OpenClaim := { program := "ytgiiolidgiglaaa", sum := "0fbd2d3f538ba823218186eab0cd7b539d0ebb46b3ef8b99a4c159a63bbf1734", func := "loop.example/g00859/laws.FnLocated", spec := "fnLocated", unfollowed := true, recurses := true, apart := false }
def FnLocatedSaid : Prop := fnLocatedRow.holds Try.pinned (OpenSpec.ofChange fnLocatedSpec)

/-- ITS FALSE NEIGHBOUR: 'it returns false'. Refute it at one input. -/
def fnLocatedWrong : ChangeSpec := { name := "fnLocated", fn := fun _ => fun
  | [d] => { results := [.lit (.bool false)], args := [d] }
  | _ => none }
def FnLocatedWrongFalsely : Prop := fnLocatedRow.holds Try.pinned (OpenSpec.ofChange fnLocatedWrong)

/- THE SECOND FORM. 'bulk': how many values and letters a reading holds, each counted each time it is reached (what is shared counts as often as it is met; a slice's spare places count too). A statement '..UptoSaid' is the law's where the arguments, and the package variables that the reading takes, are together of bulk at most 1048576: NARROWER than '..Said'. Prove '..Said' where nothing that the law and all that it calls make is longer than what came in: it says more and counts as full. Else prove '..UptoSaid'. A law counts once. -/
mutual
def uptoBulk {H : Type} : DataW H → Nat
  | .lit (.string bytes) => bytes.length + 1
  | .lit _ => 1
  | .nil => 1
  | .ptr d => uptoBulk d + 1
  | .slice elems spare => uptoBulkAll elems + uptoBulkAll spare + 1
  | .agg parts => uptoBulkAll parts + 1
  | .iface _ d => uptoBulk d + 1
  | .map entries => uptoBulkEntries entries + 1
  | .held _ => 1
def uptoBulkAll {H : Type} : List (DataW H) → Nat
  | [] => 0
  | d :: r => uptoBulk d + uptoBulkAll r
def uptoBulkEntries {H : Type} : List (Lit × DataW H) → Nat
  | [] => 0
  | x :: r => uptoBulkEntry x + uptoBulkEntries r
def uptoBulkEntry {H : Type} : Lit × DataW H → Nat
  | (.string bytes, d) => bytes.length + uptoBulk d + 1
  | (_, d) => uptoBulk d + 1
 end
def uptoSmall : (H : Type) → List (DataW H) → Bool := fun _ ds => decide (uptoBulkAll ds ≤ 1048576)
def OpenSpec.upto (s : _root_.Go.ChangeSpec) : _root_.Go.OpenSpec := { _root_.Go.OpenSpec.ofChange s with cond := some uptoSmall }

/-- 'laws.FnExactBlindWires', WHERE WHAT IT READS IS OF BULK AT MOST 1048576: true; the input reads as it did. -/
def fnExactBlindWiresUptoRow : OpenClaim := { program := "ytgiiolidgiglaaa", sum := "0fbd2d3f538ba823218186eab0cd7b539d0ebb46b3ef8b99a4c159a63bbf1734", func := "loop.example/g00859/laws.FnExactBlindWires", spec := "fnExactBlindWires", recurses := true, apart := false, narrowed := true }
def FnExactBlindWiresUptoSaid : Prop := fnExactBlindWiresUptoRow.holds Try.pinned (OpenSpec.upto fnExactBlindWiresSpec)

/-- 'laws.FnFaults', WHERE WHAT IT READS IS OF BULK AT MOST 1048576: true; the input reads as it did. -/
def fnFaultsUptoRow : OpenClaim := { program := "ytgiiolidgiglaaa", sum := "0fbd2d3f538ba823218186eab0cd7b539d0ebb46b3ef8b99a4c159a63bbf1734", func := "loop.example/g00859/laws.FnFaults", spec := "fnFaults", unfollowed := true, recurses := true, apart := false, narrowed := true }
def FnFaultsUptoSaid : Prop := fnFaultsUptoRow.holds Try.pinned (OpenSpec.upto fnFaultsSpec)

/-- 'laws.FnHidden', WHERE WHAT IT READS IS OF BULK AT MOST 1048576: true; the input reads as it did. -/
def fnHiddenUptoRow : OpenClaim := { program := "ytgiiolidgiglaaa", sum := "0fbd2d3f538ba823218186eab0cd7b539d0ebb46b3ef8b99a4c159a63bbf1734", func := "loop.example/g00859/laws.FnHidden", spec := "fnHidden", unfollowed := true, recurses := true, apart := false, narrowed := true }
def FnHiddenUptoSaid : Prop := fnHiddenUptoRow.holds Try.pinned (OpenSpec.upto fnHiddenSpec)

/-- 'laws.FnLocated', WHERE WHAT IT READS IS OF BULK AT MOST 1048576: true; the input reads as it did. -/
def fnLocatedUptoRow : OpenClaim := { program := "ytgiiolidgiglaaa", sum := "0fbd2d3f538ba823218186eab0cd7b539d0ebb46b3ef8b99a4c159a63bbf1734", func := "loop.example/g00859/laws.FnLocated", spec := "fnLocated", unfollowed := true, recurses := true, apart := false, narrowed := true }
def FnLocatedUptoSaid : Prop := fnLocatedUptoRow.holds Try.pinned (OpenSpec.upto fnLocatedSpec)

end Rows
end Go.Proofs.Ytgiiolidgiglaaa
