/-
  No cell of these rows narrows 'for every input' (looked for: loops, veiled, ifaces, maps, wideKeys, modest, calm, conditions, laid).
  DERIVED. THE GIVEN ROWS OF THIS SEAT. 4 by the template 'for every input the law returns true; each argument reads behind the call as it read before'; 0 by the template 'total and deterministic' (their statements: YticbpnlnpmjhbaaTotals.lean).
  GIVEN WITH THE SEED: the statements are not yours to turn. If you find one false, say at which input.
  Laid BY PROGRAM, IN A SANDBOX (cutbox-rows.mjs): the forced cells as the released guide's own fill.sh prints them over the translation f6f109701f7c15b6… (all of the seat's roots in one cut). By AI agents, Wed Nov 11 2026. No macro, syntax, notation, axiom, sorry.
-/
import Derived.Test.YticbpnlnpmjhbaaChecked
import GoSem.Claim
import GoSem.ClaimJoined
import GoSem.ClaimMapViews
import Derived.JoinedTies
import Derived.KernelRfl
namespace Go.Proofs.Yticbpnlnpmjhbaa
/- THE CELL 'sum', in the pinned program and in every row, IS THE sha256 OF THE DUMP (.gsa) THAT YticbpnlnpmjhbaaProg.lean LOADS. Nothing in Lean hashes anything: it is a label: what it is worth is what the hold of that sum in a sandbox is worth. -/
noncomputable def Try.pinned : Pinned := { name := "yticbpnlnpmjhbaa", sum := "f6f109701f7c15b655420284c83b7c3a3509d4aad528dc77ddafb60909e176b5", checked := Try.checked }
namespace Rows
def none {H : Type} : Left H := { results := [], args := [] }

/-- 'laws.FnExactStarWeights': WHATEVER THE INPUT: true; the input reads as it did. -/
def fnExactStarWeightsSpec : ChangeSpec := { name := "fnExactStarWeights", fn := fun _ => fun
  | [d] => { results := [.lit (.bool true)], args := [d] }
  | _ => none }
def fnExactStarWeightsRow : OpenClaim := { program := "yticbpnlnpmjhbaa", sum := "f6f109701f7c15b655420284c83b7c3a3509d4aad528dc77ddafb60909e176b5", func := "loop.example/g00859/laws.FnExactStarWeights", spec := "fnExactStarWeights", unfollowed := true, recurses := true, apart := false }
def FnExactStarWeightsSaid : Prop := fnExactStarWeightsRow.holds Try.pinned (OpenSpec.ofChange fnExactStarWeightsSpec)

/-- ITS FALSE NEIGHBOUR: 'it returns false'. Refute it at one input. -/
def fnExactStarWeightsWrong : ChangeSpec := { name := "fnExactStarWeights", fn := fun _ => fun
  | [d] => { results := [.lit (.bool false)], args := [d] }
  | _ => none }
def FnExactStarWeightsWrongFalsely : Prop := fnExactStarWeightsRow.holds Try.pinned (OpenSpec.ofChange fnExactStarWeightsWrong)

/-- 'laws.FnExactIsStarMatrix': WHATEVER THE INPUT: true; the input reads as it did. -/
def fnExactIsStarMatrixSpec : ChangeSpec := { name := "fnExactIsStarMatrix", fn := fun _ => fun
  | [d] => { results := [.lit (.bool true)], args := [d] }
  | _ => none }
def fnExactIsStarMatrixRow : OpenClaim := { program := "yticbpnlnpmjhbaa", sum := "f6f109701f7c15b655420284c83b7c3a3509d4aad528dc77ddafb60909e176b5", func := "loop.example/g00859/laws.FnExactIsStarMatrix", spec := "fnExactIsStarMatrix", unfollowed := true, recurses := true, apart := false }
def FnExactIsStarMatrixSaid : Prop := fnExactIsStarMatrixRow.holds Try.pinned (OpenSpec.ofChange fnExactIsStarMatrixSpec)

/-- ITS FALSE NEIGHBOUR: 'it returns false'. Refute it at one input. -/
def fnExactIsStarMatrixWrong : ChangeSpec := { name := "fnExactIsStarMatrix", fn := fun _ => fun
  | [d] => { results := [.lit (.bool false)], args := [d] }
  | _ => none }
def FnExactIsStarMatrixWrongFalsely : Prop := fnExactIsStarMatrixRow.holds Try.pinned (OpenSpec.ofChange fnExactIsStarMatrixWrong)

/-- 'laws.FnExactBlindWires': WHATEVER THE INPUT: true; the input reads as it did. -/
def fnExactBlindWiresSpec : ChangeSpec := { name := "fnExactBlindWires", fn := fun _ => fun
  | [d] => { results := [.lit (.bool true)], args := [d] }
  | _ => none }
def fnExactBlindWiresRow : OpenClaim := { program := "yticbpnlnpmjhbaa", sum := "f6f109701f7c15b655420284c83b7c3a3509d4aad528dc77ddafb60909e176b5", func := "loop.example/g00859/laws.FnExactBlindWires", spec := "fnExactBlindWires", recurses := true, apart := false }
def FnExactBlindWiresSaid : Prop := fnExactBlindWiresRow.holds Try.pinned (OpenSpec.ofChange fnExactBlindWiresSpec)

/-- ITS FALSE NEIGHBOUR: 'it returns false'. Refute it at one input. -/
def fnExactBlindWiresWrong : ChangeSpec := { name := "fnExactBlindWires", fn := fun _ => fun
  | [d] => { results := [.lit (.bool false)], args := [d] }
  | _ => none }
def FnExactBlindWiresWrongFalsely : Prop := fnExactBlindWiresRow.holds Try.pinned (OpenSpec.ofChange fnExactBlindWiresWrong)

/-- 'laws.FnExactCircularPairs': WHATEVER THE INPUT: true; the input reads as it did. -/
def fnExactCircularPairsSpec : ChangeSpec := { name := "fnExactCircularPairs", fn := fun _ => fun
  | [d] => { results := [.lit (.bool true)], args := [d] }
  | _ => none }
def fnExactCircularPairsRow : OpenClaim := { program := "yticbpnlnpmjhbaa", sum := "f6f109701f7c15b655420284c83b7c3a3509d4aad528dc77ddafb60909e176b5", func := "loop.example/g00859/laws.FnExactCircularPairs", spec := "fnExactCircularPairs", apart := false }
def FnExactCircularPairsSaid : Prop := fnExactCircularPairsRow.holds Try.pinned (OpenSpec.ofChange fnExactCircularPairsSpec)

/-- ITS FALSE NEIGHBOUR: 'it returns false'. Refute it at one input. -/
def fnExactCircularPairsWrong : ChangeSpec := { name := "fnExactCircularPairs", fn := fun _ => fun
  | [d] => { results := [.lit (.bool false)], args := [d] }
  | _ => none }
def FnExactCircularPairsWrongFalsely : Prop := fnExactCircularPairsRow.holds Try.pinned (OpenSpec.ofChange fnExactCircularPairsWrong)

/- THE SECOND FORM. 'bulk': how many values and letters a reading holds, each counted each time it is reached (what is shared counts as often as it is met; a slice's spare places count too). A statement '..UptoSaid' is the law's where the arguments, and the package variables that the reading takes, are together of bulk at most 1048576: NARROWER than '..Said'. Prove '..Said' where nothing that the law and all that it calls make is longer than what came in: it says more and counts as full. Else prove '..UptoSaid'. A law counts once. -/
mutual
def uptoBulk {H : Type} : DataW H → Nat
  | .lit (.string bytes) => bytes.length + 1
  | .lit _ => 1
  | .nil => 1
  | .ptr d => uptoBulk d + 1
  | .slice elems spare => uptoBulkAll elems + uptoBulkAll spare + 1
  | .agg parts => uptoBulkAll parts + 1
  | .iface _ d => uptoBulk d + 1
  | .map entries => uptoBulkEntries entries + 1
  | .held _ => 1
def uptoBulkAll {H : Type} : List (DataW H) → Nat
  | [] => 0
  | d :: r => uptoBulk d + uptoBulkAll r
def uptoBulkEntries {H : Type} : List (Lit × DataW H) → Nat
  | [] => 0
  | x :: r => uptoBulkEntry x + uptoBulkEntries r
def uptoBulkEntry {H : Type} : Lit × DataW H → Nat
  | (.string bytes, d) => bytes.length + uptoBulk d + 1
  | (_, d) => uptoBulk d + 1
 end
def uptoSmall : (H : Type) → List (DataW H) → Bool := fun _ ds => decide (uptoBulkAll ds ≤ 1048576)
def OpenSpec.upto (s : _root_.Go.ChangeSpec) : _root_.Go.OpenSpec := { _root_.Go.OpenSpec.ofChange s with cond := some uptoSmall }

/-- 'laws.FnExactStarWeights', WHERE WHAT IT READS IS OF BULK AT MOST 1048576: true; the input reads as it did. -/
def fnExactStarWeightsUptoRow : OpenClaim := { program := "yticbpnlnpmjhbaa", sum := "f6f109701f7c15b655420284c83b7c3a3509d4aad528dc77ddafb60909e176b5", func := "loop.example/g00859/laws.FnExactStarWeights", spec := "fnExactStarWeights", unfollowed := true, recurses := true, apart := false, narrowed := true }
def FnExactStarWeightsUptoSaid : Prop := fnExactStarWeightsUptoRow.holds Try.pinned (OpenSpec.upto fnExactStarWeightsSpec)

/-- 'laws.FnExactIsStarMatrix', WHERE WHAT IT READS IS OF BULK AT MOST 1048576: true; the input reads as it did. -/
def fnExactIsStarMatrixUptoRow : OpenClaim := { program := "yticbpnlnpmjhbaa", sum := "f6f109701f7c15b655420284c83b7c3a3509d4aad528dc77ddafb60909e176b5", func := "loop.example/g00859/laws.FnExactIsStarMatrix", spec := "fnExactIsStarMatrix", unfollowed := true, recurses := true, apart := false, narrowed := true }
def FnExactIsStarMatrixUptoSaid : Prop := fnExactIsStarMatrixUptoRow.holds Try.pinned (OpenSpec.upto fnExactIsStarMatrixSpec)

/-- 'laws.FnExactBlindWires', WHERE WHAT IT READS IS OF BULK AT MOST 1048576: true; the input reads as it did. -/
def fnExactBlindWiresUptoRow : OpenClaim := { program := "yticbpnlnpmjhbaa", sum := "f6f109701f7c15b655420284c83b7c3a3509d4aad528dc77ddafb60909e176b5", func := "loop.example/g00859/laws.FnExactBlindWires", spec := "fnExactBlindWires", recurses := true, apart := false, narrowed := true }
def FnExactBlindWiresUptoSaid : Prop := fnExactBlindWiresUptoRow.holds Try.pinned (OpenSpec.upto fnExactBlindWiresSpec)

/-- 'laws.FnExactCircularPairs', WHERE WHAT IT READS IS OF BULK AT MOST 1048576: true; the input reads as it did. -/
def fnExactCircularPairsUptoRow : OpenClaim := { program := "yticbpnlnpmjhbaa", sum := "f6f109701f7c15b655420284c83b7c3a3509d4aad528dc77ddafb60909e176b5", func := "loop.example/g00859/laws.FnExactCircularPairs", spec := "fnExactCircularPairs", apart := false, narrowed := true }
def FnExactCircularPairsUptoSaid : Prop := fnExactCircularPairsUptoRow.holds Try.pinned (OpenSpec.upto fnExactCircularPairsSpec)

end Rows
end Go.Proofs.Yticbpnlnpmjhbaa
