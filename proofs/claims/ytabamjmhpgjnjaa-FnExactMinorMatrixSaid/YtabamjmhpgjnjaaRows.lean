/-
  No cell of these rows narrows 'for every input' (looked for: loops, veiled, ifaces, maps, wideKeys, modest, calm, conditions, laid).
  DERIVED. THE GIVEN ROWS OF THIS SEAT. 12 by the template 'for every input the law returns true; each argument reads behind the call as it read before'; 0 by the template 'total and deterministic' (their statements: YtabamjmhpgjnjaaTotals.lean).
  GIVEN WITH THE SEED: the statements are not yours to turn. If you find one false, say at which input.
  Laid BY PROGRAM, IN A SANDBOX (cutbox-rows.mjs): the forced cells as the released guide's own fill.sh prints them over the translation d75a3952c3603b00… (all of the seat's roots in one cut). By AI agents, Wed Nov 11 2026. No macro, syntax, notation, axiom, sorry.
-/
import Derived.Test.YtabamjmhpgjnjaaChecked
import GoSem.Claim
import GoSem.ClaimJoined
import GoSem.ClaimMapViews
import Derived.JoinedTies
import Derived.KernelRfl
namespace Go.Proofs.Ytabamjmhpgjnjaa
/- THE CELL 'sum', in the pinned program and in every row, IS THE sha256 OF THE DUMP (.gsa) THAT YtabamjmhpgjnjaaProg.lean LOADS. Nothing in Lean hashes anything: it is a label: what it is worth is what the hold of that sum in a sandbox is worth. -/
noncomputable def Try.pinned : Pinned := { name := "ytabamjmhpgjnjaa", sum := "d75a3952c3603b008921b0b9d9d2774dc2f52dbcee5300798b882f3da7a573bf", checked := Try.checked }
namespace Rows
def none {H : Type} : Left H := { results := [], args := [] }

/-- 'laws.FnExactIsCircular': WHATEVER THE INPUT: true; the input reads as it did. -/
def fnExactIsCircularSpec : ChangeSpec := { name := "fnExactIsCircular", fn := fun _ => fun
  | [d1, d2, d3] => { results := [.lit (.bool true)], args := [d1, d2, d3] }
  | _ => none }
def fnExactIsCircularRow : OpenClaim := { program := "ytabamjmhpgjnjaa", sum := "d75a3952c3603b008921b0b9d9d2774dc2f52dbcee5300798b882f3da7a573bf", func := "loop.example/g00859/laws.FnExactIsCircular", spec := "fnExactIsCircular", apart := false }
def FnExactIsCircularSaid : Prop := fnExactIsCircularRow.holds Try.pinned (OpenSpec.ofChange fnExactIsCircularSpec)

/-- ITS FALSE NEIGHBOUR: 'it returns false'. Refute it at one input. -/
def fnExactIsCircularWrong : ChangeSpec := { name := "fnExactIsCircular", fn := fun _ => fun
  | [d1, d2, d3] => { results := [.lit (.bool false)], args := [d1, d2, d3] }
  | _ => none }
def FnExactIsCircularWrongFalsely : Prop := fnExactIsCircularRow.holds Try.pinned (OpenSpec.ofChange fnExactIsCircularWrong)

/-- 'laws.FnExactIsWeightMatrix': WHATEVER THE INPUT: true; the input reads as it did. -/
def fnExactIsWeightMatrixSpec : ChangeSpec := { name := "fnExactIsWeightMatrix", fn := fun _ => fun
  | [d] => { results := [.lit (.bool true)], args := [d] }
  | _ => none }
def fnExactIsWeightMatrixRow : OpenClaim := { program := "ytabamjmhpgjnjaa", sum := "d75a3952c3603b008921b0b9d9d2774dc2f52dbcee5300798b882f3da7a573bf", func := "loop.example/g00859/laws.FnExactIsWeightMatrix", spec := "fnExactIsWeightMatrix", apart := false }
def FnExactIsWeightMatrixSaid : Prop := fnExactIsWeightMatrixRow.holds Try.pinned (OpenSpec.ofChange fnExactIsWeightMatrixSpec)

/-- ITS FALSE NEIGHBOUR: 'it returns false'. Refute it at one input. -/
def fnExactIsWeightMatrixWrong : ChangeSpec := { name := "fnExactIsWeightMatrix", fn := fun _ => fun
  | [d] => { results := [.lit (.bool false)], args := [d] }
  | _ => none }
def FnExactIsWeightMatrixWrongFalsely : Prop := fnExactIsWeightMatrixRow.holds Try.pinned (OpenSpec.ofChange fnExactIsWeightMatrixWrong)

/-- 'laws.FnExactBoundsOk': WHATEVER THE INPUT: true; the input reads as it did. -/
def fnExactBoundsOkSpec : ChangeSpec := { name := "fnExactBoundsOk", fn := fun _ => fun
  | [d1, d2, d3] => { results := [.lit (.bool true)], args := [d1, d2, d3] }
  | _ => none }
def fnExactBoundsOkRow : OpenClaim := { program := "ytabamjmhpgjnjaa", sum := "d75a3952c3603b008921b0b9d9d2774dc2f52dbcee5300798b882f3da7a573bf", func := "loop.example/g00859/laws.FnExactBoundsOk", spec := "fnExactBoundsOk", apart := false }
def FnExactBoundsOkSaid : Prop := fnExactBoundsOkRow.holds Try.pinned (OpenSpec.ofChange fnExactBoundsOkSpec)

/-- ITS FALSE NEIGHBOUR: 'it returns false'. Refute it at one input. -/
def fnExactBoundsOkWrong : ChangeSpec := { name := "fnExactBoundsOk", fn := fun _ => fun
  | [d1, d2, d3] => { results := [.lit (.bool false)], args := [d1, d2, d3] }
  | _ => none }
def FnExactBoundsOkWrongFalsely : Prop := fnExactBoundsOkRow.holds Try.pinned (OpenSpec.ofChange fnExactBoundsOkWrong)

/-- 'laws.FnExactCircularPairs': WHATEVER THE INPUT: true; the input reads as it did. -/
def fnExactCircularPairsSpec : ChangeSpec := { name := "fnExactCircularPairs", fn := fun _ => fun
  | [d] => { results := [.lit (.bool true)], args := [d] }
  | _ => none }
def fnExactCircularPairsRow : OpenClaim := { program := "ytabamjmhpgjnjaa", sum := "d75a3952c3603b008921b0b9d9d2774dc2f52dbcee5300798b882f3da7a573bf", func := "loop.example/g00859/laws.FnExactCircularPairs", spec := "fnExactCircularPairs", apart := false }
def FnExactCircularPairsSaid : Prop := fnExactCircularPairsRow.holds Try.pinned (OpenSpec.ofChange fnExactCircularPairsSpec)

/-- ITS FALSE NEIGHBOUR: 'it returns false'. Refute it at one input. -/
def fnExactCircularPairsWrong : ChangeSpec := { name := "fnExactCircularPairs", fn := fun _ => fun
  | [d] => { results := [.lit (.bool false)], args := [d] }
  | _ => none }
def FnExactCircularPairsWrongFalsely : Prop := fnExactCircularPairsRow.holds Try.pinned (OpenSpec.ofChange fnExactCircularPairsWrong)

/-- 'laws.FnExactLeafOf': WHATEVER THE INPUT: true; the input reads as it did. -/
def fnExactLeafOfSpec : ChangeSpec := { name := "fnExactLeafOf", fn := fun _ => fun
  | [d] => { results := [.lit (.bool true)], args := [d] }
  | _ => none }
def fnExactLeafOfRow : OpenClaim := { program := "ytabamjmhpgjnjaa", sum := "d75a3952c3603b008921b0b9d9d2774dc2f52dbcee5300798b882f3da7a573bf", func := "loop.example/g00859/laws.FnExactLeafOf", spec := "fnExactLeafOf", apart := false }
def FnExactLeafOfSaid : Prop := fnExactLeafOfRow.holds Try.pinned (OpenSpec.ofChange fnExactLeafOfSpec)

/-- ITS FALSE NEIGHBOUR: 'it returns false'. Refute it at one input. -/
def fnExactLeafOfWrong : ChangeSpec := { name := "fnExactLeafOf", fn := fun _ => fun
  | [d] => { results := [.lit (.bool false)], args := [d] }
  | _ => none }
def FnExactLeafOfWrongFalsely : Prop := fnExactLeafOfRow.holds Try.pinned (OpenSpec.ofChange fnExactLeafOfWrong)

/-- 'laws.FnExactSeriesOf': WHATEVER THE INPUT: true; the input reads as it did. -/
def fnExactSeriesOfSpec : ChangeSpec := { name := "fnExactSeriesOf", fn := fun _ => fun
  | [d] => { results := [.lit (.bool true)], args := [d] }
  | _ => none }
def fnExactSeriesOfRow : OpenClaim := { program := "ytabamjmhpgjnjaa", sum := "d75a3952c3603b008921b0b9d9d2774dc2f52dbcee5300798b882f3da7a573bf", func := "loop.example/g00859/laws.FnExactSeriesOf", spec := "fnExactSeriesOf", apart := false }
def FnExactSeriesOfSaid : Prop := fnExactSeriesOfRow.holds Try.pinned (OpenSpec.ofChange fnExactSeriesOfSpec)

/-- ITS FALSE NEIGHBOUR: 'it returns false'. Refute it at one input. -/
def fnExactSeriesOfWrong : ChangeSpec := { name := "fnExactSeriesOf", fn := fun _ => fun
  | [d] => { results := [.lit (.bool false)], args := [d] }
  | _ => none }
def FnExactSeriesOfWrongFalsely : Prop := fnExactSeriesOfRow.holds Try.pinned (OpenSpec.ofChange fnExactSeriesOfWrong)

/-- 'laws.FnExactWiresAt': WHATEVER THE INPUT: true; the input reads as it did. -/
def fnExactWiresAtSpec : ChangeSpec := { name := "fnExactWiresAt", fn := fun _ => fun
  | [d1, d2] => { results := [.lit (.bool true)], args := [d1, d2] }
  | _ => none }
def fnExactWiresAtRow : OpenClaim := { program := "ytabamjmhpgjnjaa", sum := "d75a3952c3603b008921b0b9d9d2774dc2f52dbcee5300798b882f3da7a573bf", func := "loop.example/g00859/laws.FnExactWiresAt", spec := "fnExactWiresAt", apart := false }
def FnExactWiresAtSaid : Prop := fnExactWiresAtRow.holds Try.pinned (OpenSpec.ofChange fnExactWiresAtSpec)

/-- ITS FALSE NEIGHBOUR: 'it returns false'. Refute it at one input. -/
def fnExactWiresAtWrong : ChangeSpec := { name := "fnExactWiresAt", fn := fun _ => fun
  | [d1, d2] => { results := [.lit (.bool false)], args := [d1, d2] }
  | _ => none }
def FnExactWiresAtWrongFalsely : Prop := fnExactWiresAtRow.holds Try.pinned (OpenSpec.ofChange fnExactWiresAtWrong)

/-- 'laws.FnExactBlindWires': WHATEVER THE INPUT: true; the input reads as it did. -/
def fnExactBlindWiresSpec : ChangeSpec := { name := "fnExactBlindWires", fn := fun _ => fun
  | [d] => { results := [.lit (.bool true)], args := [d] }
  | _ => none }
def fnExactBlindWiresRow : OpenClaim := { program := "ytabamjmhpgjnjaa", sum := "d75a3952c3603b008921b0b9d9d2774dc2f52dbcee5300798b882f3da7a573bf", func := "loop.example/g00859/laws.FnExactBlindWires", spec := "fnExactBlindWires", recurses := true, apart := false }
def FnExactBlindWiresSaid : Prop := fnExactBlindWiresRow.holds Try.pinned (OpenSpec.ofChange fnExactBlindWiresSpec)

/-- ITS FALSE NEIGHBOUR: 'it returns false'. Refute it at one input. -/
def fnExactBlindWiresWrong : ChangeSpec := { name := "fnExactBlindWires", fn := fun _ => fun
  | [d] => { results := [.lit (.bool false)], args := [d] }
  | _ => none }
def FnExactBlindWiresWrongFalsely : Prop := fnExactBlindWiresRow.holds Try.pinned (OpenSpec.ofChange fnExactBlindWiresWrong)

/-- 'laws.FnExactMinorMatrix': WHATEVER THE INPUT: true; the input reads as it did. -/
def fnExactMinorMatrixSpec : ChangeSpec := { name := "fnExactMinorMatrix", fn := fun _ => fun
  | [d1, d2, d3] => { results := [.lit (.bool true)], args := [d1, d2, d3] }
  | _ => none }
def fnExactMinorMatrixRow : OpenClaim := { program := "ytabamjmhpgjnjaa", sum := "d75a3952c3603b008921b0b9d9d2774dc2f52dbcee5300798b882f3da7a573bf", func := "loop.example/g00859/laws.FnExactMinorMatrix", spec := "fnExactMinorMatrix", recurses := true, apart := false }
def FnExactMinorMatrixSaid : Prop := fnExactMinorMatrixRow.holds Try.pinned (OpenSpec.ofChange fnExactMinorMatrixSpec)

/-- ITS FALSE NEIGHBOUR: 'it returns false'. Refute it at one input. -/
def fnExactMinorMatrixWrong : ChangeSpec := { name := "fnExactMinorMatrix", fn := fun _ => fun
  | [d1, d2, d3] => { results := [.lit (.bool false)], args := [d1, d2, d3] }
  | _ => none }
def FnExactMinorMatrixWrongFalsely : Prop := fnExactMinorMatrixRow.holds Try.pinned (OpenSpec.ofChange fnExactMinorMatrixWrong)

/-- 'laws.FnExactShareOf': WHATEVER THE INPUT: true; the input reads as it did. -/
def fnExactShareOfSpec : ChangeSpec := { name := "fnExactShareOf", fn := fun _ => fun
  | [d1, d2] => { results := [.lit (.bool true)], args := [d1, d2] }
  | _ => none }
def fnExactShareOfRow : OpenClaim := { program := "ytabamjmhpgjnjaa", sum := "d75a3952c3603b008921b0b9d9d2774dc2f52dbcee5300798b882f3da7a573bf", func := "loop.example/g00859/laws.FnExactShareOf", spec := "fnExactShareOf", apart := false }
def FnExactShareOfSaid : Prop := fnExactShareOfRow.holds Try.pinned (OpenSpec.ofChange fnExactShareOfSpec)

/-- ITS FALSE NEIGHBOUR: 'it returns false'. Refute it at one input. -/
def fnExactShareOfWrong : ChangeSpec := { name := "fnExactShareOf", fn := fun _ => fun
  | [d1, d2] => { results := [.lit (.bool false)], args := [d1, d2] }
  | _ => none }
def FnExactShareOfWrongFalsely : Prop := fnExactShareOfRow.holds Try.pinned (OpenSpec.ofChange fnExactShareOfWrong)

/-- 'laws.FnExactIsStarMatrix': WHATEVER THE INPUT: true; the input reads as it did. -/
def fnExactIsStarMatrixSpec : ChangeSpec := { name := "fnExactIsStarMatrix", fn := fun _ => fun
  | [d] => { results := [.lit (.bool true)], args := [d] }
  | _ => none }
def fnExactIsStarMatrixRow : OpenClaim := { program := "ytabamjmhpgjnjaa", sum := "d75a3952c3603b008921b0b9d9d2774dc2f52dbcee5300798b882f3da7a573bf", func := "loop.example/g00859/laws.FnExactIsStarMatrix", spec := "fnExactIsStarMatrix", unfollowed := true, recurses := true, apart := false }
def FnExactIsStarMatrixSaid : Prop := fnExactIsStarMatrixRow.holds Try.pinned (OpenSpec.ofChange fnExactIsStarMatrixSpec)

/-- ITS FALSE NEIGHBOUR: 'it returns false'. Refute it at one input. -/
def fnExactIsStarMatrixWrong : ChangeSpec := { name := "fnExactIsStarMatrix", fn := fun _ => fun
  | [d] => { results := [.lit (.bool false)], args := [d] }
  | _ => none }
def FnExactIsStarMatrixWrongFalsely : Prop := fnExactIsStarMatrixRow.holds Try.pinned (OpenSpec.ofChange fnExactIsStarMatrixWrong)

/-- 'laws.FnExactCutWire': WHATEVER THE INPUT: true; the input reads as it did. -/
def fnExactCutWireSpec : ChangeSpec := { name := "fnExactCutWire", fn := fun _ => fun
  | [d1, d2] => { results := [.lit (.bool true)], args := [d1, d2] }
  | _ => none }
def fnExactCutWireRow : OpenClaim := { program := "ytabamjmhpgjnjaa", sum := "d75a3952c3603b008921b0b9d9d2774dc2f52dbcee5300798b882f3da7a573bf", func := "loop.example/g00859/laws.FnExactCutWire", spec := "fnExactCutWire", apart := false }
def FnExactCutWireSaid : Prop := fnExactCutWireRow.holds Try.pinned (OpenSpec.ofChange fnExactCutWireSpec)

/-- ITS FALSE NEIGHBOUR: 'it returns false'. Refute it at one input. -/
def fnExactCutWireWrong : ChangeSpec := { name := "fnExactCutWire", fn := fun _ => fun
  | [d1, d2] => { results := [.lit (.bool false)], args := [d1, d2] }
  | _ => none }
def FnExactCutWireWrongFalsely : Prop := fnExactCutWireRow.holds Try.pinned (OpenSpec.ofChange fnExactCutWireWrong)

/- THE SECOND FORM. 'bulk': how many values and letters a reading holds, each counted each time it is reached (what is shared counts as often as it is met; a slice's spare places count too). A statement '..UptoSaid' is the law's where the arguments, and the package variables that the reading takes, are together of bulk at most 1048576: NARROWER than '..Said'. Prove '..Said' where nothing that the law and all that it calls make is longer than what came in: it says more and counts as full. Else prove '..UptoSaid'. A law counts once. -/
mutual
def uptoBulk {H : Type} : DataW H → Nat
  | .lit (.string bytes) => bytes.length + 1
  | .lit _ => 1
  | .nil => 1
  | .ptr d => uptoBulk d + 1
  | .slice elems spare => uptoBulkAll elems + uptoBulkAll spare + 1
  | .agg parts => uptoBulkAll parts + 1
  | .iface _ d => uptoBulk d + 1
  | .map entries => uptoBulkEntries entries + 1
  | .held _ => 1
def uptoBulkAll {H : Type} : List (DataW H) → Nat
  | [] => 0
  | d :: r => uptoBulk d + uptoBulkAll r
def uptoBulkEntries {H : Type} : List (Lit × DataW H) → Nat
  | [] => 0
  | x :: r => uptoBulkEntry x + uptoBulkEntries r
def uptoBulkEntry {H : Type} : Lit × DataW H → Nat
  | (.string bytes, d) => bytes.length + uptoBulk d + 1
  | (_, d) => uptoBulk d + 1
 end
def uptoSmall : (H : Type) → List (DataW H) → Bool := fun _ ds => decide (uptoBulkAll ds ≤ 1048576)
def OpenSpec.upto (s : _root_.Go.ChangeSpec) : _root_.Go.OpenSpec := { _root_.Go.OpenSpec.ofChange s with cond := some uptoSmall }

/-- 'laws.FnExactIsCircular', WHERE WHAT IT READS IS OF BULK AT MOST 1048576: true; the input reads as it did. -/
def fnExactIsCircularUptoRow : OpenClaim := { program := "ytabamjmhpgjnjaa", sum := "d75a3952c3603b008921b0b9d9d2774dc2f52dbcee5300798b882f3da7a573bf", func := "loop.example/g00859/laws.FnExactIsCircular", spec := "fnExactIsCircular", apart := false, narrowed := true }
def FnExactIsCircularUptoSaid : Prop := fnExactIsCircularUptoRow.holds Try.pinned (OpenSpec.upto fnExactIsCircularSpec)

/-- 'laws.FnExactIsWeightMatrix', WHERE WHAT IT READS IS OF BULK AT MOST 1048576: true; the input reads as it did. -/
def fnExactIsWeightMatrixUptoRow : OpenClaim := { program := "ytabamjmhpgjnjaa", sum := "d75a3952c3603b008921b0b9d9d2774dc2f52dbcee5300798b882f3da7a573bf", func := "loop.example/g00859/laws.FnExactIsWeightMatrix", spec := "fnExactIsWeightMatrix", apart := false, narrowed := true }
def FnExactIsWeightMatrixUptoSaid : Prop := fnExactIsWeightMatrixUptoRow.holds Try.pinned (OpenSpec.upto fnExactIsWeightMatrixSpec)

/-- 'laws.FnExactBoundsOk', WHERE WHAT IT READS IS OF BULK AT MOST 1048576: true; the input reads as it did. -/
def fnExactBoundsOkUptoRow : OpenClaim := { program := "ytabamjmhpgjnjaa", sum := "d75a3952c3603b008921b0b9d9d2774dc2f52dbcee5300798b882f3da7a573bf", func := "loop.example/g00859/laws.FnExactBoundsOk", spec := "fnExactBoundsOk", apart := false, narrowed := true }
def FnExactBoundsOkUptoSaid : Prop := fnExactBoundsOkUptoRow.holds Try.pinned (OpenSpec.upto fnExactBoundsOkSpec)

/-- 'laws.FnExactCircularPairs', WHERE WHAT IT READS IS OF BULK AT MOST 1048576: true; the input reads as it did. -/
def fnExactCircularPairsUptoRow : OpenClaim := { program := "ytabamjmhpgjnjaa", sum := "d75a3952c3603b008921b0b9d9d2774dc2f52dbcee5300798b882f3da7a573bf", func := "loop.example/g00859/laws.FnExactCircularPairs", spec := "fnExactCircularPairs", apart := false, narrowed := true }
def FnExactCircularPairsUptoSaid : Prop := fnExactCircularPairsUptoRow.holds Try.pinned (OpenSpec.upto fnExactCircularPairsSpec)

/-- 'laws.FnExactLeafOf', WHERE WHAT IT READS IS OF BULK AT MOST 1048576: true; the input reads as it did. -/
def fnExactLeafOfUptoRow : OpenClaim := { program := "ytabamjmhpgjnjaa", sum := "d75a3952c3603b008921b0b9d9d2774dc2f52dbcee5300798b882f3da7a573bf", func := "loop.example/g00859/laws.FnExactLeafOf", spec := "fnExactLeafOf", apart := false, narrowed := true }
def FnExactLeafOfUptoSaid : Prop := fnExactLeafOfUptoRow.holds Try.pinned (OpenSpec.upto fnExactLeafOfSpec)

/-- 'laws.FnExactSeriesOf', WHERE WHAT IT READS IS OF BULK AT MOST 1048576: true; the input reads as it did. -/
def fnExactSeriesOfUptoRow : OpenClaim := { program := "ytabamjmhpgjnjaa", sum := "d75a3952c3603b008921b0b9d9d2774dc2f52dbcee5300798b882f3da7a573bf", func := "loop.example/g00859/laws.FnExactSeriesOf", spec := "fnExactSeriesOf", apart := false, narrowed := true }
def FnExactSeriesOfUptoSaid : Prop := fnExactSeriesOfUptoRow.holds Try.pinned (OpenSpec.upto fnExactSeriesOfSpec)

/-- 'laws.FnExactWiresAt', WHERE WHAT IT READS IS OF BULK AT MOST 1048576: true; the input reads as it did. -/
def fnExactWiresAtUptoRow : OpenClaim := { program := "ytabamjmhpgjnjaa", sum := "d75a3952c3603b008921b0b9d9d2774dc2f52dbcee5300798b882f3da7a573bf", func := "loop.example/g00859/laws.FnExactWiresAt", spec := "fnExactWiresAt", apart := false, narrowed := true }
def FnExactWiresAtUptoSaid : Prop := fnExactWiresAtUptoRow.holds Try.pinned (OpenSpec.upto fnExactWiresAtSpec)

/-- 'laws.FnExactBlindWires', WHERE WHAT IT READS IS OF BULK AT MOST 1048576: true; the input reads as it did. -/
def fnExactBlindWiresUptoRow : OpenClaim := { program := "ytabamjmhpgjnjaa", sum := "d75a3952c3603b008921b0b9d9d2774dc2f52dbcee5300798b882f3da7a573bf", func := "loop.example/g00859/laws.FnExactBlindWires", spec := "fnExactBlindWires", recurses := true, apart := false, narrowed := true }
def FnExactBlindWiresUptoSaid : Prop := fnExactBlindWiresUptoRow.holds Try.pinned (OpenSpec.upto fnExactBlindWiresSpec)

/-- 'laws.FnExactMinorMatrix', WHERE WHAT IT READS IS OF BULK AT MOST 1048576: true; the input reads as it did. -/
def fnExactMinorMatrixUptoRow : OpenClaim := { program := "ytabamjmhpgjnjaa", sum := "d75a3952c3603b008921b0b9d9d2774dc2f52dbcee5300798b882f3da7a573bf", func := "loop.example/g00859/laws.FnExactMinorMatrix", spec := "fnExactMinorMatrix", recurses := true, apart := false, narrowed := true }
def FnExactMinorMatrixUptoSaid : Prop := fnExactMinorMatrixUptoRow.holds Try.pinned (OpenSpec.upto fnExactMinorMatrixSpec)

/-- 'laws.FnExactShareOf', WHERE WHAT IT READS IS OF BULK AT MOST 1048576: true; the input reads as it did. -/
def fnExactShareOfUptoRow : OpenClaim := { program := "ytabamjmhpgjnjaa", sum := "d75a3952c3603b008921b0b9d9d2774dc2f52dbcee5300798b882f3da7a573bf", func := "loop.example/g00859/laws.FnExactShareOf", spec := "fnExactShareOf", apart := false, narrowed := true }
def FnExactShareOfUptoSaid : Prop := fnExactShareOfUptoRow.holds Try.pinned (OpenSpec.upto fnExactShareOfSpec)

/-- 'laws.FnExactIsStarMatrix', WHERE WHAT IT READS IS OF BULK AT MOST 1048576: true; the input reads as it did. -/
def fnExactIsStarMatrixUptoRow : OpenClaim := { program := "ytabamjmhpgjnjaa", sum := "d75a3952c3603b008921b0b9d9d2774dc2f52dbcee5300798b882f3da7a573bf", func := "loop.example/g00859/laws.FnExactIsStarMatrix", spec := "fnExactIsStarMatrix", unfollowed := true, recurses := true, apart := false, narrowed := true }
def FnExactIsStarMatrixUptoSaid : Prop := fnExactIsStarMatrixUptoRow.holds Try.pinned (OpenSpec.upto fnExactIsStarMatrixSpec)

/-- 'laws.FnExactCutWire', WHERE WHAT IT READS IS OF BULK AT MOST 1048576: true; the input reads as it did. -/
def fnExactCutWireUptoRow : OpenClaim := { program := "ytabamjmhpgjnjaa", sum := "d75a3952c3603b008921b0b9d9d2774dc2f52dbcee5300798b882f3da7a573bf", func := "loop.example/g00859/laws.FnExactCutWire", spec := "fnExactCutWire", apart := false, narrowed := true }
def FnExactCutWireUptoSaid : Prop := fnExactCutWireUptoRow.holds Try.pinned (OpenSpec.upto fnExactCutWireSpec)

end Rows
end Go.Proofs.Ytabamjmhpgjnjaa
