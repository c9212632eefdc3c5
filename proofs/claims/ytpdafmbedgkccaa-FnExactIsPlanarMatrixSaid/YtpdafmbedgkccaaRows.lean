/-
  No cell of these rows narrows 'for every input' (looked for: loops, veiled, ifaces, maps, wideKeys, modest, calm, conditions, laid).
  DERIVED. THE GIVEN ROWS OF THIS SEAT. 12 by the template 'for every input the law returns true; each argument reads behind the call as it read before'; 0 by the template 'total and deterministic' (their statements: YtpdafmbedgkccaaTotals.lean).
  GIVEN WITH THE SEED: the statements are not yours to turn. If you find one false, say at which input.
  Laid BY PROGRAM, IN A SANDBOX (cutbox-rows.mjs): the forced cells as the released guide's own fill.sh prints them over the translation 0460ec16896f4b55… (all of the seat's roots in one cut). By AI agents, Wed Nov 11 2026. No macro, syntax, notation, axiom, sorry.
-/
import Derived.Test.YtpdafmbedgkccaaChecked
import GoSem.Claim
import GoSem.ClaimJoined
import GoSem.ClaimMapViews
import Derived.JoinedTies
import Derived.KernelRfl
namespace Go.Proofs.Ytpdafmbedgkccaa
/- THE CELL 'sum', in the pinned program and in every row, IS THE sha256 OF THE DUMP (.gsa) THAT YtpdafmbedgkccaaProg.lean LOADS. Nothing in Lean hashes anything: it is a label: what it is worth is what the hold of that sum in a sandbox is worth. -/
noncomputable def Try.pinned : Pinned := { name := "ytpdafmbedgkccaa", sum := "0460ec16896f4b552180e8f10b5a9c1f4cd701087ce7740395ce690ca31d8191", checked := Try.checked }
namespace Rows
def none {H : Type} : Left H := { results := [], args := [] }

/-- 'laws.FnExactTriangleGap': WHATEVER THE INPUT: true; the input reads as it did. -/
def fnExactTriangleGapSpec : ChangeSpec := { name := "fnExactTriangleGap", fn := fun _ => fun
  | [d1, d2, d3, d4] => { results := [.lit (.bool true)], args := [d1, d2, d3, d4] }
  | _ => none }
def fnExactTriangleGapRow : OpenClaim := { program := "ytpdafmbedgkccaa", sum := "0460ec16896f4b552180e8f10b5a9c1f4cd701087ce7740395ce690ca31d8191", func := "loop.example/g00859/laws.FnExactTriangleGap", spec := "fnExactTriangleGap", recurses := true, apart := false }
def FnExactTriangleGapSaid : Prop := fnExactTriangleGapRow.holds Try.pinned (OpenSpec.ofChange fnExactTriangleGapSpec)

/-- ITS FALSE NEIGHBOUR: 'it returns false'. Refute it at one input. -/
def fnExactTriangleGapWrong : ChangeSpec := { name := "fnExactTriangleGap", fn := fun _ => fun
  | [d1, d2, d3, d4] => { results := [.lit (.bool false)], args := [d1, d2, d3, d4] }
  | _ => none }
def FnExactTriangleGapWrongFalsely : Prop := fnExactTriangleGapRow.holds Try.pinned (OpenSpec.ofChange fnExactTriangleGapWrong)

/-- 'laws.FnExactIsSensitive': WHATEVER THE INPUT: true; the input reads as it did. -/
def fnExactIsSensitiveSpec : ChangeSpec := { name := "fnExactIsSensitive", fn := fun _ => fun
  | [d1, d2, d3, d4] => { results := [.lit (.bool true)], args := [d1, d2, d3, d4] }
  | _ => none }
def fnExactIsSensitiveRow : OpenClaim := { program := "ytpdafmbedgkccaa", sum := "0460ec16896f4b552180e8f10b5a9c1f4cd701087ce7740395ce690ca31d8191", func := "loop.example/g00859/laws.FnExactIsSensitive", spec := "fnExactIsSensitive", recurses := true, apart := false }
def FnExactIsSensitiveSaid : Prop := fnExactIsSensitiveRow.holds Try.pinned (OpenSpec.ofChange fnExactIsSensitiveSpec)

/-- ITS FALSE NEIGHBOUR: 'it returns false'. Refute it at one input. -/
def fnExactIsSensitiveWrong : ChangeSpec := { name := "fnExactIsSensitive", fn := fun _ => fun
  | [d1, d2, d3, d4] => { results := [.lit (.bool false)], args := [d1, d2, d3, d4] }
  | _ => none }
def FnExactIsSensitiveWrongFalsely : Prop := fnExactIsSensitiveRow.holds Try.pinned (OpenSpec.ofChange fnExactIsSensitiveWrong)

/-- 'laws.FnExactResistanceRange': WHATEVER THE INPUT: true; the input reads as it did. -/
def fnExactResistanceRangeSpec : ChangeSpec := { name := "fnExactResistanceRange", fn := fun _ => fun
  | [d1, d2, d3, d4, d5] => { results := [.lit (.bool true)], args := [d1, d2, d3, d4, d5] }
  | _ => none }
def fnExactResistanceRangeRow : OpenClaim := { program := "ytpdafmbedgkccaa", sum := "0460ec16896f4b552180e8f10b5a9c1f4cd701087ce7740395ce690ca31d8191", func := "loop.example/g00859/laws.FnExactResistanceRange", spec := "fnExactResistanceRange", recurses := true, apart := false }
def FnExactResistanceRangeSaid : Prop := fnExactResistanceRangeRow.holds Try.pinned (OpenSpec.ofChange fnExactResistanceRangeSpec)

/-- ITS FALSE NEIGHBOUR: 'it returns false'. Refute it at one input. -/
def fnExactResistanceRangeWrong : ChangeSpec := { name := "fnExactResistanceRange", fn := fun _ => fun
  | [d1, d2, d3, d4, d5] => { results := [.lit (.bool false)], args := [d1, d2, d3, d4, d5] }
  | _ => none }
def FnExactResistanceRangeWrongFalsely : Prop := fnExactResistanceRangeRow.holds Try.pinned (OpenSpec.ofChange fnExactResistanceRangeWrong)

/-- 'laws.FnExactMostSensitive': WHATEVER THE INPUT: true; the input reads as it did. -/
def fnExactMostSensitiveSpec : ChangeSpec := { name := "fnExactMostSensitive", fn := fun _ => fun
  | [d1, d2, d3] => { results := [.lit (.bool true)], args := [d1, d2, d3] }
  | _ => none }
def fnExactMostSensitiveRow : OpenClaim := { program := "ytpdafmbedgkccaa", sum := "0460ec16896f4b552180e8f10b5a9c1f4cd701087ce7740395ce690ca31d8191", func := "loop.example/g00859/laws.FnExactMostSensitive", spec := "fnExactMostSensitive", recurses := true, apart := false }
def FnExactMostSensitiveSaid : Prop := fnExactMostSensitiveRow.holds Try.pinned (OpenSpec.ofChange fnExactMostSensitiveSpec)

/-- ITS FALSE NEIGHBOUR: 'it returns false'. Refute it at one input. -/
def fnExactMostSensitiveWrong : ChangeSpec := { name := "fnExactMostSensitive", fn := fun _ => fun
  | [d1, d2, d3] => { results := [.lit (.bool false)], args := [d1, d2, d3] }
  | _ => none }
def FnExactMostSensitiveWrongFalsely : Prop := fnExactMostSensitiveRow.holds Try.pinned (OpenSpec.ofChange fnExactMostSensitiveWrong)

/-- 'laws.FnExactFaultsLike': WHATEVER THE INPUT: true; the input reads as it did. -/
def fnExactFaultsLikeSpec : ChangeSpec := { name := "fnExactFaultsLike", fn := fun _ => fun
  | [d1, d2] => { results := [.lit (.bool true)], args := [d1, d2] }
  | _ => none }
def fnExactFaultsLikeRow : OpenClaim := { program := "ytpdafmbedgkccaa", sum := "0460ec16896f4b552180e8f10b5a9c1f4cd701087ce7740395ce690ca31d8191", func := "loop.example/g00859/laws.FnExactFaultsLike", spec := "fnExactFaultsLike", unfollowed := true, recurses := true, apart := false }
def FnExactFaultsLikeSaid : Prop := fnExactFaultsLikeRow.holds Try.pinned (OpenSpec.ofChange fnExactFaultsLikeSpec)

/-- ITS FALSE NEIGHBOUR: 'it returns false'. Refute it at one input. -/
def fnExactFaultsLikeWrong : ChangeSpec := { name := "fnExactFaultsLike", fn := fun _ => fun
  | [d1, d2] => { results := [.lit (.bool false)], args := [d1, d2] }
  | _ => none }
def FnExactFaultsLikeWrongFalsely : Prop := fnExactFaultsLikeRow.holds Try.pinned (OpenSpec.ofChange fnExactFaultsLikeWrong)

/-- 'laws.FnExactHiddenFaults': WHATEVER THE INPUT: true; the input reads as it did. -/
def fnExactHiddenFaultsSpec : ChangeSpec := { name := "fnExactHiddenFaults", fn := fun _ => fun
  | [d] => { results := [.lit (.bool true)], args := [d] }
  | _ => none }
def fnExactHiddenFaultsRow : OpenClaim := { program := "ytpdafmbedgkccaa", sum := "0460ec16896f4b552180e8f10b5a9c1f4cd701087ce7740395ce690ca31d8191", func := "loop.example/g00859/laws.FnExactHiddenFaults", spec := "fnExactHiddenFaults", unfollowed := true, recurses := true, apart := false }
def FnExactHiddenFaultsSaid : Prop := fnExactHiddenFaultsRow.holds Try.pinned (OpenSpec.ofChange fnExactHiddenFaultsSpec)

/-- ITS FALSE NEIGHBOUR: 'it returns false'. Refute it at one input. -/
def fnExactHiddenFaultsWrong : ChangeSpec := { name := "fnExactHiddenFaults", fn := fun _ => fun
  | [d] => { results := [.lit (.bool false)], args := [d] }
  | _ => none }
def FnExactHiddenFaultsWrongFalsely : Prop := fnExactHiddenFaultsRow.holds Try.pinned (OpenSpec.ofChange fnExactHiddenFaultsWrong)

/-- 'laws.FnExactTwinFault': WHATEVER THE INPUT: true; the input reads as it did. -/
def fnExactTwinFaultSpec : ChangeSpec := { name := "fnExactTwinFault", fn := fun _ => fun
  | [d1, d2] => { results := [.lit (.bool true)], args := [d1, d2] }
  | _ => none }
def fnExactTwinFaultRow : OpenClaim := { program := "ytpdafmbedgkccaa", sum := "0460ec16896f4b552180e8f10b5a9c1f4cd701087ce7740395ce690ca31d8191", func := "loop.example/g00859/laws.FnExactTwinFault", spec := "fnExactTwinFault", unfollowed := true, recurses := true, apart := false }
def FnExactTwinFaultSaid : Prop := fnExactTwinFaultRow.holds Try.pinned (OpenSpec.ofChange fnExactTwinFaultSpec)

/-- ITS FALSE NEIGHBOUR: 'it returns false'. Refute it at one input. -/
def fnExactTwinFaultWrong : ChangeSpec := { name := "fnExactTwinFault", fn := fun _ => fun
  | [d1, d2] => { results := [.lit (.bool false)], args := [d1, d2] }
  | _ => none }
def FnExactTwinFaultWrongFalsely : Prop := fnExactTwinFaultRow.holds Try.pinned (OpenSpec.ofChange fnExactTwinFaultWrong)

/-- 'laws.FnExactCanLocate': WHATEVER THE INPUT: true; the input reads as it did. -/
def fnExactCanLocateSpec : ChangeSpec := { name := "fnExactCanLocate", fn := fun _ => fun
  | [d1, d2] => { results := [.lit (.bool true)], args := [d1, d2] }
  | _ => none }
def fnExactCanLocateRow : OpenClaim := { program := "ytpdafmbedgkccaa", sum := "0460ec16896f4b552180e8f10b5a9c1f4cd701087ce7740395ce690ca31d8191", func := "loop.example/g00859/laws.FnExactCanLocate", spec := "fnExactCanLocate", unfollowed := true, recurses := true, apart := false }
def FnExactCanLocateSaid : Prop := fnExactCanLocateRow.holds Try.pinned (OpenSpec.ofChange fnExactCanLocateSpec)

/-- ITS FALSE NEIGHBOUR: 'it returns false'. Refute it at one input. -/
def fnExactCanLocateWrong : ChangeSpec := { name := "fnExactCanLocate", fn := fun _ => fun
  | [d1, d2] => { results := [.lit (.bool false)], args := [d1, d2] }
  | _ => none }
def FnExactCanLocateWrongFalsely : Prop := fnExactCanLocateRow.holds Try.pinned (OpenSpec.ofChange fnExactCanLocateWrong)

/-- 'laws.FnExactIsPlanarMatrix': WHATEVER THE INPUT: true; the input reads as it did. -/
def fnExactIsPlanarMatrixSpec : ChangeSpec := { name := "fnExactIsPlanarMatrix", fn := fun _ => fun
  | [d] => { results := [.lit (.bool true)], args := [d] }
  | _ => none }
def fnExactIsPlanarMatrixRow : OpenClaim := { program := "ytpdafmbedgkccaa", sum := "0460ec16896f4b552180e8f10b5a9c1f4cd701087ce7740395ce690ca31d8191", func := "loop.example/g00859/laws.FnExactIsPlanarMatrix", spec := "fnExactIsPlanarMatrix", recurses := true, apart := false }
def FnExactIsPlanarMatrixSaid : Prop := fnExactIsPlanarMatrixRow.holds Try.pinned (OpenSpec.ofChange fnExactIsPlanarMatrixSpec)

/-- ITS FALSE NEIGHBOUR: 'it returns false'. Refute it at one input. -/
def fnExactIsPlanarMatrixWrong : ChangeSpec := { name := "fnExactIsPlanarMatrix", fn := fun _ => fun
  | [d] => { results := [.lit (.bool false)], args := [d] }
  | _ => none }
def FnExactIsPlanarMatrixWrongFalsely : Prop := fnExactIsPlanarMatrixRow.holds Try.pinned (OpenSpec.ofChange fnExactIsPlanarMatrixWrong)

/-- 'laws.FnExactPlanarReason': WHATEVER THE INPUT: true; the input reads as it did. -/
def fnExactPlanarReasonSpec : ChangeSpec := { name := "fnExactPlanarReason", fn := fun _ => fun
  | [d] => { results := [.lit (.bool true)], args := [d] }
  | _ => none }
def fnExactPlanarReasonRow : OpenClaim := { program := "ytpdafmbedgkccaa", sum := "0460ec16896f4b552180e8f10b5a9c1f4cd701087ce7740395ce690ca31d8191", func := "loop.example/g00859/laws.FnExactPlanarReason", spec := "fnExactPlanarReason", recurses := true, apart := false }
def FnExactPlanarReasonSaid : Prop := fnExactPlanarReasonRow.holds Try.pinned (OpenSpec.ofChange fnExactPlanarReasonSpec)

/-- ITS FALSE NEIGHBOUR: 'it returns false'. Refute it at one input. -/
def fnExactPlanarReasonWrong : ChangeSpec := { name := "fnExactPlanarReason", fn := fun _ => fun
  | [d] => { results := [.lit (.bool false)], args := [d] }
  | _ => none }
def FnExactPlanarReasonWrongFalsely : Prop := fnExactPlanarReasonRow.holds Try.pinned (OpenSpec.ofChange fnExactPlanarReasonWrong)

/-- 'laws.FnSwitched': WHATEVER THE INPUT: true; the input reads as it did. -/
def fnSwitchedSpec : ChangeSpec := { name := "fnSwitched", fn := fun _ => fun
  | [d] => { results := [.lit (.bool true)], args := [d] }
  | _ => none }
def fnSwitchedRow : OpenClaim := { program := "ytpdafmbedgkccaa", sum := "0460ec16896f4b552180e8f10b5a9c1f4cd701087ce7740395ce690ca31d8191", func := "loop.example/g00859/laws.FnSwitched", spec := "fnSwitched", recurses := true, apart := false }
def FnSwitchedSaid : Prop := fnSwitchedRow.holds Try.pinned (OpenSpec.ofChange fnSwitchedSpec)

/-- ITS FALSE NEIGHBOUR: 'it returns false'. Refute it at one input. -/
def fnSwitchedWrong : ChangeSpec := { name := "fnSwitched", fn := fun _ => fun
  | [d] => { results := [.lit (.bool false)], args := [d] }
  | _ => none }
def FnSwitchedWrongFalsely : Prop := fnSwitchedRow.holds Try.pinned (OpenSpec.ofChange fnSwitchedWrong)

/-- 'laws.FnTrees': WHATEVER THE INPUT: true; the input reads as it did. -/
def fnTreesSpec : ChangeSpec := { name := "fnTrees", fn := fun _ => fun
  | [d] => { results := [.lit (.bool true)], args := [d] }
  | _ => none }
def fnTreesRow : OpenClaim := { program := "ytpdafmbedgkccaa", sum := "0460ec16896f4b552180e8f10b5a9c1f4cd701087ce7740395ce690ca31d8191", func := "loop.example/g00859/laws.FnTrees", spec := "fnTrees", recurses := true, apart := false }
def FnTreesSaid : Prop := fnTreesRow.holds Try.pinned (OpenSpec.ofChange fnTreesSpec)

/-- ITS FALSE NEIGHBOUR: 'it returns false'. Refute it at one input. -/
def fnTreesWrong : ChangeSpec := { name := "fnTrees", fn := fun _ => fun
  | [d] => { results := [.lit (.bool false)], args := [d] }
  | _ => none }
def FnTreesWrongFalsely : Prop := fnTreesRow.holds Try.pinned (OpenSpec.ofChange fnTreesWrong)

/- THE SECOND FORM. 'bulk': how many values and letters a reading holds, each counted each time it is reached (what is shared counts as often as it is met; a slice's spare places count too). A statement '..UptoSaid' is the law's where the arguments, and the package variables that the reading takes, are together of bulk at most 1048576: NARROWER than '..Said'. Prove '..Said' where nothing that the law and all that it calls make is longer than what came in: it says more and counts as full. Else prove '..UptoSaid'. A law counts once. -/
mutual
def uptoBulk {H : Type} : DataW H → Nat
  | .lit (.string bytes) => bytes.length + 1
  | .lit _ => 1
  | .nil => 1
  | .ptr d => uptoBulk d + 1
  | .slice elems spare => uptoBulkAll elems + uptoBulkAll spare + 1
  | .agg parts => uptoBulkAll parts + 1
  | .iface _ d => uptoBulk d + 1
  | .map entries => uptoBulkEntries entries + 1
  | .held _ => 1
def uptoBulkAll {H : Type} : List (DataW H) → Nat
  | [] => 0
  | d :: r => uptoBulk d + uptoBulkAll r
def uptoBulkEntries {H : Type} : List (Lit × DataW H) → Nat
  | [] => 0
  | x :: r => uptoBulkEntry x + uptoBulkEntries r
def uptoBulkEntry {H : Type} : Lit × DataW H → Nat
  | (.string bytes, d) => bytes.length + uptoBulk d + 1
  | (_, d) => uptoBulk d + 1
 end
def uptoSmall : (H : Type) → List (DataW H) → Bool := fun _ ds => decide (uptoBulkAll ds ≤ 1048576)
def OpenSpec.upto (s : _root_.Go.ChangeSpec) : _root_.Go.OpenSpec := { _root_.Go.OpenSpec.ofChange s with cond := some uptoSmall }

/-- 'laws.FnExactTriangleGap', WHERE WHAT IT READS IS OF BULK AT MOST 1048576: true; the input reads as it did. -/
def fnExactTriangleGapUptoRow : OpenClaim := { program := "ytpdafmbedgkccaa", sum := "0460ec16896f4b552180e8f10b5a9c1f4cd701087ce7740395ce690ca31d8191", func := "loop.example/g00859/laws.FnExactTriangleGap", spec := "fnExactTriangleGap", recurses := true, apart := false, narrowed := true }
def FnExactTriangleGapUptoSaid : Prop := fnExactTriangleGapUptoRow.holds Try.pinned (OpenSpec.upto fnExactTriangleGapSpec)

/-- 'laws.FnExactIsSensitive', WHERE WHAT IT READS IS OF BULK AT MOST 1048576: true; the input reads as it did. -/
def fnExactIsSensitiveUptoRow : OpenClaim := { program := "ytpdafmbedgkccaa", sum := "0460ec16896f4b552180e8f10b5a9c1f4cd701087ce7740395ce690ca31d8191", func := "loop.example/g00859/laws.FnExactIsSensitive", spec := "fnExactIsSensitive", recurses := true, apart := false, narrowed := true }
def FnExactIsSensitiveUptoSaid : Prop := fnExactIsSensitiveUptoRow.holds Try.pinned (OpenSpec.upto fnExactIsSensitiveSpec)

/-- 'laws.FnExactResistanceRange', WHERE WHAT IT READS IS OF BULK AT MOST 1048576: true; the input reads as it did. -/
def fnExactResistanceRangeUptoRow : OpenClaim := { program := "ytpdafmbedgkccaa", sum := "0460ec16896f4b552180e8f10b5a9c1f4cd701087ce7740395ce690ca31d8191", func := "loop.example/g00859/laws.FnExactResistanceRange", spec := "fnExactResistanceRange", recurses := true, apart := false, narrowed := true }
def FnExactResistanceRangeUptoSaid : Prop := fnExactResistanceRangeUptoRow.holds Try.pinned (OpenSpec.upto fnExactResistanceRangeSpec)

/-- 'laws.FnExactMostSensitive', WHERE WHAT IT READS IS OF BULK AT MOST 1048576: true; the input reads as it did. -/
def fnExactMostSensitiveUptoRow : OpenClaim := { program := "ytpdafmbedgkccaa", sum := "0460ec16896f4b552180e8f10b5a9c1f4cd701087ce7740395ce690ca31d8191", func := "loop.example/g00859/laws.FnExactMostSensitive", spec := "fnExactMostSensitive", recurses := true, apart := false, narrowed := true }
def FnExactMostSensitiveUptoSaid : Prop := fnExactMostSensitiveUptoRow.holds Try.pinned (OpenSpec.upto fnExactMostSensitiveSpec)

/-- 'laws.FnExactFaultsLike', WHERE WHAT IT READS IS OF BULK AT MOST 1048576: true; the input reads as it did. -/
def fnExactFaultsLikeUptoRow : OpenClaim := { program := "ytpdafmbedgkccaa", sum := "0460ec16896f4b552180e8f10b5a9c1f4cd701087ce7740395ce690ca31d8191", func := "loop.example/g00859/laws.FnExactFaultsLike", spec := "fnExactFaultsLike", unfollowed := true, recurses := true, apart := false, narrowed := true }
def FnExactFaultsLikeUptoSaid : Prop := fnExactFaultsLikeUptoRow.holds Try.pinned (OpenSpec.upto fnExactFaultsLikeSpec)

/-- 'laws.FnExactHiddenFaults', WHERE WHAT IT READS IS OF BULK AT MOST 1048576: true; the input reads as it did. -/
def fnExactHiddenFaultsUptoRow : OpenClaim := { program := "ytpdafmbedgkccaa", sum := "0460ec16896f4b552180e8f10b5a9c1f4cd701087ce7740395ce690ca31d8191", func := "loop.example/g00859/laws.FnExactHiddenFaults", spec := "fnExactHiddenFaults", unfollowed := true, recurses := true, apart := false, narrowed := true }
def FnExactHiddenFaultsUptoSaid : Prop := fnExactHiddenFaultsUptoRow.holds Try.pinned (OpenSpec.upto fnExactHiddenFaultsSpec)

/-- 'laws.FnExactTwinFault', WHERE WHAT IT READS IS OF BULK AT MOST 1048576: true; the input reads as it did. -/
def fnExactTwinFaultUptoRow : OpenClaim := { program := "ytpdafmbedgkccaa", sum := "0460ec16896f4b552180e8f10b5a9c1f4cd701087ce7740395ce690ca31d8191", func := "loop.example/g00859/laws.FnExactTwinFault", spec := "fnExactTwinFault", unfollowed := true, recurses := true, apart := false, narrowed := true }
def FnExactTwinFaultUptoSaid : Prop := fnExactTwinFaultUptoRow.holds Try.pinned (OpenSpec.upto fnExactTwinFaultSpec)

/-- 'laws.FnExactCanLocate', WHERE WHAT IT READS IS OF BULK AT MOST 1048576: true; the input reads as it did. -/
def fnExactCanLocateUptoRow : OpenClaim := { program := "ytpdafmbedgkccaa", sum := "0460ec16896f4b552180e8f10b5a9c1f4cd701087ce7740395ce690ca31d8191", func := "loop.example/g00859/laws.FnExactCanLocate", spec := "fnExactCanLocate", unfollowed := true, recurses := true, apart := false, narrowed := true }
def FnExactCanLocateUptoSaid : Prop := fnExactCanLocateUptoRow.holds Try.pinned (OpenSpec.upto fnExactCanLocateSpec)

/-- 'laws.FnExactIsPlanarMatrix', WHERE WHAT IT READS IS OF BULK AT MOST 1048576: true; the input reads as it did. -/
def fnExactIsPlanarMatrixUptoRow : OpenClaim := { program := "ytpdafmbedgkccaa", sum := "0460ec16896f4b552180e8f10b5a9c1f4cd701087ce7740395ce690ca31d8191", func := "loop.example/g00859/laws.FnExactIsPlanarMatrix", spec := "fnExactIsPlanarMatrix", recurses := true, apart := false, narrowed := true }
def FnExactIsPlanarMatrixUptoSaid : Prop := fnExactIsPlanarMatrixUptoRow.holds Try.pinned (OpenSpec.upto fnExactIsPlanarMatrixSpec)

/-- 'laws.FnExactPlanarReason', WHERE WHAT IT READS IS OF BULK AT MOST 1048576: true; the input reads as it did. -/
def fnExactPlanarReasonUptoRow : OpenClaim := { program := "ytpdafmbedgkccaa", sum := "0460ec16896f4b552180e8f10b5a9c1f4cd701087ce7740395ce690ca31d8191", func := "loop.example/g00859/laws.FnExactPlanarReason", spec := "fnExactPlanarReason", recurses := true, apart := false, narrowed := true }
def FnExactPlanarReasonUptoSaid : Prop := fnExactPlanarReasonUptoRow.holds Try.pinned (OpenSpec.upto fnExactPlanarReasonSpec)

/-- 'laws.FnSwitched', WHERE WHAT IT READS IS OF BULK AT MOST 1048576: true; the input reads as it did. -/
def fnSwitchedUptoRow : OpenClaim := { program := "ytpdafmbedgkccaa", sum := "0460ec16896f4b552180e8f10b5a9c1f4cd701087ce7740395ce690ca31d8191", func := "loop.example/g00859/laws.FnSwitched", spec := "fnSwitched", recurses := true, apart := false, narrowed := true }
def FnSwitchedUptoSaid : Prop := fnSwitchedUptoRow.holds Try.pinned (OpenSpec.upto fnSwitchedSpec)

/-- 'laws.FnTrees', WHERE WHAT IT READS IS OF BULK AT MOST 1048576: true; the input reads as it did. -/
def fnTreesUptoRow : OpenClaim := { program := "ytpdafmbedgkccaa", sum := "0460ec16896f4b552180e8f10b5a9c1f4cd701087ce7740395ce690ca31d8191", func := "loop.example/g00859/laws.FnTrees", spec := "fnTrees", recurses := true, apart := false, narrowed := true }
def FnTreesUptoSaid : Prop := fnTreesUptoRow.holds Try.pinned (OpenSpec.upto fnTreesSpec)

end Rows
end Go.Proofs.Ytpdafmbedgkccaa
