/-
  No cell of these rows narrows 'for every input' (looked for: loops, veiled, ifaces, maps, wideKeys, modest, calm, conditions, laid).
  DERIVED. THE GIVEN ROWS OF THIS SEAT. 12 by the template 'for every input the law returns true; each argument reads behind the call as it read before'; 0 by the template 'total and deterministic' (their statements: YtfjnflohpmpoeaaTotals.lean).
  GIVEN WITH THE SEED: the statements are not yours to turn. If you find one false, say at which input.
  Laid BY PROGRAM, IN A SANDBOX (cutbox-rows.mjs): the forced cells as the released guide's own fill.sh prints them over the translation 1aeb95aa5c3b6f8a… (all of the seat's roots in one cut). By AI agents, Wed Nov 11 2026. No macro, syntax, notation, axiom, sorry.
-/
import Derived.Test.YtfjnflohpmpoeaaChecked
import GoSem.Claim
import GoSem.ClaimJoined
import GoSem.ClaimMapViews
import Derived.JoinedTies
import Derived.KernelRfl
namespace Go.Proofs.Ytfjnflohpmpoeaa
/- THE CELL 'sum', in the pinned program and in every row, IS THE sha256 OF THE DUMP (.gsa) THAT YtfjnflohpmpoeaaProg.lean LOADS. Nothing in Lean hashes anything: it is a label: what it is worth is what the hold of that sum in a sandbox is worth. -/
noncomputable def Try.pinned : Pinned := { name := "ytfjnflohpmpoeaa", sum := "1aeb95aa5c3b6f8a83d3d8736bf71b586243974c3c2c31f7a1d02678e7361e4d", checked := Try.checked }
namespace Rows
def none {H : Type} : Left H := { results := [], args := [] }

/-- 'laws.FnExactApplyFault': WHATEVER THE INPUT: true; the input reads as it did. -/
def fnExactApplyFaultSpec : ChangeSpec := { name := "fnExactApplyFault", fn := fun _ => fun
  | [d1, d2] => { results := [.lit (.bool true)], args := [d1, d2] }
  | _ => none }
def fnExactApplyFaultRow : OpenClaim := { program := "ytfjnflohpmpoeaa", sum := "1aeb95aa5c3b6f8a83d3d8736bf71b586243974c3c2c31f7a1d02678e7361e4d", func := "loop.example/g00859/laws.FnExactApplyFault", spec := "fnExactApplyFault", apart := false }
def FnExactApplyFaultSaid : Prop := fnExactApplyFaultRow.holds Try.pinned (OpenSpec.ofChange fnExactApplyFaultSpec)

/-- ITS FALSE NEIGHBOUR: 'it returns false'. Refute it at one input. -/
def fnExactApplyFaultWrong : ChangeSpec := { name := "fnExactApplyFault", fn := fun _ => fun
  | [d1, d2] => { results := [.lit (.bool false)], args := [d1, d2] }
  | _ => none }
def FnExactApplyFaultWrongFalsely : Prop := fnExactApplyFaultRow.holds Try.pinned (OpenSpec.ofChange fnExactApplyFaultWrong)

/-- 'laws.FnExactAllFaults': WHATEVER THE INPUT: true; the input reads as it did. -/
def fnExactAllFaultsSpec : ChangeSpec := { name := "fnExactAllFaults", fn := fun _ => fun
  | [d] => { results := [.lit (.bool true)], args := [d] }
  | _ => none }
def fnExactAllFaultsRow : OpenClaim := { program := "ytfjnflohpmpoeaa", sum := "1aeb95aa5c3b6f8a83d3d8736bf71b586243974c3c2c31f7a1d02678e7361e4d", func := "loop.example/g00859/laws.FnExactAllFaults", spec := "fnExactAllFaults", apart := false }
def FnExactAllFaultsSaid : Prop := fnExactAllFaultsRow.holds Try.pinned (OpenSpec.ofChange fnExactAllFaultsSpec)

/-- ITS FALSE NEIGHBOUR: 'it returns false'. Refute it at one input. -/
def fnExactAllFaultsWrong : ChangeSpec := { name := "fnExactAllFaults", fn := fun _ => fun
  | [d] => { results := [.lit (.bool false)], args := [d] }
  | _ => none }
def FnExactAllFaultsWrongFalsely : Prop := fnExactAllFaultsRow.holds Try.pinned (OpenSpec.ofChange fnExactAllFaultsWrong)

/-- 'laws.FnExactTriangleStar': WHATEVER THE INPUT: true; the input reads as it did. -/
def fnExactTriangleStarSpec : ChangeSpec := { name := "fnExactTriangleStar", fn := fun _ => fun
  | [d1, d2, d3, d4] => { results := [.lit (.bool true)], args := [d1, d2, d3, d4] }
  | _ => none }
def fnExactTriangleStarRow : OpenClaim := { program := "ytfjnflohpmpoeaa", sum := "1aeb95aa5c3b6f8a83d3d8736bf71b586243974c3c2c31f7a1d02678e7361e4d", func := "loop.example/g00859/laws.FnExactTriangleStar", spec := "fnExactTriangleStar", apart := false }
def FnExactTriangleStarSaid : Prop := fnExactTriangleStarRow.holds Try.pinned (OpenSpec.ofChange fnExactTriangleStarSpec)

/-- ITS FALSE NEIGHBOUR: 'it returns false'. Refute it at one input. -/
def fnExactTriangleStarWrong : ChangeSpec := { name := "fnExactTriangleStar", fn := fun _ => fun
  | [d1, d2, d3, d4] => { results := [.lit (.bool false)], args := [d1, d2, d3, d4] }
  | _ => none }
def FnExactTriangleStarWrongFalsely : Prop := fnExactTriangleStarRow.holds Try.pinned (OpenSpec.ofChange fnExactTriangleStarWrong)

/-- 'laws.FnExactStarMesh': WHATEVER THE INPUT: true; the input reads as it did. -/
def fnExactStarMeshSpec : ChangeSpec := { name := "fnExactStarMesh", fn := fun _ => fun
  | [d1, d2] => { results := [.lit (.bool true)], args := [d1, d2] }
  | _ => none }
def fnExactStarMeshRow : OpenClaim := { program := "ytfjnflohpmpoeaa", sum := "1aeb95aa5c3b6f8a83d3d8736bf71b586243974c3c2c31f7a1d02678e7361e4d", func := "loop.example/g00859/laws.FnExactStarMesh", spec := "fnExactStarMesh", apart := false }
def FnExactStarMeshSaid : Prop := fnExactStarMeshRow.holds Try.pinned (OpenSpec.ofChange fnExactStarMeshSpec)

/-- ITS FALSE NEIGHBOUR: 'it returns false'. Refute it at one input. -/
def fnExactStarMeshWrong : ChangeSpec := { name := "fnExactStarMesh", fn := fun _ => fun
  | [d1, d2] => { results := [.lit (.bool false)], args := [d1, d2] }
  | _ => none }
def FnExactStarMeshWrongFalsely : Prop := fnExactStarMeshRow.holds Try.pinned (OpenSpec.ofChange fnExactStarMeshWrong)

/-- 'laws.FnExactDropNode': WHATEVER THE INPUT: true; the input reads as it did. -/
def fnExactDropNodeSpec : ChangeSpec := { name := "fnExactDropNode", fn := fun _ => fun
  | [d1, d2] => { results := [.lit (.bool true)], args := [d1, d2] }
  | _ => none }
def fnExactDropNodeRow : OpenClaim := { program := "ytfjnflohpmpoeaa", sum := "1aeb95aa5c3b6f8a83d3d8736bf71b586243974c3c2c31f7a1d02678e7361e4d", func := "loop.example/g00859/laws.FnExactDropNode", spec := "fnExactDropNode", apart := false }
def FnExactDropNodeSaid : Prop := fnExactDropNodeRow.holds Try.pinned (OpenSpec.ofChange fnExactDropNodeSpec)

/-- ITS FALSE NEIGHBOUR: 'it returns false'. Refute it at one input. -/
def fnExactDropNodeWrong : ChangeSpec := { name := "fnExactDropNode", fn := fun _ => fun
  | [d1, d2] => { results := [.lit (.bool false)], args := [d1, d2] }
  | _ => none }
def FnExactDropNodeWrongFalsely : Prop := fnExactDropNodeRow.holds Try.pinned (OpenSpec.ofChange fnExactDropNodeWrong)

/-- 'laws.FnExactMeshAll': WHATEVER THE INPUT: true; the input reads as it did. -/
def fnExactMeshAllSpec : ChangeSpec := { name := "fnExactMeshAll", fn := fun _ => fun
  | [d] => { results := [.lit (.bool true)], args := [d] }
  | _ => none }
def fnExactMeshAllRow : OpenClaim := { program := "ytfjnflohpmpoeaa", sum := "1aeb95aa5c3b6f8a83d3d8736bf71b586243974c3c2c31f7a1d02678e7361e4d", func := "loop.example/g00859/laws.FnExactMeshAll", spec := "fnExactMeshAll", apart := false }
def FnExactMeshAllSaid : Prop := fnExactMeshAllRow.holds Try.pinned (OpenSpec.ofChange fnExactMeshAllSpec)

/-- ITS FALSE NEIGHBOUR: 'it returns false'. Refute it at one input. -/
def fnExactMeshAllWrong : ChangeSpec := { name := "fnExactMeshAll", fn := fun _ => fun
  | [d] => { results := [.lit (.bool false)], args := [d] }
  | _ => none }
def FnExactMeshAllWrongFalsely : Prop := fnExactMeshAllRow.holds Try.pinned (OpenSpec.ofChange fnExactMeshAllWrong)

/-- 'laws.FnExactReduceAll': WHATEVER THE INPUT: true; the input reads as it did. -/
def fnExactReduceAllSpec : ChangeSpec := { name := "fnExactReduceAll", fn := fun _ => fun
  | [d] => { results := [.lit (.bool true)], args := [d] }
  | _ => none }
def fnExactReduceAllRow : OpenClaim := { program := "ytfjnflohpmpoeaa", sum := "1aeb95aa5c3b6f8a83d3d8736bf71b586243974c3c2c31f7a1d02678e7361e4d", func := "loop.example/g00859/laws.FnExactReduceAll", spec := "fnExactReduceAll", apart := false }
def FnExactReduceAllSaid : Prop := fnExactReduceAllRow.holds Try.pinned (OpenSpec.ofChange fnExactReduceAllSpec)

/-- ITS FALSE NEIGHBOUR: 'it returns false'. Refute it at one input. -/
def fnExactReduceAllWrong : ChangeSpec := { name := "fnExactReduceAll", fn := fun _ => fun
  | [d] => { results := [.lit (.bool false)], args := [d] }
  | _ => none }
def FnExactReduceAllWrongFalsely : Prop := fnExactReduceAllRow.holds Try.pinned (OpenSpec.ofChange fnExactReduceAllWrong)

/-- 'laws.FnExactIsReducible': WHATEVER THE INPUT: true; the input reads as it did. -/
def fnExactIsReducibleSpec : ChangeSpec := { name := "fnExactIsReducible", fn := fun _ => fun
  | [d] => { results := [.lit (.bool true)], args := [d] }
  | _ => none }
def fnExactIsReducibleRow : OpenClaim := { program := "ytfjnflohpmpoeaa", sum := "1aeb95aa5c3b6f8a83d3d8736bf71b586243974c3c2c31f7a1d02678e7361e4d", func := "loop.example/g00859/laws.FnExactIsReducible", spec := "fnExactIsReducible", apart := false }
def FnExactIsReducibleSaid : Prop := fnExactIsReducibleRow.holds Try.pinned (OpenSpec.ofChange fnExactIsReducibleSpec)

/-- ITS FALSE NEIGHBOUR: 'it returns false'. Refute it at one input. -/
def fnExactIsReducibleWrong : ChangeSpec := { name := "fnExactIsReducible", fn := fun _ => fun
  | [d] => { results := [.lit (.bool false)], args := [d] }
  | _ => none }
def FnExactIsReducibleWrongFalsely : Prop := fnExactIsReducibleRow.holds Try.pinned (OpenSpec.ofChange fnExactIsReducibleWrong)

/-- 'laws.FnExactResponseOf': WHATEVER THE INPUT: true; the input reads as it did. -/
def fnExactResponseOfSpec : ChangeSpec := { name := "fnExactResponseOf", fn := fun _ => fun
  | [d] => { results := [.lit (.bool true)], args := [d] }
  | _ => none }
def fnExactResponseOfRow : OpenClaim := { program := "ytfjnflohpmpoeaa", sum := "1aeb95aa5c3b6f8a83d3d8736bf71b586243974c3c2c31f7a1d02678e7361e4d", func := "loop.example/g00859/laws.FnExactResponseOf", spec := "fnExactResponseOf", recurses := true, apart := false }
def FnExactResponseOfSaid : Prop := fnExactResponseOfRow.holds Try.pinned (OpenSpec.ofChange fnExactResponseOfSpec)

/-- ITS FALSE NEIGHBOUR: 'it returns false'. Refute it at one input. -/
def fnExactResponseOfWrong : ChangeSpec := { name := "fnExactResponseOf", fn := fun _ => fun
  | [d] => { results := [.lit (.bool false)], args := [d] }
  | _ => none }
def FnExactResponseOfWrongFalsely : Prop := fnExactResponseOfRow.holds Try.pinned (OpenSpec.ofChange fnExactResponseOfWrong)

/-- 'laws.FnExactCurrentsFor': WHATEVER THE INPUT: true; the input reads as it did. -/
def fnExactCurrentsForSpec : ChangeSpec := { name := "fnExactCurrentsFor", fn := fun _ => fun
  | [d1, d2] => { results := [.lit (.bool true)], args := [d1, d2] }
  | _ => none }
def fnExactCurrentsForRow : OpenClaim := { program := "ytfjnflohpmpoeaa", sum := "1aeb95aa5c3b6f8a83d3d8736bf71b586243974c3c2c31f7a1d02678e7361e4d", func := "loop.example/g00859/laws.FnExactCurrentsFor", spec := "fnExactCurrentsFor", recurses := true, apart := false }
def FnExactCurrentsForSaid : Prop := fnExactCurrentsForRow.holds Try.pinned (OpenSpec.ofChange fnExactCurrentsForSpec)

/-- ITS FALSE NEIGHBOUR: 'it returns false'. Refute it at one input. -/
def fnExactCurrentsForWrong : ChangeSpec := { name := "fnExactCurrentsFor", fn := fun _ => fun
  | [d1, d2] => { results := [.lit (.bool false)], args := [d1, d2] }
  | _ => none }
def FnExactCurrentsForWrongFalsely : Prop := fnExactCurrentsForRow.holds Try.pinned (OpenSpec.ofChange fnExactCurrentsForWrong)

/-- 'laws.FnExactPowerFor': WHATEVER THE INPUT: true; the input reads as it did. -/
def fnExactPowerForSpec : ChangeSpec := { name := "fnExactPowerFor", fn := fun _ => fun
  | [d1, d2] => { results := [.lit (.bool true)], args := [d1, d2] }
  | _ => none }
def fnExactPowerForRow : OpenClaim := { program := "ytfjnflohpmpoeaa", sum := "1aeb95aa5c3b6f8a83d3d8736bf71b586243974c3c2c31f7a1d02678e7361e4d", func := "loop.example/g00859/laws.FnExactPowerFor", spec := "fnExactPowerFor", recurses := true, apart := false }
def FnExactPowerForSaid : Prop := fnExactPowerForRow.holds Try.pinned (OpenSpec.ofChange fnExactPowerForSpec)

/-- ITS FALSE NEIGHBOUR: 'it returns false'. Refute it at one input. -/
def fnExactPowerForWrong : ChangeSpec := { name := "fnExactPowerFor", fn := fun _ => fun
  | [d1, d2] => { results := [.lit (.bool false)], args := [d1, d2] }
  | _ => none }
def FnExactPowerForWrongFalsely : Prop := fnExactPowerForRow.holds Try.pinned (OpenSpec.ofChange fnExactPowerForWrong)

/-- 'laws.FnExactCircularMinor': WHATEVER THE INPUT: true; the input reads as it did. -/
def fnExactCircularMinorSpec : ChangeSpec := { name := "fnExactCircularMinor", fn := fun _ => fun
  | [d1, d2, d3] => { results := [.lit (.bool true)], args := [d1, d2, d3] }
  | _ => none }
def fnExactCircularMinorRow : OpenClaim := { program := "ytfjnflohpmpoeaa", sum := "1aeb95aa5c3b6f8a83d3d8736bf71b586243974c3c2c31f7a1d02678e7361e4d", func := "loop.example/g00859/laws.FnExactCircularMinor", spec := "fnExactCircularMinor", recurses := true, apart := false }
def FnExactCircularMinorSaid : Prop := fnExactCircularMinorRow.holds Try.pinned (OpenSpec.ofChange fnExactCircularMinorSpec)

/-- ITS FALSE NEIGHBOUR: 'it returns false'. Refute it at one input. -/
def fnExactCircularMinorWrong : ChangeSpec := { name := "fnExactCircularMinor", fn := fun _ => fun
  | [d1, d2, d3] => { results := [.lit (.bool false)], args := [d1, d2, d3] }
  | _ => none }
def FnExactCircularMinorWrongFalsely : Prop := fnExactCircularMinorRow.holds Try.pinned (OpenSpec.ofChange fnExactCircularMinorWrong)

/- THE SECOND FORM. 'bulk': how many values and letters a reading holds, each counted each time it is reached (what is shared counts as often as it is met; a slice's spare places count too). A statement '..UptoSaid' is the law's where the arguments, and the package variables that the reading takes, are together of bulk at most 1048576: NARROWER than '..Said'. Prove '..Said' where nothing that the law and all that it calls make is longer than what came in: it says more and counts as full. Else prove '..UptoSaid'. A law counts once. -/
mutual
def uptoBulk {H : Type} : DataW H → Nat
  | .lit (.string bytes) => bytes.length + 1
  | .lit _ => 1
  | .nil => 1
  | .ptr d => uptoBulk d + 1
  | .slice elems spare => uptoBulkAll elems + uptoBulkAll spare + 1
  | .agg parts => uptoBulkAll parts + 1
  | .iface _ d => uptoBulk d + 1
  | .map entries => uptoBulkEntries entries + 1
  | .held _ => 1
def uptoBulkAll {H : Type} : List (DataW H) → Nat
  | [] => 0
  | d :: r => uptoBulk d + uptoBulkAll r
def uptoBulkEntries {H : Type} : List (Lit × DataW H) → Nat
  | [] => 0
  | x :: r => uptoBulkEntry x + uptoBulkEntries r
def uptoBulkEntry {H : Type} : Lit × DataW H → Nat
  | (.string bytes, d) => bytes.length + uptoBulk d + 1
  | (_, d) => uptoBulk d + 1
 end
def uptoSmall : (H : Type) → List (DataW H) → Bool := fun _ ds => decide (uptoBulkAll ds ≤ 1048576)
def OpenSpec.upto (s : _root_.Go.ChangeSpec) : _root_.Go.OpenSpec := { _root_.Go.OpenSpec.ofChange s with cond := some uptoSmall }

/-- 'laws.FnExactApplyFault', WHERE WHAT IT READS IS OF BULK AT MOST 1048576: true; the input reads as it did. -/
def fnExactApplyFaultUptoRow : OpenClaim := { program := "ytfjnflohpmpoeaa", sum := "1aeb95aa5c3b6f8a83d3d8736bf71b586243974c3c2c31f7a1d02678e7361e4d", func := "loop.example/g00859/laws.FnExactApplyFault", spec := "fnExactApplyFault", apart := false, narrowed := true }
def FnExactApplyFaultUptoSaid : Prop := fnExactApplyFaultUptoRow.holds Try.pinned (OpenSpec.upto fnExactApplyFaultSpec)

/-- 'laws.FnExactAllFaults', WHERE WHAT IT READS IS OF BULK AT MOST 1048576: true; the input reads as it did. -/
def fnExactAllFaultsUptoRow : OpenClaim := { program := "ytfjnflohpmpoeaa", sum := "1aeb95aa5c3b6f8a83d3d8736bf71b586243974c3c2c31f7a1d02678e7361e4d", func := "loop.example/g00859/laws.FnExactAllFaults", spec := "fnExactAllFaults", apart := false, narrowed := true }
def FnExactAllFaultsUptoSaid : Prop := fnExactAllFaultsUptoRow.holds Try.pinned (OpenSpec.upto fnExactAllFaultsSpec)

/-- 'laws.FnExactTriangleStar', WHERE WHAT IT READS IS OF BULK AT MOST 1048576: true; the input reads as it did. -/
def fnExactTriangleStarUptoRow : OpenClaim := { program := "ytfjnflohpmpoeaa", sum := "1aeb95aa5c3b6f8a83d3d8736bf71b586243974c3c2c31f7a1d02678e7361e4d", func := "loop.example/g00859/laws.FnExactTriangleStar", spec := "fnExactTriangleStar", apart := false, narrowed := true }
def FnExactTriangleStarUptoSaid : Prop := fnExactTriangleStarUptoRow.holds Try.pinned (OpenSpec.upto fnExactTriangleStarSpec)

/-- 'laws.FnExactStarMesh', WHERE WHAT IT READS IS OF BULK AT MOST 1048576: true; the input reads as it did. -/
def fnExactStarMeshUptoRow : OpenClaim := { program := "ytfjnflohpmpoeaa", sum := "1aeb95aa5c3b6f8a83d3d8736bf71b586243974c3c2c31f7a1d02678e7361e4d", func := "loop.example/g00859/laws.FnExactStarMesh", spec := "fnExactStarMesh", apart := false, narrowed := true }
def FnExactStarMeshUptoSaid : Prop := fnExactStarMeshUptoRow.holds Try.pinned (OpenSpec.upto fnExactStarMeshSpec)

/-- 'laws.FnExactDropNode', WHERE WHAT IT READS IS OF BULK AT MOST 1048576: true; the input reads as it did. -/
def fnExactDropNodeUptoRow : OpenClaim := { program := "ytfjnflohpmpoeaa", sum := "1aeb95aa5c3b6f8a83d3d8736bf71b586243974c3c2c31f7a1d02678e7361e4d", func := "loop.example/g00859/laws.FnExactDropNode", spec := "fnExactDropNode", apart := false, narrowed := true }
def FnExactDropNodeUptoSaid : Prop := fnExactDropNodeUptoRow.holds Try.pinned (OpenSpec.upto fnExactDropNodeSpec)

/-- 'laws.FnExactMeshAll', WHERE WHAT IT READS IS OF BULK AT MOST 1048576: true; the input reads as it did. -/
def fnExactMeshAllUptoRow : OpenClaim := { program := "ytfjnflohpmpoeaa", sum := "1aeb95aa5c3b6f8a83d3d8736bf71b586243974c3c2c31f7a1d02678e7361e4d", func := "loop.example/g00859/laws.FnExactMeshAll", spec := "fnExactMeshAll", apart := false, narrowed := true }
def FnExactMeshAllUptoSaid : Prop := fnExactMeshAllUptoRow.holds Try.pinned (OpenSpec.upto fnExactMeshAllSpec)

/-- 'laws.FnExactReduceAll', WHERE WHAT IT READS IS OF BULK AT MOST 1048576: true; the input reads as it did. -/
def fnExactReduceAllUptoRow : OpenClaim := { program := "ytfjnflohpmpoeaa", sum := "1aeb95aa5c3b6f8a83d3d8736bf71b586243974c3c2c31f7a1d02678e7361e4d", func := "loop.example/g00859/laws.FnExactReduceAll", spec := "fnExactReduceAll", apart := false, narrowed := true }
def FnExactReduceAllUptoSaid : Prop := fnExactReduceAllUptoRow.holds Try.pinned (OpenSpec.upto fnExactReduceAllSpec)

/-- 'laws.FnExactIsReducible', WHERE WHAT IT READS IS OF BULK AT MOST 1048576: true; the input reads as it did. -/
def fnExactIsReducibleUptoRow : OpenClaim := { program := "ytfjnflohpmpoeaa", sum := "1aeb95aa5c3b6f8a83d3d8736bf71b586243974c3c2c31f7a1d02678e7361e4d", func := "loop.example/g00859/laws.FnExactIsReducible", spec := "fnExactIsReducible", apart := false, narrowed := true }
def FnExactIsReducibleUptoSaid : Prop := fnExactIsReducibleUptoRow.holds Try.pinned (OpenSpec.upto fnExactIsReducibleSpec)

/-- 'laws.FnExactResponseOf', WHERE WHAT IT READS IS OF BULK AT MOST 1048576: true; the input reads as it did. -/
def fnExactResponseOfUptoRow : OpenClaim := { program := "ytfjnflohpmpoeaa", sum := "1aeb95aa5c3b6f8a83d3d8736bf71b586243974c3c2c31f7a1d02678e7361e4d", func := "loop.example/g00859/laws.FnExactResponseOf", spec := "fnExactResponseOf", recurses := true, apart := false, narrowed := true }
def FnExactResponseOfUptoSaid : Prop := fnExactResponseOfUptoRow.holds Try.pinned (OpenSpec.upto fnExactResponseOfSpec)

/-- 'laws.FnExactCurrentsFor', WHERE WHAT IT READS IS OF BULK AT MOST 1048576: true; the input reads as it did. -/
def fnExactCurrentsForUptoRow : OpenClaim := { program := "ytfjnflohpmpoeaa", sum := "1aeb95aa5c3b6f8a83d3d8736bf71b586243974c3c2c31f7a1d02678e7361e4d", func := "loop.example/g00859/laws.FnExactCurrentsFor", spec := "fnExactCurrentsFor", recurses := true, apart := false, narrowed := true }
def FnExactCurrentsForUptoSaid : Prop := fnExactCurrentsForUptoRow.holds Try.pinned (OpenSpec.upto fnExactCurrentsForSpec)

/-- 'laws.FnExactPowerFor', WHERE WHAT IT READS IS OF BULK AT MOST 1048576: true; the input reads as it did. -/
def fnExactPowerForUptoRow : OpenClaim := { program := "ytfjnflohpmpoeaa", sum := "1aeb95aa5c3b6f8a83d3d8736bf71b586243974c3c2c31f7a1d02678e7361e4d", func := "loop.example/g00859/laws.FnExactPowerFor", spec := "fnExactPowerFor", recurses := true, apart := false, narrowed := true }
def FnExactPowerForUptoSaid : Prop := fnExactPowerForUptoRow.holds Try.pinned (OpenSpec.upto fnExactPowerForSpec)

/-- 'laws.FnExactCircularMinor', WHERE WHAT IT READS IS OF BULK AT MOST 1048576: true; the input reads as it did. -/
def fnExactCircularMinorUptoRow : OpenClaim := { program := "ytfjnflohpmpoeaa", sum := "1aeb95aa5c3b6f8a83d3d8736bf71b586243974c3c2c31f7a1d02678e7361e4d", func := "loop.example/g00859/laws.FnExactCircularMinor", spec := "fnExactCircularMinor", recurses := true, apart := false, narrowed := true }
def FnExactCircularMinorUptoSaid : Prop := fnExactCircularMinorUptoRow.holds Try.pinned (OpenSpec.upto fnExactCircularMinorSpec)

end Rows
end Go.Proofs.Ytfjnflohpmpoeaa
