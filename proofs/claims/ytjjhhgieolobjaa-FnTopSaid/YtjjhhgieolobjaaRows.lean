/-
  No cell of these rows narrows 'for every input' (looked for: loops, veiled, ifaces, maps, wideKeys, modest, calm, conditions, laid).
  DERIVED. THE GIVEN ROWS OF THIS SEAT. 11 by the template 'for every input the law returns true; each argument reads behind the call as it read before'; 0 by the template 'total and deterministic' (their statements: YtjjhhgieolobjaaTotals.lean).
  GIVEN WITH THE SEED: the statements are not yours to turn. If you find one false, say at which input.
  Laid BY PROGRAM, IN A SANDBOX (cutbox-rows.mjs): the forced cells as the released guide's own fill.sh prints them over the translation 60f32bb6f268c9c6… (all of the seat's roots in one cut). By AI agents, Wed Nov 11 2026. No macro, syntax, notation, axiom, sorry.
-/
import Derived.Test.YtjjhhgieolobjaaChecked
import GoSem.Claim
import GoSem.ClaimJoined
import GoSem.ClaimMapViews
import Derived.JoinedTies
import Derived.KernelRfl
namespace Go.Proofs.Ytjjhhgieolobjaa
/- THE CELL 'sum', in the pinned program and in every row, IS THE sha256 OF THE DUMP (.gsa) THAT YtjjhhgieolobjaaProg.lean LOADS. Nothing in Lean hashes anything: it is a label: what it is worth is what the hold of that sum in a sandbox is worth. -/
noncomputable def Try.pinned : Pinned := { name := "ytjjhhgieolobjaa", sum := "60f32bb6f268c9c603ff0748e304ed31b45c38bf9fb67906fcbc5d328dcdad04", checked := Try.checked }
namespace Rows
def none {H : Type} : Left H := { results := [], args := [] }

/-- 'laws.FnSwitched': WHATEVER THE INPUT: true; the input reads as it did. -/
def fnSwitchedSpec : ChangeSpec := { name := "fnSwitched", fn := fun _ => fun
  | [d] => { results := [.lit (.bool true)], args := [d] }
  | _ => none }
def fnSwitchedRow : OpenClaim := { program := "ytjjhhgieolobjaa", sum := "60f32bb6f268c9c603ff0748e304ed31b45c38bf9fb67906fcbc5d328dcdad04", func := "loop.example/g00859/laws.FnSwitched", spec := "fnSwitched", recurses := true, apart := false }
def FnSwitchedSaid : Prop := fnSwitchedRow.holds Try.pinned (OpenSpec.ofChange fnSwitchedSpec)

/-- ITS FALSE NEIGHBOUR: 'it returns false'. Refute it at one input. -/
def fnSwitchedWrong : ChangeSpec := { name := "fnSwitched", fn := fun _ => fun
  | [d] => { results := [.lit (.bool false)], args := [d] }
  | _ => none }
def FnSwitchedWrongFalsely : Prop := fnSwitchedRow.holds Try.pinned (OpenSpec.ofChange fnSwitchedWrong)

/-- 'laws.FnTrees': WHATEVER THE INPUT: true; the input reads as it did. -/
def fnTreesSpec : ChangeSpec := { name := "fnTrees", fn := fun _ => fun
  | [d] => { results := [.lit (.bool true)], args := [d] }
  | _ => none }
def fnTreesRow : OpenClaim := { program := "ytjjhhgieolobjaa", sum := "60f32bb6f268c9c603ff0748e304ed31b45c38bf9fb67906fcbc5d328dcdad04", func := "loop.example/g00859/laws.FnTrees", spec := "fnTrees", recurses := true, apart := false }
def FnTreesSaid : Prop := fnTreesRow.holds Try.pinned (OpenSpec.ofChange fnTreesSpec)

/-- ITS FALSE NEIGHBOUR: 'it returns false'. Refute it at one input. -/
def fnTreesWrong : ChangeSpec := { name := "fnTrees", fn := fun _ => fun
  | [d] => { results := [.lit (.bool false)], args := [d] }
  | _ => none }
def FnTreesWrongFalsely : Prop := fnTreesRow.holds Try.pinned (OpenSpec.ofChange fnTreesWrong)

/-- 'laws.FnRanges': WHATEVER THE INPUT: true; the input reads as it did. -/
def fnRangesSpec : ChangeSpec := { name := "fnRanges", fn := fun _ => fun
  | [d] => { results := [.lit (.bool true)], args := [d] }
  | _ => none }
def fnRangesRow : OpenClaim := { program := "ytjjhhgieolobjaa", sum := "60f32bb6f268c9c603ff0748e304ed31b45c38bf9fb67906fcbc5d328dcdad04", func := "loop.example/g00859/laws.FnRanges", spec := "fnRanges", recurses := true, apart := false }
def FnRangesSaid : Prop := fnRangesRow.holds Try.pinned (OpenSpec.ofChange fnRangesSpec)

/-- ITS FALSE NEIGHBOUR: 'it returns false'. Refute it at one input. -/
def fnRangesWrong : ChangeSpec := { name := "fnRanges", fn := fun _ => fun
  | [d] => { results := [.lit (.bool false)], args := [d] }
  | _ => none }
def FnRangesWrongFalsely : Prop := fnRangesRow.holds Try.pinned (OpenSpec.ofChange fnRangesWrong)

/-- 'laws.FnRayleigh': WHATEVER THE INPUT: true; the input reads as it did. -/
def fnRayleighSpec : ChangeSpec := { name := "fnRayleigh", fn := fun _ => fun
  | [d] => { results := [.lit (.bool true)], args := [d] }
  | _ => none }
def fnRayleighRow : OpenClaim := { program := "ytjjhhgieolobjaa", sum := "60f32bb6f268c9c603ff0748e304ed31b45c38bf9fb67906fcbc5d328dcdad04", func := "loop.example/g00859/laws.FnRayleigh", spec := "fnRayleigh", recurses := true, apart := false }
def FnRayleighSaid : Prop := fnRayleighRow.holds Try.pinned (OpenSpec.ofChange fnRayleighSpec)

/-- ITS FALSE NEIGHBOUR: 'it returns false'. Refute it at one input. -/
def fnRayleighWrong : ChangeSpec := { name := "fnRayleigh", fn := fun _ => fun
  | [d] => { results := [.lit (.bool false)], args := [d] }
  | _ => none }
def FnRayleighWrongFalsely : Prop := fnRayleighRow.holds Try.pinned (OpenSpec.ofChange fnRayleighWrong)

/-- 'laws.FnSeries': WHATEVER THE INPUT: true; the input reads as it did. -/
def fnSeriesSpec : ChangeSpec := { name := "fnSeries", fn := fun _ => fun
  | [d] => { results := [.lit (.bool true)], args := [d] }
  | _ => none }
def fnSeriesRow : OpenClaim := { program := "ytjjhhgieolobjaa", sum := "60f32bb6f268c9c603ff0748e304ed31b45c38bf9fb67906fcbc5d328dcdad04", func := "loop.example/g00859/laws.FnSeries", spec := "fnSeries", unfollowed := true, recurses := true, apart := false }
def FnSeriesSaid : Prop := fnSeriesRow.holds Try.pinned (OpenSpec.ofChange fnSeriesSpec)

/-- ITS FALSE NEIGHBOUR: 'it returns false'. Refute it at one input. -/
def fnSeriesWrong : ChangeSpec := { name := "fnSeries", fn := fun _ => fun
  | [d] => { results := [.lit (.bool false)], args := [d] }
  | _ => none }
def FnSeriesWrongFalsely : Prop := fnSeriesRow.holds Try.pinned (OpenSpec.ofChange fnSeriesWrong)

/-- 'laws.FnAlike': WHATEVER THE INPUT: true; the input reads as it did. -/
def fnAlikeSpec : ChangeSpec := { name := "fnAlike", fn := fun _ => fun
  | [d] => { results := [.lit (.bool true)], args := [d] }
  | _ => none }
def fnAlikeRow : OpenClaim := { program := "ytjjhhgieolobjaa", sum := "60f32bb6f268c9c603ff0748e304ed31b45c38bf9fb67906fcbc5d328dcdad04", func := "loop.example/g00859/laws.FnAlike", spec := "fnAlike", unfollowed := true, recurses := true, apart := false }
def FnAlikeSaid : Prop := fnAlikeRow.holds Try.pinned (OpenSpec.ofChange fnAlikeSpec)

/-- ITS FALSE NEIGHBOUR: 'it returns false'. Refute it at one input. -/
def fnAlikeWrong : ChangeSpec := { name := "fnAlike", fn := fun _ => fun
  | [d] => { results := [.lit (.bool false)], args := [d] }
  | _ => none }
def FnAlikeWrongFalsely : Prop := fnAlikeRow.holds Try.pinned (OpenSpec.ofChange fnAlikeWrong)

/-- 'laws.FnTop': WHATEVER THE INPUT: true; the input reads as it did. -/
def fnTopSpec : ChangeSpec := { name := "fnTop", fn := fun _ => fun
  | [d] => { results := [.lit (.bool true)], args := [d] }
  | _ => none }
def fnTopRow : OpenClaim := { program := "ytjjhhgieolobjaa", sum := "60f32bb6f268c9c603ff0748e304ed31b45c38bf9fb67906fcbc5d328dcdad04", func := "loop.example/g00859/laws.FnTop", spec := "fnTop", unfollowed := true, recurses := true, apart := false }
def FnTopSaid : Prop := fnTopRow.holds Try.pinned (OpenSpec.ofChange fnTopSpec)

/-- ITS FALSE NEIGHBOUR: 'it returns false'. Refute it at one input. -/
def fnTopWrong : ChangeSpec := { name := "fnTop", fn := fun _ => fun
  | [d] => { results := [.lit (.bool false)], args := [d] }
  | _ => none }
def FnTopWrongFalsely : Prop := fnTopRow.holds Try.pinned (OpenSpec.ofChange fnTopWrong)

/-- 'laws.FnStars': WHATEVER THE INPUT: true; the input reads as it did. -/
def fnStarsSpec : ChangeSpec := { name := "fnStars", fn := fun _ => fun
  | [d] => { results := [.lit (.bool true)], args := [d] }
  | _ => none }
def fnStarsRow : OpenClaim := { program := "ytjjhhgieolobjaa", sum := "60f32bb6f268c9c603ff0748e304ed31b45c38bf9fb67906fcbc5d328dcdad04", func := "loop.example/g00859/laws.FnStars", spec := "fnStars", unfollowed := true, recurses := true, apart := false }
def FnStarsSaid : Prop := fnStarsRow.holds Try.pinned (OpenSpec.ofChange fnStarsSpec)

/-- ITS FALSE NEIGHBOUR: 'it returns false'. Refute it at one input. -/
def fnStarsWrong : ChangeSpec := { name := "fnStars", fn := fun _ => fun
  | [d] => { results := [.lit (.bool false)], args := [d] }
  | _ => none }
def FnStarsWrongFalsely : Prop := fnStarsRow.holds Try.pinned (OpenSpec.ofChange fnStarsWrong)

/-- 'laws.FnTriangles': WHATEVER THE INPUT: true; the input reads as it did. -/
def fnTrianglesSpec : ChangeSpec := { name := "fnTriangles", fn := fun _ => fun
  | [d] => { results := [.lit (.bool true)], args := [d] }
  | _ => none }
def fnTrianglesRow : OpenClaim := { program := "ytjjhhgieolobjaa", sum := "60f32bb6f268c9c603ff0748e304ed31b45c38bf9fb67906fcbc5d328dcdad04", func := "loop.example/g00859/laws.FnTriangles", spec := "fnTriangles", unfollowed := true, recurses := true, apart := false }
def FnTrianglesSaid : Prop := fnTrianglesRow.holds Try.pinned (OpenSpec.ofChange fnTrianglesSpec)

/-- ITS FALSE NEIGHBOUR: 'it returns false'. Refute it at one input. -/
def fnTrianglesWrong : ChangeSpec := { name := "fnTriangles", fn := fun _ => fun
  | [d] => { results := [.lit (.bool false)], args := [d] }
  | _ => none }
def FnTrianglesWrongFalsely : Prop := fnTrianglesRow.holds Try.pinned (OpenSpec.ofChange fnTrianglesWrong)

/-- 'laws.FnRecovered': WHATEVER THE INPUT: true; the input reads as it did. -/
def fnRecoveredSpec : ChangeSpec := { name := "fnRecovered", fn := fun _ => fun
  | [d] => { results := [.lit (.bool true)], args := [d] }
  | _ => none }
def fnRecoveredRow : OpenClaim := { program := "ytjjhhgieolobjaa", sum := "60f32bb6f268c9c603ff0748e304ed31b45c38bf9fb67906fcbc5d328dcdad04", func := "loop.example/g00859/laws.FnRecovered", spec := "fnRecovered", unfollowed := true, recurses := true, apart := false }
def FnRecoveredSaid : Prop := fnRecoveredRow.holds Try.pinned (OpenSpec.ofChange fnRecoveredSpec)

/-- ITS FALSE NEIGHBOUR: 'it returns false'. Refute it at one input. -/
def fnRecoveredWrong : ChangeSpec := { name := "fnRecovered", fn := fun _ => fun
  | [d] => { results := [.lit (.bool false)], args := [d] }
  | _ => none }
def FnRecoveredWrongFalsely : Prop := fnRecoveredRow.holds Try.pinned (OpenSpec.ofChange fnRecoveredWrong)

/-- 'laws.FnDisks': WHATEVER THE INPUT: true; the input reads as it did. -/
def fnDisksSpec : ChangeSpec := { name := "fnDisks", fn := fun _ => fun
  | [d] => { results := [.lit (.bool true)], args := [d] }
  | _ => none }
def fnDisksRow : OpenClaim := { program := "ytjjhhgieolobjaa", sum := "60f32bb6f268c9c603ff0748e304ed31b45c38bf9fb67906fcbc5d328dcdad04", func := "loop.example/g00859/laws.FnDisks", spec := "fnDisks", recurses := true, apart := false }
def FnDisksSaid : Prop := fnDisksRow.holds Try.pinned (OpenSpec.ofChange fnDisksSpec)

/-- ITS FALSE NEIGHBOUR: 'it returns false'. Refute it at one input. -/
def fnDisksWrong : ChangeSpec := { name := "fnDisks", fn := fun _ => fun
  | [d] => { results := [.lit (.bool false)], args := [d] }
  | _ => none }
def FnDisksWrongFalsely : Prop := fnDisksRow.holds Try.pinned (OpenSpec.ofChange fnDisksWrong)

/- THE SECOND FORM. 'bulk': how many values and letters a reading holds, each counted each time it is reached (what is shared counts as often as it is met; a slice's spare places count too). A statement '..UptoSaid' is the law's where the arguments, and the package variables that the reading takes, are together of bulk at most 1048576: NARROWER than '..Said'. Prove '..Said' where nothing that the law and all that it calls make is longer than what came in: it says more and counts as full. Else prove '..UptoSaid'. A law counts once. -/
mutual
def uptoBulk {H : Type} : DataW H → Nat
  | .lit (.string bytes) => bytes.length + 1
  | .lit _ => 1
  | .nil => 1
  | .ptr d => uptoBulk d + 1
  | .slice elems spare => uptoBulkAll elems + uptoBulkAll spare + 1
  | .agg parts => uptoBulkAll parts + 1
  | .iface _ d => uptoBulk d + 1
  | .map entries => uptoBulkEntries entries + 1
  | .held _ => 1
def uptoBulkAll {H : Type} : List (DataW H) → Nat
  | [] => 0
  | d :: r => uptoBulk d + uptoBulkAll r
def uptoBulkEntries {H : Type} : List (Lit × DataW H) → Nat
  | [] => 0
  | x :: r => uptoBulkEntry x + uptoBulkEntries r
def uptoBulkEntry {H : Type} : Lit × DataW H → Nat
  | (.string bytes, d) => bytes.length + uptoBulk d + 1
  | (_, d) => uptoBulk d + 1
 end
def uptoSmall : (H : Type) → List (DataW H) → Bool := fun _ ds => decide (uptoBulkAll ds ≤ 1048576)
def OpenSpec.upto (s : _root_.Go.ChangeSpec) : _root_.Go.OpenSpec := { _root_.Go.OpenSpec.ofChange s with cond := some uptoSmall }

/-- 'laws.FnSwitched', WHERE WHAT IT READS IS OF BULK AT MOST 1048576: true; the input reads as it did. -/
def fnSwitchedUptoRow : OpenClaim := { program := "ytjjhhgieolobjaa", sum := "60f32bb6f268c9c603ff0748e304ed31b45c38bf9fb67906fcbc5d328dcdad04", func := "loop.example/g00859/laws.FnSwitched", spec := "fnSwitched", recurses := true, apart := false, narrowed := true }
def FnSwitchedUptoSaid : Prop := fnSwitchedUptoRow.holds Try.pinned (OpenSpec.upto fnSwitchedSpec)

/-- 'laws.FnTrees', WHERE WHAT IT READS IS OF BULK AT MOST 1048576: true; the input reads as it did. -/
def fnTreesUptoRow : OpenClaim := { program := "ytjjhhgieolobjaa", sum := "60f32bb6f268c9c603ff0748e304ed31b45c38bf9fb67906fcbc5d328dcdad04", func := "loop.example/g00859/laws.FnTrees", spec := "fnTrees", recurses := true, apart := false, narrowed := true }
def FnTreesUptoSaid : Prop := fnTreesUptoRow.holds Try.pinned (OpenSpec.upto fnTreesSpec)

/-- 'laws.FnRanges', WHERE WHAT IT READS IS OF BULK AT MOST 1048576: true; the input reads as it did. -/
def fnRangesUptoRow : OpenClaim := { program := "ytjjhhgieolobjaa", sum := "60f32bb6f268c9c603ff0748e304ed31b45c38bf9fb67906fcbc5d328dcdad04", func := "loop.example/g00859/laws.FnRanges", spec := "fnRanges", recurses := true, apart := false, narrowed := true }
def FnRangesUptoSaid : Prop := fnRangesUptoRow.holds Try.pinned (OpenSpec.upto fnRangesSpec)

/-- 'laws.FnRayleigh', WHERE WHAT IT READS IS OF BULK AT MOST 1048576: true; the input reads as it did. -/
def fnRayleighUptoRow : OpenClaim := { program := "ytjjhhgieolobjaa", sum := "60f32bb6f268c9c603ff0748e304ed31b45c38bf9fb67906fcbc5d328dcdad04", func := "loop.example/g00859/laws.FnRayleigh", spec := "fnRayleigh", recurses := true, apart := false, narrowed := true }
def FnRayleighUptoSaid : Prop := fnRayleighUptoRow.holds Try.pinned (OpenSpec.upto fnRayleighSpec)

/-- 'laws.FnSeries', WHERE WHAT IT READS IS OF BULK AT MOST 1048576: true; the input reads as it did. -/
def fnSeriesUptoRow : OpenClaim := { program := "ytjjhhgieolobjaa", sum := "60f32bb6f268c9c603ff0748e304ed31b45c38bf9fb67906fcbc5d328dcdad04", func := "loop.example/g00859/laws.FnSeries", spec := "fnSeries", unfollowed := true, recurses := true, apart := false, narrowed := true }
def FnSeriesUptoSaid : Prop := fnSeriesUptoRow.holds Try.pinned (OpenSpec.upto fnSeriesSpec)

/-- 'laws.FnAlike', WHERE WHAT IT READS IS OF BULK AT MOST 1048576: true; the input reads as it did. -/
def fnAlikeUptoRow : OpenClaim := { program := "ytjjhhgieolobjaa", sum := "60f32bb6f268c9c603ff0748e304ed31b45c38bf9fb67906fcbc5d328dcdad04", func := "loop.example/g00859/laws.FnAlike", spec := "fnAlike", unfollowed := true, recurses := true, apart := false, narrowed := true }
def FnAlikeUptoSaid : Prop := fnAlikeUptoRow.holds Try.pinned (OpenSpec.upto fnAlikeSpec)

/-- 'laws.FnTop', WHERE WHAT IT READS IS OF BULK AT MOST 1048576: true; the input reads as it did. -/
def fnTopUptoRow : OpenClaim := { program := "ytjjhhgieolobjaa", sum := "60f32bb6f268c9c603ff0748e304ed31b45c38bf9fb67906fcbc5d328dcdad04", func := "loop.example/g00859/laws.FnTop", spec := "fnTop", unfollowed := true, recurses := true, apart := false, narrowed := true }
def FnTopUptoSaid : Prop := fnTopUptoRow.holds Try.pinned (OpenSpec.upto fnTopSpec)

/-- 'laws.FnStars', WHERE WHAT IT READS IS OF BULK AT MOST 1048576: true; the input reads as it did. -/
def fnStarsUptoRow : OpenClaim := { program := "ytjjhhgieolobjaa", sum := "60f32bb6f268c9c603ff0748e304ed31b45c38bf9fb67906fcbc5d328dcdad04", func := "loop.example/g00859/laws.FnStars", spec := "fnStars", unfollowed := true, recurses := true, apart := false, narrowed := true }
def FnStarsUptoSaid : Prop := fnStarsUptoRow.holds Try.pinned (OpenSpec.upto fnStarsSpec)

/-- 'laws.FnTriangles', WHERE WHAT IT READS IS OF BULK AT MOST 1048576: true; the input reads as it did. -/
def fnTrianglesUptoRow : OpenClaim := { program := "ytjjhhgieolobjaa", sum := "60f32bb6f268c9c603ff0748e304ed31b45c38bf9fb67906fcbc5d328dcdad04", func := "loop.example/g00859/laws.FnTriangles", spec := "fnTriangles", unfollowed := true, recurses := true, apart := false, narrowed := true }
def FnTrianglesUptoSaid : Prop := fnTrianglesUptoRow.holds Try.pinned (OpenSpec.upto fnTrianglesSpec)

/-- 'laws.FnRecovered', WHERE WHAT IT READS IS OF BULK AT MOST 1048576: true; the input reads as it did. -/
def fnRecoveredUptoRow : OpenClaim := { program := "ytjjhhgieolobjaa", sum := "60f32bb6f268c9c603ff0748e304ed31b45c38bf9fb67906fcbc5d328dcdad04", func := "loop.example/g00859/laws.FnRecovered", spec := "fnRecovered", unfollowed := true, recurses := true, apart := false, narrowed := true }
def FnRecoveredUptoSaid : Prop := fnRecoveredUptoRow.holds Try.pinned (OpenSpec.upto fnRecoveredSpec)

/-- 'laws.FnDisks', WHERE WHAT IT READS IS OF BULK AT MOST 1048576: true; the input reads as it did. -/
def fnDisksUptoRow : OpenClaim := { program := "ytjjhhgieolobjaa", sum := "60f32bb6f268c9c603ff0748e304ed31b45c38bf9fb67906fcbc5d328dcdad04", func := "loop.example/g00859/laws.FnDisks", spec := "fnDisks", recurses := true, apart := false, narrowed := true }
def FnDisksUptoSaid : Prop := fnDisksUptoRow.holds Try.pinned (OpenSpec.upto fnDisksSpec)

end Rows
end Go.Proofs.Ytjjhhgieolobjaa
