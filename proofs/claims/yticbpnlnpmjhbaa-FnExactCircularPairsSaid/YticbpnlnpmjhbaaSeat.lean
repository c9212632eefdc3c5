/- The functions keep their contracts. Conditions: none. -/
import Derived.Test.YticbpnlnpmjhbaaRes
import Derived.Shelf.Slices.Reverse
import Derived.Test.YticbpnlnpmjhbaaProg
/- The functions of the program compute what was printed. Conditions: none. -/
namespace Go.Sx.S
open Go Go.Sx Go.Sx.R
def int : Ty := .num .i64
def wire : Ty := .pair int (.pair int int)
def net : Ty := .pair int (.pair int (.pair int (.slice wire)))
def ratio : Ty := .pair int int
def fault : Ty := .pair int int

def tys : List (Nat × Ty) := [(3, int), (4, .bool), (5, (.num .u8)), (21, (.num .i32)), (22, (.slice (.slice ratio))), (24, (.slice ratio)), (27, (.slice (.slice ratio))), (35, (.slice wire)), (37, net), (39, (.slice int)), (41, (.slice wire)), (43, net), (50, (.slice (.slice (.slice int)))), (56, (.slice ratio)), (58, ratio), (71, wire), (73, (.slice .bool)), (77, (.slice (.slice int))), (85, ratio), (91, wire), (102, (.num .u64)), (117, (.num .u32))]
theorem table (sp : List (Nat × FnSpec)) (mu : List (Nat × MutSpec)) : tableB Go.Proofs.Try.prog ⟨tys, [], sp, mu⟩ tys = true := by kernel_rfl
theorem mixed : Go.Proofs.Try.prog.follows .mixedOrders = true := by kernel_rfl
-- spec_l01In
def E52 : Env := ⟨tys, [], [], []⟩
def A52 (_N : Nat) : List (Nat × Loop (Ty.den .bool)) := []
theorem K52 (N : Nat) (a0 : Int) (a1 : Int) (a2 : Int) : fnK N (E52) Go.Proofs.Try.f52 [int, int, int] .bool (A52 N) (a0, a1, a2, ()) = r_spec_l01In N a0 a1 a2 := by kernel_rfl
theorem L52 (N : Nat) : LoopsOk N (E52) (A52 N) Go.Proofs.Try.f52.ntmps (retOf (E52) Go.Proofs.Try.f52 .bool) (loopsOf (Go.Proofs.Try.f52.body.getD .skip)) :=
  LoopsOk.of (l := []) (by kernel_rfl) .nil
theorem There52 : There Go.Proofs.Try.prog 52 := ⟨_, Go.Proofs.Try.func52, by kernel_rfl, by kernel_rfl⟩
theorem C52 {f : (Int × Int × Int × Unit → Option Bool)} (h : ∀ a0 a1 a2 r, f (a0, a1, a2, ()) = some r → ∃ N, r_spec_l01In N a0 a1 a2 = some r) : Contract Go.Proofs.Try.prog 52 ⟨[int, int, int], .bool, f⟩ := by
  refine contract (E := E52) (envOf table trivial trivial) mixed Go.Proofs.Try.func52 (c := Go.Proofs.Try.f52.body.getD .skip) (by kernel_rfl) (Nat.le_of_ble_eq_true (by kernel_rfl)) fun xs r hr => ?_
  obtain ⟨a0, a1, a2, _⟩ := xs
  obtain ⟨N, hN⟩ := h _ _ _ r hr
  exact ⟨N, A52 N, L52 N, (K52 N a0 a1 a2).trans hN⟩
theorem X52 : Contract Go.Proofs.Try.prog 52 ⟨[int, int, int], .bool, e_spec_l01In⟩ := C52 fun _ _ _ _ h => ⟨N0, h⟩
-- spec_l03Has
def E79 : Env := ⟨tys, [], [], []⟩
def A79 (N : Nat) : List (Nat × Loop (Ty.den .bool)) := [(0, ⟨[(1, .ro none (.num .i64)), (7, .ro none (.slice (.num .i64))), (8, .ro none (.num .i64)), (9, .ro none (.num .i64))], r_spec_l03Has_L0 N⟩)]
theorem K79 (N : Nat) (a0 : (List Int)) (a1 : Int) : fnK N (E79) Go.Proofs.Try.f79 [(.slice int), int] .bool (A79 N) (a0, a1, ()) = r_spec_l03Has N a0 a1 := by kernel_rfl
theorem L79 (N : Nat) : LoopsOk N (E79) (A79 N) Go.Proofs.Try.f79.ntmps (retOf (E79) Go.Proofs.Try.f79 .bool) (loopsOf (Go.Proofs.Try.f79.body.getD .skip)) :=
  LoopsOk.of (l := [(0, lb Go.Proofs.Try.f79 0)]) (by kernel_rfl) (.cons (L := ⟨[(1, .ro none (.num .i64)), (7, .ro none (.slice (.num .i64))), (8, .ro none (.num .i64)), (9, .ro none (.num .i64))], r_spec_l03Has_L0 N⟩) (by kernel_rfl) (by intro s kc ke env; kernel_rfl) .nil)
theorem There79 : There Go.Proofs.Try.prog 79 := ⟨_, Go.Proofs.Try.func79, by kernel_rfl, by kernel_rfl⟩
theorem C79 {f : ((List Int) × Int × Unit → Option Bool)} (h : ∀ a0 a1 r, f (a0, a1, ()) = some r → ∃ N, r_spec_l03Has N a0 a1 = some r) : Contract Go.Proofs.Try.prog 79 ⟨[(.slice int), int], .bool, f⟩ := by
  refine contract (E := E79) (envOf table trivial trivial) mixed Go.Proofs.Try.func79 (c := Go.Proofs.Try.f79.body.getD .skip) (by kernel_rfl) (Nat.le_of_ble_eq_true (by kernel_rfl)) fun xs r hr => ?_
  obtain ⟨a0, a1, _⟩ := xs
  obtain ⟨N, hN⟩ := h _ _ r hr
  exact ⟨N, A79 N, L79 N, (K79 N a0 a1).trans hN⟩
theorem X79 : Contract Go.Proofs.Try.prog 79 ⟨[(.slice int), int], .bool, e_spec_l03Has⟩ := C79 fun _ _ _ h => ⟨N0, h⟩
-- spec_l09Lists
def E53 (c_spec_l03Has : ((List Int) × Int × Unit → Option Bool)) : Env := ⟨tys, [], [(79, ⟨[(.slice int), int], .bool, c_spec_l03Has⟩)], []⟩
def A53 (c_spec_l03Has : ((List Int) × Int × Unit → Option Bool)) (N : Nat) : List (Nat × Loop (Ty.den (.slice (.slice int)))) := [(0, ⟨[(0, .ro none (.num .i64)), (1, .ro none (.num .i64)), (5, .own (.slice (.slice (.num .i64)))), (6, .ro none (.num .i64))], r_spec_l09Lists_L0 c_spec_l03Has N⟩), (2, ⟨[(0, .ro none (.num .i64)), (1, .ro none (.num .i64)), (6, .ro none (.num .i64)), (7, .own (.slice (.slice (.num .i64)))), (19, .ro (some 5) (.slice (.slice (.num .i64)))), (20, .ro none (.num .i64)), (21, .ro none (.num .i64))], r_spec_l09Lists_L2 c_spec_l03Has N⟩), (4, ⟨[(0, .ro none (.num .i64)), (1, .ro none (.num .i64)), (6, .ro none (.num .i64)), (7, .own (.slice (.slice (.num .i64)))), (9, .ro (some 5) (.slice (.num .i64))), (10, .ro none (.num .i64)), (19, .ro (some 5) (.slice (.slice (.num .i64)))), (20, .ro none (.num .i64)), (21, .ro none (.num .i64))], r_spec_l09Lists_L4 c_spec_l03Has N⟩)]
theorem K53 (c_spec_l03Has : ((List Int) × Int × Unit → Option Bool)) (N : Nat) (a0 : Int) (a1 : Int) : fnK N (E53 c_spec_l03Has) Go.Proofs.Try.f53 [int, int] (.slice (.slice int)) (A53 c_spec_l03Has N) (a0, a1, ()) = r_spec_l09Lists c_spec_l03Has N a0 a1 := by kernel_rfl
theorem L53 (c_spec_l03Has : ((List Int) × Int × Unit → Option Bool)) (N : Nat) : LoopsOk N (E53 c_spec_l03Has) (A53 c_spec_l03Has N) Go.Proofs.Try.f53.ntmps (retOf (E53 c_spec_l03Has) Go.Proofs.Try.f53 (.slice (.slice int))) (loopsOf (Go.Proofs.Try.f53.body.getD .skip)) :=
  LoopsOk.of (l := [(0, lb Go.Proofs.Try.f53 0), (2, lb Go.Proofs.Try.f53 1), (4, lb Go.Proofs.Try.f53 2)]) (by kernel_rfl) (.cons (L := ⟨[(0, .ro none (.num .i64)), (1, .ro none (.num .i64)), (5, .own (.slice (.slice (.num .i64)))), (6, .ro none (.num .i64))], r_spec_l09Lists_L0 c_spec_l03Has N⟩) (by kernel_rfl) (by intro s kc ke env; kernel_rfl) (.cons (L := ⟨[(0, .ro none (.num .i64)), (1, .ro none (.num .i64)), (6, .ro none (.num .i64)), (7, .own (.slice (.slice (.num .i64)))), (19, .ro (some 5) (.slice (.slice (.num .i64)))), (20, .ro none (.num .i64)), (21, .ro none (.num .i64))], r_spec_l09Lists_L2 c_spec_l03Has N⟩) (by kernel_rfl) (by intro s kc ke env; kernel_rfl) (.cons (L := ⟨[(0, .ro none (.num .i64)), (1, .ro none (.num .i64)), (6, .ro none (.num .i64)), (7, .own (.slice (.slice (.num .i64)))), (9, .ro (some 5) (.slice (.num .i64))), (10, .ro none (.num .i64)), (19, .ro (some 5) (.slice (.slice (.num .i64)))), (20, .ro none (.num .i64)), (21, .ro none (.num .i64))], r_spec_l09Lists_L4 c_spec_l03Has N⟩) (by kernel_rfl) (by intro s kc ke env; kernel_rfl) .nil)))
theorem There53 : There Go.Proofs.Try.prog 53 := ⟨_, Go.Proofs.Try.func53, by kernel_rfl, by kernel_rfl⟩
theorem C53 {c_spec_l03Has : ((List Int) × Int × Unit → Option Bool)} (h_c_spec_l03Has : Contract Go.Proofs.Try.prog 79 ⟨[(.slice int), int], .bool, c_spec_l03Has⟩) {f : (Int × Int × Unit → Option (List (List Int)))} (h : ∀ a0 a1 r, f (a0, a1, ()) = some r → ∃ N, r_spec_l09Lists c_spec_l03Has N a0 a1 = some r) : Contract Go.Proofs.Try.prog 53 ⟨[int, int], (.slice (.slice int)), f⟩ := by
  refine contract (E := E53 c_spec_l03Has) (envOf table ⟨⟨h_c_spec_l03Has, There79⟩, trivial⟩ trivial) mixed Go.Proofs.Try.func53 (c := Go.Proofs.Try.f53.body.getD .skip) (by kernel_rfl) (Nat.le_of_ble_eq_true (by kernel_rfl)) fun xs r hr => ?_
  obtain ⟨a0, a1, _⟩ := xs
  obtain ⟨N, hN⟩ := h _ _ r hr
  exact ⟨N, A53 c_spec_l03Has N, L53 c_spec_l03Has N, (K53 c_spec_l03Has N a0 a1).trans hN⟩
theorem X53 : Contract Go.Proofs.Try.prog 53 ⟨[int, int], (.slice (.slice int)), e_spec_l09Lists⟩ := C53 X79 fun _ _ _ h => ⟨N0, h⟩
-- spec_l09Rim
def E80 : Env := ⟨tys, [], [], []⟩
def A80 (N : Nat) : List (Nat × Loop (Ty.den (.slice int))) := [(0, ⟨[(1, .ro none (.slice (.num .i64))), (5, .own (.slice (.num .i64))), (6, .ro none (.num .i64))], r_spec_l09Rim_L0 N⟩)]
theorem K80 (N : Nat) (a0 : (List Int)) (a1 : (List Int)) : fnK N (E80) Go.Proofs.Try.f80 [(.slice int), (.slice int)] (.slice int) (A80 N) (a0, a1, ()) = r_spec_l09Rim N a0 a1 := by kernel_rfl
theorem L80 (N : Nat) : LoopsOk N (E80) (A80 N) Go.Proofs.Try.f80.ntmps (retOf (E80) Go.Proofs.Try.f80 (.slice int)) (loopsOf (Go.Proofs.Try.f80.body.getD .skip)) :=
  LoopsOk.of (l := [(0, lb Go.Proofs.Try.f80 0)]) (by kernel_rfl) (.cons (L := ⟨[(1, .ro none (.slice (.num .i64))), (5, .own (.slice (.num .i64))), (6, .ro none (.num .i64))], r_spec_l09Rim_L0 N⟩) (by kernel_rfl) (by intro s kc ke env; kernel_rfl) .nil)
theorem There80 : There Go.Proofs.Try.prog 80 := ⟨_, Go.Proofs.Try.func80, by kernel_rfl, by kernel_rfl⟩
theorem C80 {f : ((List Int) × (List Int) × Unit → Option (List Int))} (h : ∀ a0 a1 r, f (a0, a1, ()) = some r → ∃ N, r_spec_l09Rim N a0 a1 = some r) : Contract Go.Proofs.Try.prog 80 ⟨[(.slice int), (.slice int)], (.slice int), f⟩ := by
  refine contract (E := E80) (envOf table trivial trivial) mixed Go.Proofs.Try.func80 (c := Go.Proofs.Try.f80.body.getD .skip) (by kernel_rfl) (Nat.le_of_ble_eq_true (by kernel_rfl)) fun xs r hr => ?_
  obtain ⟨a0, a1, _⟩ := xs
  obtain ⟨N, hN⟩ := h _ _ r hr
  exact ⟨N, A80 N, L80 N, (K80 N a0 a1).trans hN⟩
theorem X80 : Contract Go.Proofs.Try.prog 80 ⟨[(.slice int), (.slice int)], (.slice int), e_spec_l09Rim⟩ := C80 fun _ _ _ h => ⟨N0, h⟩
-- spec_IsCircular
def E54 (c_spec_l01In : (Int × Int × Int × Unit → Option Bool)) (c_spec_l09Rim : ((List Int) × (List Int) × Unit → Option (List Int))) (c_spec_l03Has : ((List Int) × Int × Unit → Option Bool)) : Env := ⟨tys, [], [(52, ⟨[int, int, int], .bool, c_spec_l01In⟩), (80, ⟨[(.slice int), (.slice int)], (.slice int), c_spec_l09Rim⟩), (79, ⟨[(.slice int), int], .bool, c_spec_l03Has⟩)], []⟩
def A54 (c_spec_l01In : (Int × Int × Int × Unit → Option Bool)) (c_spec_l09Rim : ((List Int) × (List Int) × Unit → Option (List Int))) (c_spec_l03Has : ((List Int) × Int × Unit → Option Bool)) (N : Nat) : List (Nat × Loop (Ty.den .bool)) := [(0, ⟨[(0, .ro none (.num .i64)), (7, .own (.slice (.num .i64))), (8, .ro none (.num .i64)), (29, .ro (some 7) (.slice (.num .i64))), (30, .ro none (.num .i64)), (31, .ro none (.num .i64))], r_spec_IsCircular_L0 c_spec_l01In c_spec_l09Rim c_spec_l03Has N⟩)]
theorem K54 (c_spec_l01In : (Int × Int × Int × Unit → Option Bool)) (c_spec_l09Rim : ((List Int) × (List Int) × Unit → Option (List Int))) (c_spec_l03Has : ((List Int) × Int × Unit → Option Bool)) (N : Nat) (a0 : Int) (a1 : (List Int)) (a2 : (List Int)) : fnK N (E54 c_spec_l01In c_spec_l09Rim c_spec_l03Has) Go.Proofs.Try.f54 [int, (.slice int), (.slice int)] .bool (A54 c_spec_l01In c_spec_l09Rim c_spec_l03Has N) (a0, a1, a2, ()) = r_spec_IsCircular c_spec_l01In c_spec_l09Rim c_spec_l03Has N a0 a1 a2 := by kernel_rfl
theorem L54 (c_spec_l01In : (Int × Int × Int × Unit → Option Bool)) (c_spec_l09Rim : ((List Int) × (List Int) × Unit → Option (List Int))) (c_spec_l03Has : ((List Int) × Int × Unit → Option Bool)) (N : Nat) : LoopsOk N (E54 c_spec_l01In c_spec_l09Rim c_spec_l03Has) (A54 c_spec_l01In c_spec_l09Rim c_spec_l03Has N) Go.Proofs.Try.f54.ntmps (retOf (E54 c_spec_l01In c_spec_l09Rim c_spec_l03Has) Go.Proofs.Try.f54 .bool) (loopsOf (Go.Proofs.Try.f54.body.getD .skip)) :=
  LoopsOk.of (l := [(0, lb Go.Proofs.Try.f54 0)]) (by kernel_rfl) (.cons (L := ⟨[(0, .ro none (.num .i64)), (7, .own (.slice (.num .i64))), (8, .ro none (.num .i64)), (29, .ro (some 7) (.slice (.num .i64))), (30, .ro none (.num .i64)), (31, .ro none (.num .i64))], r_spec_IsCircular_L0 c_spec_l01In c_spec_l09Rim c_spec_l03Has N⟩) (by kernel_rfl) (by intro s kc ke env; kernel_rfl) .nil)
theorem There54 : There Go.Proofs.Try.prog 54 := ⟨_, Go.Proofs.Try.func54, by kernel_rfl, by kernel_rfl⟩
theorem C54 {c_spec_l01In : (Int × Int × Int × Unit → Option Bool)} {c_spec_l09Rim : ((List Int) × (List Int) × Unit → Option (List Int))} {c_spec_l03Has : ((List Int) × Int × Unit → Option Bool)} (h_c_spec_l01In : Contract Go.Proofs.Try.prog 52 ⟨[int, int, int], .bool, c_spec_l01In⟩) (h_c_spec_l09Rim : Contract Go.Proofs.Try.prog 80 ⟨[(.slice int), (.slice int)], (.slice int), c_spec_l09Rim⟩) (h_c_spec_l03Has : Contract Go.Proofs.Try.prog 79 ⟨[(.slice int), int], .bool, c_spec_l03Has⟩) {f : (Int × (List Int) × (List Int) × Unit → Option Bool)} (h : ∀ a0 a1 a2 r, f (a0, a1, a2, ()) = some r → ∃ N, r_spec_IsCircular c_spec_l01In c_spec_l09Rim c_spec_l03Has N a0 a1 a2 = some r) : Contract Go.Proofs.Try.prog 54 ⟨[int, (.slice int), (.slice int)], .bool, f⟩ := by
  refine contract (E := E54 c_spec_l01In c_spec_l09Rim c_spec_l03Has) (envOf table ⟨⟨h_c_spec_l01In, There52⟩, ⟨⟨h_c_spec_l09Rim, There80⟩, ⟨⟨h_c_spec_l03Has, There79⟩, trivial⟩⟩⟩ trivial) mixed Go.Proofs.Try.func54 (c := Go.Proofs.Try.f54.body.getD .skip) (by kernel_rfl) (Nat.le_of_ble_eq_true (by kernel_rfl)) fun xs r hr => ?_
  obtain ⟨a0, a1, a2, _⟩ := xs
  obtain ⟨N, hN⟩ := h _ _ _ r hr
  exact ⟨N, A54 c_spec_l01In c_spec_l09Rim c_spec_l03Has N, L54 c_spec_l01In c_spec_l09Rim c_spec_l03Has N, (K54 c_spec_l01In c_spec_l09Rim c_spec_l03Has N a0 a1 a2).trans hN⟩
theorem X54 : Contract Go.Proofs.Try.prog 54 ⟨[int, (.slice int), (.slice int)], .bool, e_spec_IsCircular⟩ := C54 X52 X80 X79 fun _ _ _ _ h => ⟨N0, h⟩
-- spec_CircularPairs
def E27 (c_spec_l01In : (Int × Int × Int × Unit → Option Bool)) (c_spec_l09Lists : (Int × Int × Unit → Option (List (List Int)))) (c_spec_IsCircular : (Int × (List Int) × (List Int) × Unit → Option Bool)) : Env := ⟨tys, [], [(52, ⟨[int, int, int], .bool, c_spec_l01In⟩), (53, ⟨[int, int], (.slice (.slice int)), c_spec_l09Lists⟩), (54, ⟨[int, (.slice int), (.slice int)], .bool, c_spec_IsCircular⟩)], []⟩
def A27 (c_spec_l01In : (Int × Int × Int × Unit → Option Bool)) (c_spec_l09Lists : (Int × Int × Unit → Option (List (List Int)))) (c_spec_IsCircular : (Int × (List Int) × (List Int) × Unit → Option Bool)) (N : Nat) : List (Nat × Loop (Ty.den (.slice (.slice (.slice int))))) := [(0, ⟨[(0, .ro none (.num .i64)), (3, .own (.slice (.slice (.slice (.num .i64))))), (4, .ro none (.num .i64))], r_spec_CircularPairs_L0 c_spec_l01In c_spec_l09Lists c_spec_IsCircular N⟩), (2, ⟨[(0, .ro none (.num .i64)), (3, .own (.slice (.slice (.slice (.num .i64))))), (4, .ro none (.num .i64)), (5, .own (.slice (.slice (.num .i64)))), (23, .ro (some 5) (.slice (.slice (.num .i64)))), (24, .ro none (.num .i64)), (25, .ro none (.num .i64))], r_spec_CircularPairs_L2 c_spec_l01In c_spec_l09Lists c_spec_IsCircular N⟩), (4, ⟨[(0, .ro none (.num .i64)), (3, .own (.slice (.slice (.slice (.num .i64))))), (4, .ro none (.num .i64)), (5, .own (.slice (.slice (.num .i64)))), (7, .ro (some 5) (.slice (.num .i64))), (23, .ro (some 5) (.slice (.slice (.num .i64)))), (24, .ro none (.num .i64)), (25, .ro none (.num .i64)), (29, .ro (some 5) (.slice (.slice (.num .i64)))), (30, .ro none (.num .i64)), (31, .ro none (.num .i64))], r_spec_CircularPairs_L4 c_spec_l01In c_spec_l09Lists c_spec_IsCircular N⟩)]
theorem K27 (c_spec_l01In : (Int × Int × Int × Unit → Option Bool)) (c_spec_l09Lists : (Int × Int × Unit → Option (List (List Int)))) (c_spec_IsCircular : (Int × (List Int) × (List Int) × Unit → Option Bool)) (N : Nat) (a0 : Int) : fnK N (E27 c_spec_l01In c_spec_l09Lists c_spec_IsCircular) Go.Proofs.Try.f27 [int] (.slice (.slice (.slice int))) (A27 c_spec_l01In c_spec_l09Lists c_spec_IsCircular N) (a0, ()) = r_spec_CircularPairs c_spec_l01In c_spec_l09Lists c_spec_IsCircular N a0 := by kernel_rfl
theorem L27 (c_spec_l01In : (Int × Int × Int × Unit → Option Bool)) (c_spec_l09Lists : (Int × Int × Unit → Option (List (List Int)))) (c_spec_IsCircular : (Int × (List Int) × (List Int) × Unit → Option Bool)) (N : Nat) : LoopsOk N (E27 c_spec_l01In c_spec_l09Lists c_spec_IsCircular) (A27 c_spec_l01In c_spec_l09Lists c_spec_IsCircular N) Go.Proofs.Try.f27.ntmps (retOf (E27 c_spec_l01In c_spec_l09Lists c_spec_IsCircular) Go.Proofs.Try.f27 (.slice (.slice (.slice int)))) (loopsOf (Go.Proofs.Try.f27.body.getD .skip)) :=
  LoopsOk.of (l := [(0, lb Go.Proofs.Try.f27 0), (2, lb Go.Proofs.Try.f27 1), (4, lb Go.Proofs.Try.f27 2)]) (by kernel_rfl) (.cons (L := ⟨[(0, .ro none (.num .i64)), (3, .own (.slice (.slice (.slice (.num .i64))))), (4, .ro none (.num .i64))], r_spec_CircularPairs_L0 c_spec_l01In c_spec_l09Lists c_spec_IsCircular N⟩) (by kernel_rfl) (by intro s kc ke env; kernel_rfl) (.cons (L := ⟨[(0, .ro none (.num .i64)), (3, .own (.slice (.slice (.slice (.num .i64))))), (4, .ro none (.num .i64)), (5, .own (.slice (.slice (.num .i64)))), (23, .ro (some 5) (.slice (.slice (.num .i64)))), (24, .ro none (.num .i64)), (25, .ro none (.num .i64))], r_spec_CircularPairs_L2 c_spec_l01In c_spec_l09Lists c_spec_IsCircular N⟩) (by kernel_rfl) (by intro s kc ke env; kernel_rfl) (.cons (L := ⟨[(0, .ro none (.num .i64)), (3, .own (.slice (.slice (.slice (.num .i64))))), (4, .ro none (.num .i64)), (5, .own (.slice (.slice (.num .i64)))), (7, .ro (some 5) (.slice (.num .i64))), (23, .ro (some 5) (.slice (.slice (.num .i64)))), (24, .ro none (.num .i64)), (25, .ro none (.num .i64)), (29, .ro (some 5) (.slice (.slice (.num .i64)))), (30, .ro none (.num .i64)), (31, .ro none (.num .i64))], r_spec_CircularPairs_L4 c_spec_l01In c_spec_l09Lists c_spec_IsCircular N⟩) (by kernel_rfl) (by intro s kc ke env; kernel_rfl) .nil)))
theorem There27 : There Go.Proofs.Try.prog 27 := ⟨_, Go.Proofs.Try.func27, by kernel_rfl, by kernel_rfl⟩
theorem C27 {c_spec_l01In : (Int × Int × Int × Unit → Option Bool)} {c_spec_l09Lists : (Int × Int × Unit → Option (List (List Int)))} {c_spec_IsCircular : (Int × (List Int) × (List Int) × Unit → Option Bool)} (h_c_spec_l01In : Contract Go.Proofs.Try.prog 52 ⟨[int, int, int], .bool, c_spec_l01In⟩) (h_c_spec_l09Lists : Contract Go.Proofs.Try.prog 53 ⟨[int, int], (.slice (.slice int)), c_spec_l09Lists⟩) (h_c_spec_IsCircular : Contract Go.Proofs.Try.prog 54 ⟨[int, (.slice int), (.slice int)], .bool, c_spec_IsCircular⟩) {f : (Int × Unit → Option (List (List (List Int))))} (h : ∀ a0 r, f (a0, ()) = some r → ∃ N, r_spec_CircularPairs c_spec_l01In c_spec_l09Lists c_spec_IsCircular N a0 = some r) : Contract Go.Proofs.Try.prog 27 ⟨[int], (.slice (.slice (.slice int))), f⟩ := by
  refine contract (E := E27 c_spec_l01In c_spec_l09Lists c_spec_IsCircular) (envOf table ⟨⟨h_c_spec_l01In, There52⟩, ⟨⟨h_c_spec_l09Lists, There53⟩, ⟨⟨h_c_spec_IsCircular, There54⟩, trivial⟩⟩⟩ trivial) mixed Go.Proofs.Try.func27 (c := Go.Proofs.Try.f27.body.getD .skip) (by kernel_rfl) (Nat.le_of_ble_eq_true (by kernel_rfl)) fun xs r hr => ?_
  obtain ⟨a0, _⟩ := xs
  obtain ⟨N, hN⟩ := h _ r hr
  exact ⟨N, A27 c_spec_l01In c_spec_l09Lists c_spec_IsCircular N, L27 c_spec_l01In c_spec_l09Lists c_spec_IsCircular N, (K27 c_spec_l01In c_spec_l09Lists c_spec_IsCircular N a0).trans hN⟩
theorem X27 : Contract Go.Proofs.Try.prog 27 ⟨[int], (.slice (.slice (.slice int))), e_spec_CircularPairs⟩ := C27 X52 X53 X54 fun _ _ h => ⟨N0, h⟩
-- slices_Index_int
def E95 : Env := ⟨tys, [], [], []⟩
def A95 (N : Nat) : List (Nat × Loop (Ty.den int)) := [(0, ⟨[(0, .ro none (.slice (.num .i64))), (1, .ro none (.num .i64)), (7, .ro none (.num .i64)), (8, .ro none (.num .i64))], r_slices_Index_int_L0 N⟩)]
theorem K95 (N : Nat) (a0 : (List Int)) (a1 : Int) : fnK N (E95) Go.Proofs.Try.f95 [(.slice int), int] int (A95 N) (a0, a1, ()) = r_slices_Index_int N a0 a1 := by kernel_rfl
theorem L95 (N : Nat) : LoopsOk N (E95) (A95 N) Go.Proofs.Try.f95.ntmps (retOf (E95) Go.Proofs.Try.f95 int) (loopsOf (Go.Proofs.Try.f95.body.getD .skip)) :=
  LoopsOk.of (l := [(0, lb Go.Proofs.Try.f95 0)]) (by kernel_rfl) (.cons (L := ⟨[(0, .ro none (.slice (.num .i64))), (1, .ro none (.num .i64)), (7, .ro none (.num .i64)), (8, .ro none (.num .i64))], r_slices_Index_int_L0 N⟩) (by kernel_rfl) (by intro s kc ke env; kernel_rfl) .nil)
theorem There95 : There Go.Proofs.Try.prog 95 := ⟨_, Go.Proofs.Try.func95, by kernel_rfl, by kernel_rfl⟩
theorem C95 {f : ((List Int) × Int × Unit → Option Int)} (h : ∀ a0 a1 r, f (a0, a1, ()) = some r → ∃ N, r_slices_Index_int N a0 a1 = some r) : Contract Go.Proofs.Try.prog 95 ⟨[(.slice int), int], int, f⟩ := by
  refine contract (E := E95) (envOf table trivial trivial) mixed Go.Proofs.Try.func95 (c := Go.Proofs.Try.f95.body.getD .skip) (by kernel_rfl) (Nat.le_of_ble_eq_true (by kernel_rfl)) fun xs r hr => ?_
  obtain ⟨a0, a1, _⟩ := xs
  obtain ⟨N, hN⟩ := h _ _ r hr
  exact ⟨N, A95 N, L95 N, (K95 N a0 a1).trans hN⟩
theorem X95 : Contract Go.Proofs.Try.prog 95 ⟨[(.slice int), int], int, e_slices_Index_int⟩ := C95 fun _ _ _ h => ⟨N0, h⟩
-- slices_Contains_int
def E81 (c_slices_Index_int : ((List Int) × Int × Unit → Option Int)) : Env := ⟨tys, [], [(95, ⟨[(.slice int), int], int, c_slices_Index_int⟩)], []⟩
def A81 (_c_slices_Index_int : ((List Int) × Int × Unit → Option Int)) (_N : Nat) : List (Nat × Loop (Ty.den .bool)) := []
theorem K81 (c_slices_Index_int : ((List Int) × Int × Unit → Option Int)) (N : Nat) (a0 : (List Int)) (a1 : Int) : fnK N (E81 c_slices_Index_int) Go.Proofs.Try.f81 [(.slice int), int] .bool (A81 c_slices_Index_int N) (a0, a1, ()) = r_slices_Contains_int c_slices_Index_int N a0 a1 := by kernel_rfl
theorem L81 (c_slices_Index_int : ((List Int) × Int × Unit → Option Int)) (N : Nat) : LoopsOk N (E81 c_slices_Index_int) (A81 c_slices_Index_int N) Go.Proofs.Try.f81.ntmps (retOf (E81 c_slices_Index_int) Go.Proofs.Try.f81 .bool) (loopsOf (Go.Proofs.Try.f81.body.getD .skip)) :=
  LoopsOk.of (l := []) (by kernel_rfl) .nil
theorem There81 : There Go.Proofs.Try.prog 81 := ⟨_, Go.Proofs.Try.func81, by kernel_rfl, by kernel_rfl⟩
theorem C81 {c_slices_Index_int : ((List Int) × Int × Unit → Option Int)} (h_c_slices_Index_int : Contract Go.Proofs.Try.prog 95 ⟨[(.slice int), int], int, c_slices_Index_int⟩) {f : ((List Int) × Int × Unit → Option Bool)} (h : ∀ a0 a1 r, f (a0, a1, ()) = some r → ∃ N, r_slices_Contains_int c_slices_Index_int N a0 a1 = some r) : Contract Go.Proofs.Try.prog 81 ⟨[(.slice int), int], .bool, f⟩ := by
  refine contract (E := E81 c_slices_Index_int) (envOf table ⟨⟨h_c_slices_Index_int, There95⟩, trivial⟩ trivial) mixed Go.Proofs.Try.func81 (c := Go.Proofs.Try.f81.body.getD .skip) (by kernel_rfl) (Nat.le_of_ble_eq_true (by kernel_rfl)) fun xs r hr => ?_
  obtain ⟨a0, a1, _⟩ := xs
  obtain ⟨N, hN⟩ := h _ _ r hr
  exact ⟨N, A81 c_slices_Index_int N, L81 c_slices_Index_int N, (K81 c_slices_Index_int N a0 a1).trans hN⟩
theorem X81 : Contract Go.Proofs.Try.prog 81 ⟨[(.slice int), int], .bool, e_slices_Contains_int⟩ := C81 X95 fun _ _ _ h => ⟨N0, h⟩
-- slices_Clone_int
def E57 : Env := ⟨tys, [], [], []⟩
def A57 (_N : Nat) : List (Nat × Loop (Ty.den (.slice int))) := []
theorem K57 (N : Nat) (a0 : (List Int)) : fnK N (E57) Go.Proofs.Try.f57 [(.slice int)] (.slice int) (A57 N) (a0, ()) = r_slices_Clone_int N a0 := by kernel_rfl
theorem L57 (N : Nat) : LoopsOk N (E57) (A57 N) Go.Proofs.Try.f57.ntmps (retOf (E57) Go.Proofs.Try.f57 (.slice int)) (loopsOf (Go.Proofs.Try.f57.body.getD .skip)) :=
  LoopsOk.of (l := []) (by kernel_rfl) .nil
theorem There57 : There Go.Proofs.Try.prog 57 := ⟨_, Go.Proofs.Try.func57, by kernel_rfl, by kernel_rfl⟩
theorem C57 {f : ((List Int) × Unit → Option (List Int))} (h : ∀ a0 r, f (a0, ()) = some r → ∃ N, r_slices_Clone_int N a0 = some r) : Contract Go.Proofs.Try.prog 57 ⟨[(.slice int)], (.slice int), f⟩ := by
  refine contract (E := E57) (envOf table trivial trivial) mixed Go.Proofs.Try.func57 (c := Go.Proofs.Try.f57.body.getD .skip) (by kernel_rfl) (Nat.le_of_ble_eq_true (by kernel_rfl)) fun xs r hr => ?_
  obtain ⟨a0, _⟩ := xs
  obtain ⟨N, hN⟩ := h _ r hr
  exact ⟨N, A57 N, L57 N, (K57 N a0).trans hN⟩
theorem X57 : Contract Go.Proofs.Try.prog 57 ⟨[(.slice int)], (.slice int), e_slices_Clone_int⟩ := C57 fun _ _ h => ⟨N0, h⟩
-- impl_choices
def E55 (c_slices_Contains_int : ((List Int) × Int × Unit → Option Bool)) (c_slices_Clone_int : ((List Int) × Unit → Option (List Int))) : Env := ⟨tys, [], [(81, ⟨[(.slice int), int], .bool, c_slices_Contains_int⟩), (57, ⟨[(.slice int)], (.slice int), c_slices_Clone_int⟩)], []⟩
def A55 (c_slices_Contains_int : ((List Int) × Int × Unit → Option Bool)) (c_slices_Clone_int : ((List Int) × Unit → Option (List Int))) (N : Nat) : List (Nat × Loop (Ty.den (.slice (.slice int)))) := [(0, ⟨[(0, .ro none (.num .i64)), (5, .own (.slice (.slice (.num .i64)))), (12, .ro none (.num .i64)), (13, .ro none (.num .i64))], r_impl_choices_L0 c_slices_Contains_int c_slices_Clone_int N⟩), (2, ⟨[(0, .ro none (.num .i64)), (6, .own (.slice (.slice (.num .i64)))), (12, .ro none (.num .i64)), (13, .ro none (.num .i64)), (16, .ro (some 5) (.slice (.slice (.num .i64)))), (17, .ro none (.num .i64)), (18, .ro none (.num .i64))], r_impl_choices_L2 c_slices_Contains_int c_slices_Clone_int N⟩), (4, ⟨[(0, .ro none (.num .i64)), (6, .own (.slice (.slice (.num .i64)))), (8, .ro (some 5) (.slice (.num .i64))), (12, .ro none (.num .i64)), (13, .ro none (.num .i64)), (16, .ro (some 5) (.slice (.slice (.num .i64)))), (17, .ro none (.num .i64)), (18, .ro none (.num .i64)), (22, .ro none (.num .i64)), (23, .ro none (.num .i64))], r_impl_choices_L4 c_slices_Contains_int c_slices_Clone_int N⟩)]
theorem K55 (c_slices_Contains_int : ((List Int) × Int × Unit → Option Bool)) (c_slices_Clone_int : ((List Int) × Unit → Option (List Int))) (N : Nat) (a0 : Int) (a1 : Int) : fnK N (E55 c_slices_Contains_int c_slices_Clone_int) Go.Proofs.Try.f55 [int, int] (.slice (.slice int)) (A55 c_slices_Contains_int c_slices_Clone_int N) (a0, a1, ()) = r_impl_choices c_slices_Contains_int c_slices_Clone_int N a0 a1 := by kernel_rfl
theorem L55 (c_slices_Contains_int : ((List Int) × Int × Unit → Option Bool)) (c_slices_Clone_int : ((List Int) × Unit → Option (List Int))) (N : Nat) : LoopsOk N (E55 c_slices_Contains_int c_slices_Clone_int) (A55 c_slices_Contains_int c_slices_Clone_int N) Go.Proofs.Try.f55.ntmps (retOf (E55 c_slices_Contains_int c_slices_Clone_int) Go.Proofs.Try.f55 (.slice (.slice int))) (loopsOf (Go.Proofs.Try.f55.body.getD .skip)) :=
  LoopsOk.of (l := [(0, lb Go.Proofs.Try.f55 0), (2, lb Go.Proofs.Try.f55 1), (4, lb Go.Proofs.Try.f55 2)]) (by kernel_rfl) (.cons (L := ⟨[(0, .ro none (.num .i64)), (5, .own (.slice (.slice (.num .i64)))), (12, .ro none (.num .i64)), (13, .ro none (.num .i64))], r_impl_choices_L0 c_slices_Contains_int c_slices_Clone_int N⟩) (by kernel_rfl) (by intro s kc ke env; kernel_rfl) (.cons (L := ⟨[(0, .ro none (.num .i64)), (6, .own (.slice (.slice (.num .i64)))), (12, .ro none (.num .i64)), (13, .ro none (.num .i64)), (16, .ro (some 5) (.slice (.slice (.num .i64)))), (17, .ro none (.num .i64)), (18, .ro none (.num .i64))], r_impl_choices_L2 c_slices_Contains_int c_slices_Clone_int N⟩) (by kernel_rfl) (by intro s kc ke env; kernel_rfl) (.cons (L := ⟨[(0, .ro none (.num .i64)), (6, .own (.slice (.slice (.num .i64)))), (8, .ro (some 5) (.slice (.num .i64))), (12, .ro none (.num .i64)), (13, .ro none (.num .i64)), (16, .ro (some 5) (.slice (.slice (.num .i64)))), (17, .ro none (.num .i64)), (18, .ro none (.num .i64)), (22, .ro none (.num .i64)), (23, .ro none (.num .i64))], r_impl_choices_L4 c_slices_Contains_int c_slices_Clone_int N⟩) (by kernel_rfl) (by intro s kc ke env; kernel_rfl) .nil)))
theorem There55 : There Go.Proofs.Try.prog 55 := ⟨_, Go.Proofs.Try.func55, by kernel_rfl, by kernel_rfl⟩
theorem C55 {c_slices_Contains_int : ((List Int) × Int × Unit → Option Bool)} {c_slices_Clone_int : ((List Int) × Unit → Option (List Int))} (h_c_slices_Contains_int : Contract Go.Proofs.Try.prog 81 ⟨[(.slice int), int], .bool, c_slices_Contains_int⟩) (h_c_slices_Clone_int : Contract Go.Proofs.Try.prog 57 ⟨[(.slice int)], (.slice int), c_slices_Clone_int⟩) {f : (Int × Int × Unit → Option (List (List Int)))} (h : ∀ a0 a1 r, f (a0, a1, ()) = some r → ∃ N, r_impl_choices c_slices_Contains_int c_slices_Clone_int N a0 a1 = some r) : Contract Go.Proofs.Try.prog 55 ⟨[int, int], (.slice (.slice int)), f⟩ := by
  refine contract (E := E55 c_slices_Contains_int c_slices_Clone_int) (envOf table ⟨⟨h_c_slices_Contains_int, There81⟩, ⟨⟨h_c_slices_Clone_int, There57⟩, trivial⟩⟩ trivial) mixed Go.Proofs.Try.func55 (c := Go.Proofs.Try.f55.body.getD .skip) (by kernel_rfl) (Nat.le_of_ble_eq_true (by kernel_rfl)) fun xs r hr => ?_
  obtain ⟨a0, a1, _⟩ := xs
  obtain ⟨N, hN⟩ := h _ _ r hr
  exact ⟨N, A55 c_slices_Contains_int c_slices_Clone_int N, L55 c_slices_Contains_int c_slices_Clone_int N, (K55 c_slices_Contains_int c_slices_Clone_int N a0 a1).trans hN⟩
theorem X55 : Contract Go.Proofs.Try.prog 55 ⟨[int, int], (.slice (.slice int)), e_impl_choices⟩ := C55 X81 X57 fun _ _ _ h => ⟨N0, h⟩
-- slices_Reverse_int
theorem There82 : There Go.Proofs.Try.prog 82 := ⟨_, Go.Proofs.Try.func82, by kernel_rfl, by kernel_rfl⟩
end Go.Sx.S
namespace Go.Proofs
open Go.Shelf
def Try.laysReverse_ren : Go.Shelf.Ren := ⟨fun | 112 => 82 | n => n, fun | 28 => 39 | 3 => 3 | 4 => 4 | 0 => 0 | n => n, fun | n => n⟩
theorem Try.laysReverse : Go.Proofs.Lays.n112 Try.prog Try.laysReverse_ren := {
  mixed := by kernel_rfl
  f112 := Try.func82.trans (congrArg some (by kernel_rfl))
  t0 := Try.underlying0
  a0 := Try.isAgg0
  z0 := Try.sizeOf0
  v0 := Try.zeroValue0
  t3 := Try.underlying3
  a3 := Try.isAgg3
  z3 := Try.sizeOf3
  v3 := Try.zeroValue3
  t4 := Try.underlying4
  a4 := Try.isAgg4
  z4 := Try.sizeOf4
  v4 := Try.zeroValue4
  t28 := Try.underlying39
  a28 := Try.isAgg39
  z28 := Try.sizeOf39
  v28 := Try.zeroValue39 }
end Go.Proofs
namespace Go.Sx.S
open Go Go.Sx Go.Sx.R
theorem X82 : MutC Go.Proofs.Try.prog 82 ⟨(.slice int), 0, [], none, e_slices_Reverse_int⟩ :=
  mutC_reverse (fun blk off cap zs w hH hl => Go.Proofs.Any.slices_Reverse_int Go.Proofs.Try.laysReverse blk off cap zs w hH hl) (fun a cap w => Go.Proofs.Any.slices_Reverse_int_empty Go.Proofs.Try.laysReverse a cap w)

-- impl_indicesOk
def E83 (c_slices_Contains_int : ((List Int) × Int × Unit → Option Bool)) : Env := ⟨tys, [], [(81, ⟨[(.slice int), int], .bool, c_slices_Contains_int⟩)], []⟩
def A83 (c_slices_Contains_int : ((List Int) × Int × Unit → Option Bool)) (N : Nat) : List (Nat × Loop (Ty.den .bool)) := [(0, ⟨[(0, .ro none (.slice (.num .i64))), (1, .ro none (.num .i64)), (7, .ro none (.slice (.num .i64))), (8, .ro none (.num .i64)), (9, .ro none (.num .i64))], r_impl_indicesOk_L0 c_slices_Contains_int N⟩)]
theorem K83 (c_slices_Contains_int : ((List Int) × Int × Unit → Option Bool)) (N : Nat) (a0 : (List Int)) (a1 : Int) : fnK N (E83 c_slices_Contains_int) Go.Proofs.Try.f83 [(.slice int), int] .bool (A83 c_slices_Contains_int N) (a0, a1, ()) = r_impl_indicesOk c_slices_Contains_int N a0 a1 := by kernel_rfl
theorem L83 (c_slices_Contains_int : ((List Int) × Int × Unit → Option Bool)) (N : Nat) : LoopsOk N (E83 c_slices_Contains_int) (A83 c_slices_Contains_int N) Go.Proofs.Try.f83.ntmps (retOf (E83 c_slices_Contains_int) Go.Proofs.Try.f83 .bool) (loopsOf (Go.Proofs.Try.f83.body.getD .skip)) :=
  LoopsOk.of (l := [(0, lb Go.Proofs.Try.f83 0)]) (by kernel_rfl) (.cons (L := ⟨[(0, .ro none (.slice (.num .i64))), (1, .ro none (.num .i64)), (7, .ro none (.slice (.num .i64))), (8, .ro none (.num .i64)), (9, .ro none (.num .i64))], r_impl_indicesOk_L0 c_slices_Contains_int N⟩) (by kernel_rfl) (by intro s kc ke env; kernel_rfl) .nil)
theorem There83 : There Go.Proofs.Try.prog 83 := ⟨_, Go.Proofs.Try.func83, by kernel_rfl, by kernel_rfl⟩
theorem C83 {c_slices_Contains_int : ((List Int) × Int × Unit → Option Bool)} (h_c_slices_Contains_int : Contract Go.Proofs.Try.prog 81 ⟨[(.slice int), int], .bool, c_slices_Contains_int⟩) {f : ((List Int) × Int × Unit → Option Bool)} (h : ∀ a0 a1 r, f (a0, a1, ()) = some r → ∃ N, r_impl_indicesOk c_slices_Contains_int N a0 a1 = some r) : Contract Go.Proofs.Try.prog 83 ⟨[(.slice int), int], .bool, f⟩ := by
  refine contract (E := E83 c_slices_Contains_int) (envOf table ⟨⟨h_c_slices_Contains_int, There81⟩, trivial⟩ trivial) mixed Go.Proofs.Try.func83 (c := Go.Proofs.Try.f83.body.getD .skip) (by kernel_rfl) (Nat.le_of_ble_eq_true (by kernel_rfl)) fun xs r hr => ?_
  obtain ⟨a0, a1, _⟩ := xs
  obtain ⟨N, hN⟩ := h _ _ r hr
  exact ⟨N, A83 c_slices_Contains_int N, L83 c_slices_Contains_int N, (K83 c_slices_Contains_int N a0 a1).trans hN⟩
theorem X83 : Contract Go.Proofs.Try.prog 83 ⟨[(.slice int), int], .bool, e_impl_indicesOk⟩ := C83 X81 fun _ _ _ h => ⟨N0, h⟩
-- impl_IsCircular
def E56 (c_slices_Clone_int : ((List Int) × Unit → Option (List Int))) (m_slices_Reverse_int : ((List Int) → (Unit) → Option ((List Int) × Unit))) (c_impl_indicesOk : ((List Int) × Int × Unit → Option Bool)) : Env := ⟨tys, [], [(57, ⟨[(.slice int)], (.slice int), c_slices_Clone_int⟩), (83, ⟨[(.slice int), int], .bool, c_impl_indicesOk⟩)], [(82, ⟨(.slice int), 0, [], none, m_slices_Reverse_int⟩)]⟩
def A56 (c_slices_Clone_int : ((List Int) × Unit → Option (List Int))) (m_slices_Reverse_int : ((List Int) → (Unit) → Option ((List Int) × Unit))) (c_impl_indicesOk : ((List Int) × Int × Unit → Option Bool)) (N : Nat) : List (Nat × Loop (Ty.den .bool)) := [(0, ⟨[(7, .own (.slice (.num .i64))), (8, .ro none (.num .i64)), (41, .ro (some 7) (.slice (.num .i64))), (42, .ro none (.num .i64)), (43, .ro none (.num .i64))], r_impl_IsCircular_L0 c_slices_Clone_int m_slices_Reverse_int c_impl_indicesOk N⟩)]
theorem K56 (c_slices_Clone_int : ((List Int) × Unit → Option (List Int))) (m_slices_Reverse_int : ((List Int) → (Unit) → Option ((List Int) × Unit))) (c_impl_indicesOk : ((List Int) × Int × Unit → Option Bool)) (N : Nat) (a0 : Int) (a1 : (List Int)) (a2 : (List Int)) : fnK N (E56 c_slices_Clone_int m_slices_Reverse_int c_impl_indicesOk) Go.Proofs.Try.f56 [int, (.slice int), (.slice int)] .bool (A56 c_slices_Clone_int m_slices_Reverse_int c_impl_indicesOk N) (a0, a1, a2, ()) = r_impl_IsCircular c_slices_Clone_int m_slices_Reverse_int c_impl_indicesOk N a0 a1 a2 := by kernel_rfl
theorem L56 (c_slices_Clone_int : ((List Int) × Unit → Option (List Int))) (m_slices_Reverse_int : ((List Int) → (Unit) → Option ((List Int) × Unit))) (c_impl_indicesOk : ((List Int) × Int × Unit → Option Bool)) (N : Nat) : LoopsOk N (E56 c_slices_Clone_int m_slices_Reverse_int c_impl_indicesOk) (A56 c_slices_Clone_int m_slices_Reverse_int c_impl_indicesOk N) Go.Proofs.Try.f56.ntmps (retOf (E56 c_slices_Clone_int m_slices_Reverse_int c_impl_indicesOk) Go.Proofs.Try.f56 .bool) (loopsOf (Go.Proofs.Try.f56.body.getD .skip)) :=
  LoopsOk.of (l := [(0, lb Go.Proofs.Try.f56 0)]) (by kernel_rfl) (.cons (L := ⟨[(7, .own (.slice (.num .i64))), (8, .ro none (.num .i64)), (41, .ro (some 7) (.slice (.num .i64))), (42, .ro none (.num .i64)), (43, .ro none (.num .i64))], r_impl_IsCircular_L0 c_slices_Clone_int m_slices_Reverse_int c_impl_indicesOk N⟩) (by kernel_rfl) (by intro s kc ke env; kernel_rfl) .nil)
theorem There56 : There Go.Proofs.Try.prog 56 := ⟨_, Go.Proofs.Try.func56, by kernel_rfl, by kernel_rfl⟩
theorem C56 {c_slices_Clone_int : ((List Int) × Unit → Option (List Int))} {m_slices_Reverse_int : ((List Int) → (Unit) → Option ((List Int) × Unit))} {c_impl_indicesOk : ((List Int) × Int × Unit → Option Bool)} (h_c_slices_Clone_int : Contract Go.Proofs.Try.prog 57 ⟨[(.slice int)], (.slice int), c_slices_Clone_int⟩) (h_m_slices_Reverse_int : MutC Go.Proofs.Try.prog 82 ⟨(.slice int), 0, [], none, m_slices_Reverse_int⟩) (h_c_impl_indicesOk : Contract Go.Proofs.Try.prog 83 ⟨[(.slice int), int], .bool, c_impl_indicesOk⟩) {f : (Int × (List Int) × (List Int) × Unit → Option Bool)} (h : ∀ a0 a1 a2 r, f (a0, a1, a2, ()) = some r → ∃ N, r_impl_IsCircular c_slices_Clone_int m_slices_Reverse_int c_impl_indicesOk N a0 a1 a2 = some r) : Contract Go.Proofs.Try.prog 56 ⟨[int, (.slice int), (.slice int)], .bool, f⟩ := by
  refine contract (E := E56 c_slices_Clone_int m_slices_Reverse_int c_impl_indicesOk) (envOf table ⟨⟨h_c_slices_Clone_int, There57⟩, ⟨⟨h_c_impl_indicesOk, There83⟩, trivial⟩⟩ ⟨⟨h_m_slices_Reverse_int, There82⟩, trivial⟩) mixed Go.Proofs.Try.func56 (c := Go.Proofs.Try.f56.body.getD .skip) (by kernel_rfl) (Nat.le_of_ble_eq_true (by kernel_rfl)) fun xs r hr => ?_
  obtain ⟨a0, a1, a2, _⟩ := xs
  obtain ⟨N, hN⟩ := h _ _ _ r hr
  exact ⟨N, A56 c_slices_Clone_int m_slices_Reverse_int c_impl_indicesOk N, L56 c_slices_Clone_int m_slices_Reverse_int c_impl_indicesOk N, (K56 c_slices_Clone_int m_slices_Reverse_int c_impl_indicesOk N a0 a1 a2).trans hN⟩
theorem X56 : Contract Go.Proofs.Try.prog 56 ⟨[int, (.slice int), (.slice int)], .bool, e_impl_IsCircular⟩ := C56 X57 X82 X83 fun _ _ _ _ h => ⟨N0, h⟩
-- impl_CircularPairs
theorem There28 : There Go.Proofs.Try.prog 28 := ⟨_, Go.Proofs.Try.func28, by kernel_rfl, by kernel_rfl⟩
open Go.Proofs Go.RowKit
theorem cpRow_len (k : Int) (p : List Int) (Q : List (List Int)) : (cpRow k p Q).length ≤ Q.length := by
  simp only [cpRow, List.length_map]; exact List.length_filter_le _ _
theorem flatMap_len {α β : Type} (f : α → List β) (n : Nat) : ∀ (l : List α), (∀ x ∈ l, (f x).length ≤ n) → (l.flatMap f).length ≤ l.length * n
  | [], _ => by simp
  | x :: l, h => by
    have := flatMap_len f n l fun y hy => h y (by simp [hy])
    have hx := h x (by simp)
    simp only [List.flatMap_cons, List.length_append, List.length_cons, Nat.add_mul, Nat.one_mul]
    omega
theorem cpSize_len (k : Int) (P Q : List (List Int)) (h : P.length ≤ 1000) (h2 : Q.length ≤ 1000) : (cpSize k P Q).length ≤ 1000000 := by
  have := flatMap_len (fun p => cpRow k p Q) 1000 P fun p _ => Nat.le_trans (cpRow_len k p Q) h2
  have : P.length * 1000 ≤ 1000 * 1000 := Nat.mul_le_mul_right _ h
  simp only [cpSize]; omega
theorem cpAll_len {k : Int} {n : Nat} (h : cpOk k n) (hn : n ≤ 2) : (cpAll k n).length ≤ 2000000 := by
  have := flatMap_len (fun i => cpSize k (cpL k (i + 1)) (cpL k (i + 1))) 1000000 (List.range n) fun i hi => by
    have := h i (List.mem_range.1 hi)
    exact cpSize_len k _ _ this.2.1 this.2.1
  have h2 : (List.range n).length * 1000000 ≤ 2 * 1000000 := Nat.mul_le_mul_right _ (by simpa using hn)
  simp only [cpAll]; omega
theorem cpAll_succ (k : Int) (n : Nat) : cpAll k (n + 1) = cpAll k n ++ cpSize k (cpL k (n + 1)) (cpL k (n + 1)) := by
  simp [cpAll, List.range_succ]
theorem cpSize_succ (k : Int) {P : List (List Int)} {i : Nat} {p : List Int} (hp : P[i]? = some p) (Q : List (List Int)) : cpSize k (P.take (i + 1)) Q = cpSize k (P.take i) Q ++ cpRow k p Q := by
  simp only [cpSize]
  rw [List.take_add_one, hp]; simp
theorem cpRow_succ (k : Int) (p : List Int) {Q : List (List Int)} {j : Nat} {q : List Int} (hq : Q[j]? = some q) : cpRow k p (Q.take (j + 1)) = cpRow k p (Q.take j) ++ (if circB k p q then [[p, q]] else []) := by
  simp only [cpRow]
  rw [List.take_add_one, hq, List.filter_append, List.map_append]
  cases h : circB k p q <;> simp [h]

theorem choicesC {k m : Int} {L : List (List Int)} (h : e_impl_choices (k, m, ()) = some L) (w : World) : Calls Go.Proofs.Try.prog 55 #[.int .i64 k, .int .i64 m] w fun e w' =>
    ∃ p c, e = .returned (.slice p L.length c) ∧ Grow w w' ∧ Rep true w' T2 [.slice p L.length c] L (fun c => w.heap.size ≤ c ∧ c < w'.heap.size) := by
  refine (X55 (k, m, ()) L [.int .i64 k, .int .i64 m] w h ⟨_, _, rfl, ⟨[.int .i64 k], rfl, rfl⟩, _, _, rfl, ⟨[.int .i64 m], rfl, rfl⟩, rfl⟩).mono fun e w' ⟨v, cs, h1, h2, h3, h4⟩ => ?_
  obtain ⟨p, c, hcs, _⟩ := id h4
  have hcs : cs = [.slice p L.length c] := hcs
  subst hcs
  have hv : v = .slice p L.length c := (List.cons.inj h3).1.symm
  subst hv
  exact ⟨p, c, h1, h2, h4⟩

theorem circC {k : Int} {p q : List Int} {b : Bool} (h : e_impl_IsCircular (k, p, q, ()) = some b) {w : World} {vp vq : Value} (hp : Rep false w T1 [vp] p (fun c => c < w.heap.size)) (hq : Rep false w T1 [vq] q (fun c => c < w.heap.size)) :
    Calls Go.Proofs.Try.prog 56 #[.int .i64 k, vp, vq] w fun e w' => e = .returned (.bool b) ∧ Grow w w' := by
  refine (X56 (k, p, q, ()) b [.int .i64 k, vp, vq] w h ⟨_, _, rfl, ⟨[.int .i64 k], rfl, rfl⟩, _, _, rfl, ⟨[vp], rfl, hp⟩, _, _, rfl, ⟨[vq], rfl, hq⟩, rfl⟩).mono fun e w' ⟨v, cs, h1, h2, h3, h4⟩ => ?_
  simp only [Rep] at h4
  subst h4
  simp only [Shape, Shape1, List.cons.injEq, and_true] at h3
  exact ⟨by rw [h1, h3], h2⟩

theorem cloneC {p : List Int} (h : e_slices_Clone_int (p, ()) = some p) {w : World} {vp : Value} (hp : Rep false w T1 [vp] p (fun c => c < w.heap.size)) :
    Calls Go.Proofs.Try.prog 57 #[vp] w fun e w' => ∃ pc cc, e = .returned (.slice pc p.length cc) ∧ Grow w w' ∧ Rep true w' T1 [.slice pc p.length cc] p (fun c => w.heap.size ≤ c ∧ c < w'.heap.size) := by
  refine (X57 (p, ()) p [vp] w h ⟨_, _, rfl, ⟨[vp], rfl, hp⟩, rfl⟩).mono fun e w' ⟨v, cs, h1, h2, h3, h4⟩ => ?_
  have h3 : cs = [v] := h3
  subst h3
  obtain ⟨pc, cc, hv, _⟩ := id h4
  have hv : v = .slice pc p.length cc := (List.cons.inj hv).1
  subst hv
  exact ⟨pc, cc, h1, h2, h4⟩

theorem cpEnv : EnvOk Go.Proofs.Try.prog ⟨tys, [], [], []⟩ := envOf table trivial trivial
theorem cpT : (⟨tys, [], [], []⟩ : Env).tyOf 50 = some T3 := by kernel_rfl

set_option maxHeartbeats 2000000 in
theorem cpBad (k : Int) (hk : k < 1 ∨ 5 < k) (w : World) : Calls Go.Proofs.Try.prog 28 #[.int .i64 k] w fun e w' => ∃ v, e = .returned v ∧ Gath0 w w' v [] := by
  by_cases h1 : k < 1
  · go_enter Go.Proofs.Try.func28, Go.Proofs.Try.ntmps28
    go_wp2
    go_ret
    exact ⟨_, rfl, Grow.alloc _ _ _, fun _ => False, ⟨_, 0, rfl, Nat.le_refl _, .inl rfl⟩, fun _ h => h.elim⟩
  · have h5 : (5 : Int) < k := by omega
    go_enter Go.Proofs.Try.func28, Go.Proofs.Try.ntmps28
    go_wp2
    go_ret
    exact ⟨_, rfl, Grow.alloc _ _ _, fun _ => False, ⟨_, 0, rfl, Nat.le_refl _, .inl rfl⟩, fun _ h => h.elim⟩

set_option maxRecDepth 1000000 in
set_option maxHeartbeats 4000000 in
theorem cpWalk (k : Int) (hk : ¬ (k < 1 ∨ 5 < k)) (hok : cpOk k (k.toNat / 2)) (w : World) :
    Calls Go.Proofs.Try.prog 28 #[.int .i64 k] w fun e w' => ∃ v, e = .returned v ∧ Gath0 w w' v (cpAll k (k.toNat / 2)) := by
  obtain ⟨K, rfl⟩ : ∃ K : Nat, k = K := ⟨k.toNat, by omega⟩
  have h1 : 1 ≤ K := by omega
  have h5 : K ≤ 5 := by omega
  have hk1 : ¬ (K : Int) < 1 := by omega
  have hk5 : ¬ (5 : Int) < K := by omega
  clear hk
  simp only [Int.toNat_natCast] at hok ⊢
  have HO : Aside _ := hok
  clear hok
  go_enter Go.Proofs.Try.func28, Go.Proofs.Try.ntmps28
  go_wp2_with fail
  go_loopg [3, 4] 10 (fun gg s3 s4 wr => ∃ m : Nat, s4 = .int .i64 ((m : Int) + 1) ∧ m ≤ 2 ∧ m ≤ K / 2 ∧ 2 - m ≤ gg ∧ Aside (Gath0 w wr s3 (cpAll K m)))
  case atStart =>
    exact ⟨0, rfl, by omega, by omega, by omega, (show Aside _ from ⟨Grow.alloc _ _ _, fun _ => False, ⟨_, 0, rfl, Nat.le_refl _, .inl rfl⟩, fun _ h => h.elim⟩)⟩
  case round =>
    obtain ⟨m, rfl, hm2, hmK, hgg, R⟩ := hrel
    by_cases hlt : m < K / 2
    · have hle : (2 : Int) * ((m : Int) + 1) ≤ K := by omega
      obtain ⟨o1, oL, o3⟩ := HO.out m hlt
      have o1 : e_impl_choices (K, (m : Int) + 1, ()) = some (cpL K (m + 1)) := o1
      generalize hL : cpL K (m + 1) = L at o1 oL o3
      have HX := choicesC o1
      have HC : Aside _ := o3
      have HL : Aside _ := hL
      have HX : Aside _ := HX
      clear o1 o3 hL
      go_wp2_with fail
      refine Calls.mono (HX.out wr) ?_
      rintro e w1 ⟨pP, cP, rfl, g1, r1⟩
      have R1 : Aside (Gath1 w w1 u3 (cpAll K m) (.slice pP L.length cP) L) := R.out.with g1 r1
      clear g1 r1
      go_wp2_with fail
      go_loopg [3, 27] L.length (fun gg s3 s27 wr => ∃ i : Nat, s27 = .int .i64 i ∧ i ≤ L.length ∧ L.length - i ≤ gg ∧ Aside (Gath1 w wr s3 (cpAll K m ++ cpSize K (L.take i) L) (.slice pP L.length cP) L))
      case atStart => exact ⟨0, rfl, by omega, by omega, (show Aside _ by simpa [cpSize, Aside] using R1.out)⟩
      case round =>
        obtain ⟨i, rfl, hi, hgi, R2⟩ := hrel
        by_cases hlt2 : i < L.length
        · have hlt2z : (i : Int) < (L.length : Int) := by omega
          obtain ⟨p, hp⟩ : ∃ p, L[i]? = some p := ⟨_, List.getElem?_eq_getElem hlt2⟩
          obtain ⟨b, o, vp, hpP, hcell, R3⟩ := R2.out.elem hp
          subst hpP
          obtain ⟨hclone, hcirc⟩ := HC.out p (List.mem_of_getElem? hp)
          have HP : Aside _ := hp
          have HK : Aside _ := hclone
          have HQ : Aside _ := hcirc
          have R3 : Aside _ := R3
          clear hp hclone hcirc
          go_wp2_with fail
          refine Calls.mono (HX.out wr) ?_
          rintro e w2 ⟨pQ, cQ, rfl, g2, r2⟩
          have R4 : Aside _ := R3.out.fresh g2 r2
          clear g2 r2
          go_wp2_with fail
          go_loopg [3, 35] L.length (fun gg s3 s35 wr => ∃ j : Nat, s35 = .int .i64 j ∧ j ≤ L.length ∧ L.length - j ≤ gg ∧ Aside (Gath w wr s3 (cpAll K m ++ cpSize K (L.take i) L ++ cpRow K p (L.take j)) vp p (.slice (some ⟨b, o, none⟩) L.length cP) L pQ cQ L j))
          case atStart => exact ⟨0, rfl, by omega, by omega, (show Aside _ by simpa [cpRow, Aside] using R4.out)⟩
          case round =>
            obtain ⟨j, rfl, hj, hgj, R5⟩ := hrel
            by_cases hlt3 : j < L.length
            · have hlt3z : (j : Int) < (L.length : Int) := by omega
              obtain ⟨q, hq⟩ : ∃ q, L[j]? = some q := ⟨_, List.getElem?_eq_getElem hlt3⟩
              obtain ⟨b2, o2, pu, cu, hpQ, hcell2, ru⟩ := R5.out.elem hq
              subst hpQ
              generalize hout : cpAll (K : Int) m ++ cpSize (K : Int) (L.take i) L ++ cpRow (K : Int) p (L.take j) = out at R5
              obtain ⟨po, co, hvo⟩ := R5.out.head
              subst hvo
              have HOUT : Aside _ := hout
              have HI := circC (HQ.out q (List.mem_of_getElem? hq)) R5.out.argp ru
              have HQ2 : Aside _ := hq
              have HU : Aside _ := hcell2
              generalize hcb : circB (K : Int) p q = bb at HI
              have HI : Aside _ := HI
              have HCB : Aside _ := hcb
              clear hq ru hcb hout
              cases bb with
              | false =>
                go_wp2_with fail
                refine Calls.mono HI.out ?_
                rintro e w3 ⟨rfl, g3⟩
                have G3 : Aside (Grow wr w3) := g3
                clear g3 hcell2
                go_wp2_with fail
                go_roundg (L.length - (j + 1))
                case measure => omega
                case rel =>
                  refine ⟨j + 1, by go_num, by omega, Nat.le_refl _, (show Aside _ from ?_)⟩
                  rw [cpRow_succ _ _ HQ2.out, HCB.out, ← List.append_assoc, HOUT.out]
                  have := (R5.out.later G3.out).skip HQ2.out
                  simpa [Aside] using this
              | true =>
                go_wp2_with fail
                refine Calls.mono HI.out ?_
                rintro e w3 ⟨rfl, g3⟩
                have R6 : Aside _ := R5.out.later g3
                have HU3 : Aside _ := And.intro (HU.out) g3
                clear g3 hcell2
                go_wp2_with fail
                refine Calls.mono (cloneC HK.out R6.out.argp) ?_
                rintro e w4 ⟨pc, cc, rfl, g4, r4⟩
                have hlen : out.length ≤ 17179869183 := by
                  have k1 : (cpAll (K : Int) m).length ≤ 2000000 := cpAll_len (fun i hi => HO.out i (by omega)) hm2
                  have k2 : (cpSize (K : Int) (L.take i) L).length ≤ 1000000 := cpSize_len _ _ _ (by rw [List.length_take]; omega) oL
                  have k3 : (cpRow (K : Int) p (L.take j)).length ≤ 1000 := Nat.le_trans (cpRow_len _ _ _) (by rw [List.length_take]; omega)
                  rw [← HOUT.out]
                  simp only [List.length_append]
                  omega
                have HR : Aside _ := R6.out.push cpEnv cpT HQ2.out rfl (show w3.cell? ⟨b2, o2 + j, none⟩ = some (.slice pu q.length cu) by rw [← HU3.out.1]; simp only [World.cell?, HU3.out.2.same b2 (by
                  rcases Nat.lt_or_ge b2 wr.heap.size with h | h
                  · exact h
                  · have := HU3.out.1; simp [World.cell?, Array.getElem?_eq_none h] at this)]) g4 r4 hlen 50 (A := 39) (B := 77)
                clear g4 r4 hlen
                obtain ⟨v', w', hrun, R7⟩ := HR.out
                have R7 : Aside _ := R7
                have HRUN : Aside _ := hrun
                clear hrun HR
                go_wp2_with (at_builtin; refine wpList_append_run rfl rfl rfl rfl HRUN.out ?_)
                go_roundg (L.length - (j + 1))
                case measure => omega
                case rel =>
                  refine ⟨j + 1, by go_num, by omega, Nat.le_refl _, (show Aside _ from ?_)⟩
                  rw [cpRow_succ _ _ HQ2.out, HCB.out, ← List.append_assoc, HOUT.out]
                  exact R7.out
            · obtain rfl : j = L.length := by omega
              have hlt3z : ¬ (L.length : Int) < (L.length : Int) := by omega
              go_wp2_with fail
              go_roundg (L.length - (i + 1))
              case measure => omega
              case rel =>
                refine ⟨i + 1, by go_num, by omega, Nat.le_refl _, (show Aside _ from ?_)⟩
                have := R5.out.drop
                rw [List.take_length, List.append_assoc, ← cpSize_succ _ HP.out] at this
                exact this
        · obtain rfl : i = L.length := by omega
          have hlt2z : ¬ (L.length : Int) < (L.length : Int) := by omega
          go_wp2_with fail
          go_roundg (2 - (m + 1))
          case measure => omega
          case rel =>
            refine ⟨m + 1, by go_num, by omega, by omega, Nat.le_refl _, (show Aside _ from ?_)⟩
            have := R2.out.drop
            rw [List.take_length] at this
            rw [cpAll_succ, HL.out]
            exact this
    · obtain rfl : m = K / 2 := by omega
      have hle : ¬ (2 : Int) * (((K / 2 : Nat) : Int) + 1) ≤ K := by omega
      go_wp2_with fail
      go_ret
      exact ⟨_, rfl, R.out⟩

theorem cpContract {k : Int} {u : Unit} {r : List (List (List Int))} (h : e_impl_CircularPairs (k, u) = some r) (w : World) : Calls Go.Proofs.Try.prog 28 #[.int .i64 k] w fun e w' => ∃ v cs, e = .returned v ∧ Grow w w' ∧ Shape T3 v cs ∧ Rep true w' T3 cs r (fun c => w.heap.size ≤ c ∧ c < w'.heap.size) := by
  have key : Calls Go.Proofs.Try.prog 28 #[.int .i64 k] w fun e w' => ∃ v, e = .returned v ∧ Gath0 w w' v r := by
    unfold e_impl_CircularPairs at h
    split at h
    · rename_i hk
      simp only [Option.some.injEq] at h
      subst h
      exact cpBad k hk w
    · rename_i hk
      split at h
      · rename_i hok
        simp only [Option.some.injEq] at h
        subst h
        exact cpWalk k hk hok w
      · simp at h
  refine key.mono fun e w' ⟨v, h1, h2⟩ => ?_
  obtain ⟨So, h3, h4⟩ := h2.ex
  exact ⟨v, [v], h1, h2.grow, rfl, h3.mono h4⟩

theorem X28 : Contract Go.Proofs.Try.prog 28 ⟨[int], .slice (.slice (.slice int)), e_impl_CircularPairs⟩ := by
  intro xs r vs w hr hargs
  obtain ⟨k, u⟩ := xs
  obtain ⟨v1, vr, rfl, ⟨cs1, sh1, rp1⟩, rfl⟩ := hargs
  have rp1 : cs1 = [.int .i64 k] := rp1
  subst rp1
  have e1 : v1 = .int .i64 k := (List.cons.inj sh1).1.symm
  subst e1
  exact cpContract hr w


-- laws_eqIntS
def E22 : Env := ⟨tys, [], [], []⟩
def A22 (N : Nat) : List (Nat × Loop (Ty.den .bool)) := [(0, ⟨[(0, .ro none (.slice (.num .i64))), (1, .ro none (.slice (.num .i64))), (5, .ro none (.num .i64))], r_laws_eqIntS_L0 N⟩)]
theorem K22 (N : Nat) (a0 : (List Int)) (a1 : (List Int)) : fnK N (E22) Go.Proofs.Try.f22 [(.slice int), (.slice int)] .bool (A22 N) (a0, a1, ()) = r_laws_eqIntS N a0 a1 := by kernel_rfl
theorem L22 (N : Nat) : LoopsOk N (E22) (A22 N) Go.Proofs.Try.f22.ntmps (retOf (E22) Go.Proofs.Try.f22 .bool) (loopsOf (Go.Proofs.Try.f22.body.getD .skip)) :=
  LoopsOk.of (l := [(0, lb Go.Proofs.Try.f22 0)]) (by kernel_rfl) (.cons (L := ⟨[(0, .ro none (.slice (.num .i64))), (1, .ro none (.slice (.num .i64))), (5, .ro none (.num .i64))], r_laws_eqIntS_L0 N⟩) (by kernel_rfl) (by intro s kc ke env; kernel_rfl) .nil)
theorem There22 : There Go.Proofs.Try.prog 22 := ⟨_, Go.Proofs.Try.func22, by kernel_rfl, by kernel_rfl⟩
theorem C22 {f : ((List Int) × (List Int) × Unit → Option Bool)} (h : ∀ a0 a1 r, f (a0, a1, ()) = some r → ∃ N, r_laws_eqIntS N a0 a1 = some r) : Contract Go.Proofs.Try.prog 22 ⟨[(.slice int), (.slice int)], .bool, f⟩ := by
  refine contract (E := E22) (envOf table trivial trivial) mixed Go.Proofs.Try.func22 (c := Go.Proofs.Try.f22.body.getD .skip) (by kernel_rfl) (Nat.le_of_ble_eq_true (by kernel_rfl)) fun xs r hr => ?_
  obtain ⟨a0, a1, _⟩ := xs
  obtain ⟨N, hN⟩ := h _ _ r hr
  exact ⟨N, A22 N, L22 N, (K22 N a0 a1).trans hN⟩
theorem X22 : Contract Go.Proofs.Try.prog 22 ⟨[(.slice int), (.slice int)], .bool, e_laws_eqIntS⟩ := C22 fun _ _ _ h => ⟨N0, h⟩
-- laws_eqIntSS
def E58 (c_laws_eqIntS : ((List Int) × (List Int) × Unit → Option Bool)) : Env := ⟨tys, [], [(22, ⟨[(.slice int), (.slice int)], .bool, c_laws_eqIntS⟩)], []⟩
def A58 (c_laws_eqIntS : ((List Int) × (List Int) × Unit → Option Bool)) (N : Nat) : List (Nat × Loop (Ty.den .bool)) := [(0, ⟨[(0, .ro none (.slice (.slice (.num .i64)))), (1, .ro none (.slice (.slice (.num .i64)))), (5, .ro none (.num .i64))], r_laws_eqIntSS_L0 c_laws_eqIntS N⟩)]
theorem K58 (c_laws_eqIntS : ((List Int) × (List Int) × Unit → Option Bool)) (N : Nat) (a0 : (List (List Int))) (a1 : (List (List Int))) : fnK N (E58 c_laws_eqIntS) Go.Proofs.Try.f58 [(.slice (.slice int)), (.slice (.slice int))] .bool (A58 c_laws_eqIntS N) (a0, a1, ()) = r_laws_eqIntSS c_laws_eqIntS N a0 a1 := by kernel_rfl
theorem L58 (c_laws_eqIntS : ((List Int) × (List Int) × Unit → Option Bool)) (N : Nat) : LoopsOk N (E58 c_laws_eqIntS) (A58 c_laws_eqIntS N) Go.Proofs.Try.f58.ntmps (retOf (E58 c_laws_eqIntS) Go.Proofs.Try.f58 .bool) (loopsOf (Go.Proofs.Try.f58.body.getD .skip)) :=
  LoopsOk.of (l := [(0, lb Go.Proofs.Try.f58 0)]) (by kernel_rfl) (.cons (L := ⟨[(0, .ro none (.slice (.slice (.num .i64)))), (1, .ro none (.slice (.slice (.num .i64)))), (5, .ro none (.num .i64))], r_laws_eqIntSS_L0 c_laws_eqIntS N⟩) (by kernel_rfl) (by intro s kc ke env; kernel_rfl) .nil)
theorem There58 : There Go.Proofs.Try.prog 58 := ⟨_, Go.Proofs.Try.func58, by kernel_rfl, by kernel_rfl⟩
theorem C58 {c_laws_eqIntS : ((List Int) × (List Int) × Unit → Option Bool)} (h_c_laws_eqIntS : Contract Go.Proofs.Try.prog 22 ⟨[(.slice int), (.slice int)], .bool, c_laws_eqIntS⟩) {f : ((List (List Int)) × (List (List Int)) × Unit → Option Bool)} (h : ∀ a0 a1 r, f (a0, a1, ()) = some r → ∃ N, r_laws_eqIntSS c_laws_eqIntS N a0 a1 = some r) : Contract Go.Proofs.Try.prog 58 ⟨[(.slice (.slice int)), (.slice (.slice int))], .bool, f⟩ := by
  refine contract (E := E58 c_laws_eqIntS) (envOf table ⟨⟨h_c_laws_eqIntS, There22⟩, trivial⟩ trivial) mixed Go.Proofs.Try.func58 (c := Go.Proofs.Try.f58.body.getD .skip) (by kernel_rfl) (Nat.le_of_ble_eq_true (by kernel_rfl)) fun xs r hr => ?_
  obtain ⟨a0, a1, _⟩ := xs
  obtain ⟨N, hN⟩ := h _ _ r hr
  exact ⟨N, A58 c_laws_eqIntS N, L58 c_laws_eqIntS N, (K58 c_laws_eqIntS N a0 a1).trans hN⟩
theorem X58 : Contract Go.Proofs.Try.prog 58 ⟨[(.slice (.slice int)), (.slice (.slice int))], .bool, e_laws_eqIntSS⟩ := C58 X22 fun _ _ _ h => ⟨N0, h⟩
-- laws_eqIntSSS
def E29 (c_laws_eqIntSS : ((List (List Int)) × (List (List Int)) × Unit → Option Bool)) : Env := ⟨tys, [], [(58, ⟨[(.slice (.slice int)), (.slice (.slice int))], .bool, c_laws_eqIntSS⟩)], []⟩
def A29 (c_laws_eqIntSS : ((List (List Int)) × (List (List Int)) × Unit → Option Bool)) (N : Nat) : List (Nat × Loop (Ty.den .bool)) := [(0, ⟨[(0, .ro none (.slice (.slice (.slice (.num .i64))))), (1, .ro none (.slice (.slice (.slice (.num .i64))))), (5, .ro none (.num .i64))], r_laws_eqIntSSS_L0 c_laws_eqIntSS N⟩)]
theorem K29 (c_laws_eqIntSS : ((List (List Int)) × (List (List Int)) × Unit → Option Bool)) (N : Nat) (a0 : (List (List (List Int)))) (a1 : (List (List (List Int)))) : fnK N (E29 c_laws_eqIntSS) Go.Proofs.Try.f29 [(.slice (.slice (.slice int))), (.slice (.slice (.slice int)))] .bool (A29 c_laws_eqIntSS N) (a0, a1, ()) = r_laws_eqIntSSS c_laws_eqIntSS N a0 a1 := by kernel_rfl
theorem L29 (c_laws_eqIntSS : ((List (List Int)) × (List (List Int)) × Unit → Option Bool)) (N : Nat) : LoopsOk N (E29 c_laws_eqIntSS) (A29 c_laws_eqIntSS N) Go.Proofs.Try.f29.ntmps (retOf (E29 c_laws_eqIntSS) Go.Proofs.Try.f29 .bool) (loopsOf (Go.Proofs.Try.f29.body.getD .skip)) :=
  LoopsOk.of (l := [(0, lb Go.Proofs.Try.f29 0)]) (by kernel_rfl) (.cons (L := ⟨[(0, .ro none (.slice (.slice (.slice (.num .i64))))), (1, .ro none (.slice (.slice (.slice (.num .i64))))), (5, .ro none (.num .i64))], r_laws_eqIntSSS_L0 c_laws_eqIntSS N⟩) (by kernel_rfl) (by intro s kc ke env; kernel_rfl) .nil)
theorem There29 : There Go.Proofs.Try.prog 29 := ⟨_, Go.Proofs.Try.func29, by kernel_rfl, by kernel_rfl⟩
theorem C29 {c_laws_eqIntSS : ((List (List Int)) × (List (List Int)) × Unit → Option Bool)} (h_c_laws_eqIntSS : Contract Go.Proofs.Try.prog 58 ⟨[(.slice (.slice int)), (.slice (.slice int))], .bool, c_laws_eqIntSS⟩) {f : ((List (List (List Int))) × (List (List (List Int))) × Unit → Option Bool)} (h : ∀ a0 a1 r, f (a0, a1, ()) = some r → ∃ N, r_laws_eqIntSSS c_laws_eqIntSS N a0 a1 = some r) : Contract Go.Proofs.Try.prog 29 ⟨[(.slice (.slice (.slice int))), (.slice (.slice (.slice int)))], .bool, f⟩ := by
  refine contract (E := E29 c_laws_eqIntSS) (envOf table ⟨⟨h_c_laws_eqIntSS, There58⟩, trivial⟩ trivial) mixed Go.Proofs.Try.func29 (c := Go.Proofs.Try.f29.body.getD .skip) (by kernel_rfl) (Nat.le_of_ble_eq_true (by kernel_rfl)) fun xs r hr => ?_
  obtain ⟨a0, a1, _⟩ := xs
  obtain ⟨N, hN⟩ := h _ _ r hr
  exact ⟨N, A29 c_laws_eqIntSS N, L29 c_laws_eqIntSS N, (K29 c_laws_eqIntSS N a0 a1).trans hN⟩
theorem X29 : Contract Go.Proofs.Try.prog 29 ⟨[(.slice (.slice (.slice int))), (.slice (.slice (.slice int)))], .bool, e_laws_eqIntSSS⟩ := C29 X58 fun _ _ _ h => ⟨N0, h⟩
-- laws_markIntS
def E25 : Env := ⟨tys, [], [], []⟩
def A25 (N : Nat) : List (Nat × Loop (Ty.den (.slice int) × resDen (some int))) := [(0, ⟨[(0, .own (.slice (.num .i64))), (1, .ro none (.num .i64)), (5, .ro none (.num .i64))], r_laws_markIntS_L0 N⟩)]
theorem K25 (m_laws_markIntS_ : ((List Int) → (Int × Unit) → Option ((List Int) × Int))) (N : Nat) (a0 : (List Int)) (a1 : Int) : fnMut N (E25) Go.Proofs.Try.f25 ⟨(.slice int), 0, [int], some int, m_laws_markIntS_⟩ (A25 N) a0 (a1, ()) = r_laws_markIntS N a0 a1 := by kernel_rfl
theorem L25 (m_laws_markIntS_ : ((List Int) → (Int × Unit) → Option ((List Int) × Int))) (N : Nat) : LoopsOk N (E25) (A25 N) Go.Proofs.Try.f25.ntmps (retM (E25) Go.Proofs.Try.f25 ⟨(.slice int), 0, [int], some int, m_laws_markIntS_⟩) (loopsOf (Go.Proofs.Try.f25.body.getD .skip)) :=
  LoopsOk.of (l := [(0, lb Go.Proofs.Try.f25 0)]) (by kernel_rfl) (.cons (L := ⟨[(0, .own (.slice (.num .i64))), (1, .ro none (.num .i64)), (5, .ro none (.num .i64))], r_laws_markIntS_L0 N⟩) (by kernel_rfl) (by intro s kc ke env; kernel_rfl) .nil)
theorem There25 : There Go.Proofs.Try.prog 25 := ⟨_, Go.Proofs.Try.func25, by kernel_rfl, by kernel_rfl⟩
theorem C25 {f : ((List Int) → (Int × Unit) → Option ((List Int) × Int))} (h : ∀ a0 a1 r, f a0 (a1, ()) = some r → ∃ N, r_laws_markIntS N a0 a1 = some r) : MutC Go.Proofs.Try.prog 25 ⟨(.slice int), 0, [int], some int, f⟩ := by
  refine mutC (E := E25) (envOf table trivial trivial) mixed Go.Proofs.Try.func25 (c := Go.Proofs.Try.f25.body.getD .skip) (by kernel_rfl) (Nat.le_of_ble_eq_true (by kernel_rfl)) (Nat.le_of_ble_eq_true (by kernel_rfl)) (by kernel_rfl) fun a0 xs r hr => ?_
  obtain ⟨a1, _⟩ := xs
  obtain ⟨N, hN⟩ := h _ _ r hr
  exact ⟨N, A25 N, L25 f N, (K25 f N a0 a1).trans hN⟩
theorem X25 : MutC Go.Proofs.Try.prog 25 ⟨(.slice int), 0, [int], some int, e_laws_markIntS⟩ := C25 fun _ _ _ h => ⟨N0, h⟩
-- laws_markIntSS
def E59 (m_laws_markIntS : ((List Int) → (Int × Unit) → Option ((List Int) × Int))) : Env := ⟨tys, [], [], [(25, ⟨(.slice int), 0, [int], some int, m_laws_markIntS⟩)]⟩
def A59 (m_laws_markIntS : ((List Int) → (Int × Unit) → Option ((List Int) × Int))) (N : Nat) : List (Nat × Loop (Ty.den (.slice (.slice int)) × resDen (some int))) := [(0, ⟨[(0, .own (.slice (.slice (.num .i64)))), (1, .ro none (.num .i64)), (5, .ro none (.num .i64))], r_laws_markIntSS_L0 m_laws_markIntS N⟩)]
theorem K59 (m_laws_markIntS : ((List Int) → (Int × Unit) → Option ((List Int) × Int))) (m_laws_markIntSS_ : ((List (List Int)) → (Int × Unit) → Option ((List (List Int)) × Int))) (N : Nat) (a0 : (List (List Int))) (a1 : Int) : fnMut N (E59 m_laws_markIntS) Go.Proofs.Try.f59 ⟨(.slice (.slice int)), 0, [int], some int, m_laws_markIntSS_⟩ (A59 m_laws_markIntS N) a0 (a1, ()) = r_laws_markIntSS m_laws_markIntS N a0 a1 := by kernel_rfl
theorem L59 (m_laws_markIntS : ((List Int) → (Int × Unit) → Option ((List Int) × Int))) (m_laws_markIntSS_ : ((List (List Int)) → (Int × Unit) → Option ((List (List Int)) × Int))) (N : Nat) : LoopsOk N (E59 m_laws_markIntS) (A59 m_laws_markIntS N) Go.Proofs.Try.f59.ntmps (retM (E59 m_laws_markIntS) Go.Proofs.Try.f59 ⟨(.slice (.slice int)), 0, [int], some int, m_laws_markIntSS_⟩) (loopsOf (Go.Proofs.Try.f59.body.getD .skip)) :=
  LoopsOk.of (l := [(0, lb Go.Proofs.Try.f59 0)]) (by kernel_rfl) (.cons (L := ⟨[(0, .own (.slice (.slice (.num .i64)))), (1, .ro none (.num .i64)), (5, .ro none (.num .i64))], r_laws_markIntSS_L0 m_laws_markIntS N⟩) (by kernel_rfl) (by intro s kc ke env; kernel_rfl) .nil)
theorem There59 : There Go.Proofs.Try.prog 59 := ⟨_, Go.Proofs.Try.func59, by kernel_rfl, by kernel_rfl⟩
theorem C59 {m_laws_markIntS : ((List Int) → (Int × Unit) → Option ((List Int) × Int))} (h_m_laws_markIntS : MutC Go.Proofs.Try.prog 25 ⟨(.slice int), 0, [int], some int, m_laws_markIntS⟩) {f : ((List (List Int)) → (Int × Unit) → Option ((List (List Int)) × Int))} (h : ∀ a0 a1 r, f a0 (a1, ()) = some r → ∃ N, r_laws_markIntSS m_laws_markIntS N a0 a1 = some r) : MutC Go.Proofs.Try.prog 59 ⟨(.slice (.slice int)), 0, [int], some int, f⟩ := by
  refine mutC (E := E59 m_laws_markIntS) (envOf table trivial ⟨⟨h_m_laws_markIntS, There25⟩, trivial⟩) mixed Go.Proofs.Try.func59 (c := Go.Proofs.Try.f59.body.getD .skip) (by kernel_rfl) (Nat.le_of_ble_eq_true (by kernel_rfl)) (Nat.le_of_ble_eq_true (by kernel_rfl)) (by kernel_rfl) fun a0 xs r hr => ?_
  obtain ⟨a1, _⟩ := xs
  obtain ⟨N, hN⟩ := h _ _ r hr
  exact ⟨N, A59 m_laws_markIntS N, L59 m_laws_markIntS f N, (K59 m_laws_markIntS f N a0 a1).trans hN⟩
theorem X59 : MutC Go.Proofs.Try.prog 59 ⟨(.slice (.slice int)), 0, [int], some int, e_laws_markIntSS⟩ := C59 X25 fun _ _ _ h => ⟨N0, h⟩
-- laws_markIntSSS
def E30 (m_laws_markIntSS : ((List (List Int)) → (Int × Unit) → Option ((List (List Int)) × Int))) : Env := ⟨tys, [], [], [(59, ⟨(.slice (.slice int)), 0, [int], some int, m_laws_markIntSS⟩)]⟩
def A30 (m_laws_markIntSS : ((List (List Int)) → (Int × Unit) → Option ((List (List Int)) × Int))) (N : Nat) : List (Nat × Loop (Ty.den (.slice (.slice (.slice int))) × resDen (some int))) := [(0, ⟨[(0, .own (.slice (.slice (.slice (.num .i64))))), (1, .ro none (.num .i64)), (5, .ro none (.num .i64))], r_laws_markIntSSS_L0 m_laws_markIntSS N⟩)]
theorem K30 (m_laws_markIntSS : ((List (List Int)) → (Int × Unit) → Option ((List (List Int)) × Int))) (m_laws_markIntSSS_ : ((List (List (List Int))) → (Int × Unit) → Option ((List (List (List Int))) × Int))) (N : Nat) (a0 : (List (List (List Int)))) (a1 : Int) : fnMut N (E30 m_laws_markIntSS) Go.Proofs.Try.f30 ⟨(.slice (.slice (.slice int))), 0, [int], some int, m_laws_markIntSSS_⟩ (A30 m_laws_markIntSS N) a0 (a1, ()) = r_laws_markIntSSS m_laws_markIntSS N a0 a1 := by kernel_rfl
theorem L30 (m_laws_markIntSS : ((List (List Int)) → (Int × Unit) → Option ((List (List Int)) × Int))) (m_laws_markIntSSS_ : ((List (List (List Int))) → (Int × Unit) → Option ((List (List (List Int))) × Int))) (N : Nat) : LoopsOk N (E30 m_laws_markIntSS) (A30 m_laws_markIntSS N) Go.Proofs.Try.f30.ntmps (retM (E30 m_laws_markIntSS) Go.Proofs.Try.f30 ⟨(.slice (.slice (.slice int))), 0, [int], some int, m_laws_markIntSSS_⟩) (loopsOf (Go.Proofs.Try.f30.body.getD .skip)) :=
  LoopsOk.of (l := [(0, lb Go.Proofs.Try.f30 0)]) (by kernel_rfl) (.cons (L := ⟨[(0, .own (.slice (.slice (.slice (.num .i64))))), (1, .ro none (.num .i64)), (5, .ro none (.num .i64))], r_laws_markIntSSS_L0 m_laws_markIntSS N⟩) (by kernel_rfl) (by intro s kc ke env; kernel_rfl) .nil)
theorem There30 : There Go.Proofs.Try.prog 30 := ⟨_, Go.Proofs.Try.func30, by kernel_rfl, by kernel_rfl⟩
theorem C30 {m_laws_markIntSS : ((List (List Int)) → (Int × Unit) → Option ((List (List Int)) × Int))} (h_m_laws_markIntSS : MutC Go.Proofs.Try.prog 59 ⟨(.slice (.slice int)), 0, [int], some int, m_laws_markIntSS⟩) {f : ((List (List (List Int))) → (Int × Unit) → Option ((List (List (List Int))) × Int))} (h : ∀ a0 a1 r, f a0 (a1, ()) = some r → ∃ N, r_laws_markIntSSS m_laws_markIntSS N a0 a1 = some r) : MutC Go.Proofs.Try.prog 30 ⟨(.slice (.slice (.slice int))), 0, [int], some int, f⟩ := by
  refine mutC (E := E30 m_laws_markIntSS) (envOf table trivial ⟨⟨h_m_laws_markIntSS, There59⟩, trivial⟩) mixed Go.Proofs.Try.func30 (c := Go.Proofs.Try.f30.body.getD .skip) (by kernel_rfl) (Nat.le_of_ble_eq_true (by kernel_rfl)) (Nat.le_of_ble_eq_true (by kernel_rfl)) (by kernel_rfl) fun a0 xs r hr => ?_
  obtain ⟨a1, _⟩ := xs
  obtain ⟨N, hN⟩ := h _ _ r hr
  exact ⟨N, A30 m_laws_markIntSS N, L30 m_laws_markIntSS f N, (K30 m_laws_markIntSS f N a0 a1).trans hN⟩
theorem X30 : MutC Go.Proofs.Try.prog 30 ⟨(.slice (.slice (.slice int))), 0, [int], some int, e_laws_markIntSSS⟩ := C30 X59 fun _ _ _ h => ⟨N0, h⟩
-- laws_heldIntS
def E26 : Env := ⟨tys, [], [], []⟩
def A26 (N : Nat) : List (Nat × Loop (Ty.den int)) := [(0, ⟨[(0, .ro none (.slice (.num .i64))), (1, .ro none (.num .i64)), (5, .ro none (.num .i64))], r_laws_heldIntS_L0 N⟩)]
theorem K26 (N : Nat) (a0 : (List Int)) (a1 : Int) : fnK N (E26) Go.Proofs.Try.f26 [(.slice int), int] int (A26 N) (a0, a1, ()) = r_laws_heldIntS N a0 a1 := by kernel_rfl
theorem L26 (N : Nat) : LoopsOk N (E26) (A26 N) Go.Proofs.Try.f26.ntmps (retOf (E26) Go.Proofs.Try.f26 int) (loopsOf (Go.Proofs.Try.f26.body.getD .skip)) :=
  LoopsOk.of (l := [(0, lb Go.Proofs.Try.f26 0)]) (by kernel_rfl) (.cons (L := ⟨[(0, .ro none (.slice (.num .i64))), (1, .ro none (.num .i64)), (5, .ro none (.num .i64))], r_laws_heldIntS_L0 N⟩) (by kernel_rfl) (by intro s kc ke env; kernel_rfl) .nil)
theorem There26 : There Go.Proofs.Try.prog 26 := ⟨_, Go.Proofs.Try.func26, by kernel_rfl, by kernel_rfl⟩
theorem C26 {f : ((List Int) × Int × Unit → Option Int)} (h : ∀ a0 a1 r, f (a0, a1, ()) = some r → ∃ N, r_laws_heldIntS N a0 a1 = some r) : Contract Go.Proofs.Try.prog 26 ⟨[(.slice int), int], int, f⟩ := by
  refine contract (E := E26) (envOf table trivial trivial) mixed Go.Proofs.Try.func26 (c := Go.Proofs.Try.f26.body.getD .skip) (by kernel_rfl) (Nat.le_of_ble_eq_true (by kernel_rfl)) fun xs r hr => ?_
  obtain ⟨a0, a1, _⟩ := xs
  obtain ⟨N, hN⟩ := h _ _ r hr
  exact ⟨N, A26 N, L26 N, (K26 N a0 a1).trans hN⟩
theorem X26 : Contract Go.Proofs.Try.prog 26 ⟨[(.slice int), int], int, e_laws_heldIntS⟩ := C26 fun _ _ _ h => ⟨N0, h⟩
-- laws_heldIntSS
def E60 (c_laws_heldIntS : ((List Int) × Int × Unit → Option Int)) : Env := ⟨tys, [], [(26, ⟨[(.slice int), int], int, c_laws_heldIntS⟩)], []⟩
def A60 (c_laws_heldIntS : ((List Int) × Int × Unit → Option Int)) (N : Nat) : List (Nat × Loop (Ty.den int)) := [(0, ⟨[(0, .ro none (.slice (.slice (.num .i64)))), (1, .ro none (.num .i64)), (5, .ro none (.num .i64))], r_laws_heldIntSS_L0 c_laws_heldIntS N⟩)]
theorem K60 (c_laws_heldIntS : ((List Int) × Int × Unit → Option Int)) (N : Nat) (a0 : (List (List Int))) (a1 : Int) : fnK N (E60 c_laws_heldIntS) Go.Proofs.Try.f60 [(.slice (.slice int)), int] int (A60 c_laws_heldIntS N) (a0, a1, ()) = r_laws_heldIntSS c_laws_heldIntS N a0 a1 := by kernel_rfl
theorem L60 (c_laws_heldIntS : ((List Int) × Int × Unit → Option Int)) (N : Nat) : LoopsOk N (E60 c_laws_heldIntS) (A60 c_laws_heldIntS N) Go.Proofs.Try.f60.ntmps (retOf (E60 c_laws_heldIntS) Go.Proofs.Try.f60 int) (loopsOf (Go.Proofs.Try.f60.body.getD .skip)) :=
  LoopsOk.of (l := [(0, lb Go.Proofs.Try.f60 0)]) (by kernel_rfl) (.cons (L := ⟨[(0, .ro none (.slice (.slice (.num .i64)))), (1, .ro none (.num .i64)), (5, .ro none (.num .i64))], r_laws_heldIntSS_L0 c_laws_heldIntS N⟩) (by kernel_rfl) (by intro s kc ke env; kernel_rfl) .nil)
theorem There60 : There Go.Proofs.Try.prog 60 := ⟨_, Go.Proofs.Try.func60, by kernel_rfl, by kernel_rfl⟩
theorem C60 {c_laws_heldIntS : ((List Int) × Int × Unit → Option Int)} (h_c_laws_heldIntS : Contract Go.Proofs.Try.prog 26 ⟨[(.slice int), int], int, c_laws_heldIntS⟩) {f : ((List (List Int)) × Int × Unit → Option Int)} (h : ∀ a0 a1 r, f (a0, a1, ()) = some r → ∃ N, r_laws_heldIntSS c_laws_heldIntS N a0 a1 = some r) : Contract Go.Proofs.Try.prog 60 ⟨[(.slice (.slice int)), int], int, f⟩ := by
  refine contract (E := E60 c_laws_heldIntS) (envOf table ⟨⟨h_c_laws_heldIntS, There26⟩, trivial⟩ trivial) mixed Go.Proofs.Try.func60 (c := Go.Proofs.Try.f60.body.getD .skip) (by kernel_rfl) (Nat.le_of_ble_eq_true (by kernel_rfl)) fun xs r hr => ?_
  obtain ⟨a0, a1, _⟩ := xs
  obtain ⟨N, hN⟩ := h _ _ r hr
  exact ⟨N, A60 c_laws_heldIntS N, L60 c_laws_heldIntS N, (K60 c_laws_heldIntS N a0 a1).trans hN⟩
theorem X60 : Contract Go.Proofs.Try.prog 60 ⟨[(.slice (.slice int)), int], int, e_laws_heldIntSS⟩ := C60 X26 fun _ _ _ h => ⟨N0, h⟩
-- laws_heldIntSSS
def E31 (c_laws_heldIntSS : ((List (List Int)) × Int × Unit → Option Int)) : Env := ⟨tys, [], [(60, ⟨[(.slice (.slice int)), int], int, c_laws_heldIntSS⟩)], []⟩
def A31 (c_laws_heldIntSS : ((List (List Int)) × Int × Unit → Option Int)) (N : Nat) : List (Nat × Loop (Ty.den int)) := [(0, ⟨[(0, .ro none (.slice (.slice (.slice (.num .i64))))), (1, .ro none (.num .i64)), (5, .ro none (.num .i64))], r_laws_heldIntSSS_L0 c_laws_heldIntSS N⟩)]
theorem K31 (c_laws_heldIntSS : ((List (List Int)) × Int × Unit → Option Int)) (N : Nat) (a0 : (List (List (List Int)))) (a1 : Int) : fnK N (E31 c_laws_heldIntSS) Go.Proofs.Try.f31 [(.slice (.slice (.slice int))), int] int (A31 c_laws_heldIntSS N) (a0, a1, ()) = r_laws_heldIntSSS c_laws_heldIntSS N a0 a1 := by kernel_rfl
theorem L31 (c_laws_heldIntSS : ((List (List Int)) × Int × Unit → Option Int)) (N : Nat) : LoopsOk N (E31 c_laws_heldIntSS) (A31 c_laws_heldIntSS N) Go.Proofs.Try.f31.ntmps (retOf (E31 c_laws_heldIntSS) Go.Proofs.Try.f31 int) (loopsOf (Go.Proofs.Try.f31.body.getD .skip)) :=
  LoopsOk.of (l := [(0, lb Go.Proofs.Try.f31 0)]) (by kernel_rfl) (.cons (L := ⟨[(0, .ro none (.slice (.slice (.slice (.num .i64))))), (1, .ro none (.num .i64)), (5, .ro none (.num .i64))], r_laws_heldIntSSS_L0 c_laws_heldIntSS N⟩) (by kernel_rfl) (by intro s kc ke env; kernel_rfl) .nil)
theorem There31 : There Go.Proofs.Try.prog 31 := ⟨_, Go.Proofs.Try.func31, by kernel_rfl, by kernel_rfl⟩
theorem C31 {c_laws_heldIntSS : ((List (List Int)) × Int × Unit → Option Int)} (h_c_laws_heldIntSS : Contract Go.Proofs.Try.prog 60 ⟨[(.slice (.slice int)), int], int, c_laws_heldIntSS⟩) {f : ((List (List (List Int))) × Int × Unit → Option Int)} (h : ∀ a0 a1 r, f (a0, a1, ()) = some r → ∃ N, r_laws_heldIntSSS c_laws_heldIntSS N a0 a1 = some r) : Contract Go.Proofs.Try.prog 31 ⟨[(.slice (.slice (.slice int))), int], int, f⟩ := by
  refine contract (E := E31 c_laws_heldIntSS) (envOf table ⟨⟨h_c_laws_heldIntSS, There60⟩, trivial⟩ trivial) mixed Go.Proofs.Try.func31 (c := Go.Proofs.Try.f31.body.getD .skip) (by kernel_rfl) (Nat.le_of_ble_eq_true (by kernel_rfl)) fun xs r hr => ?_
  obtain ⟨a0, a1, _⟩ := xs
  obtain ⟨N, hN⟩ := h _ _ r hr
  exact ⟨N, A31 c_laws_heldIntSS N, L31 c_laws_heldIntSS N, (K31 c_laws_heldIntSS N a0 a1).trans hN⟩
theorem X31 : Contract Go.Proofs.Try.prog 31 ⟨[(.slice (.slice (.slice int))), int], int, e_laws_heldIntSSS⟩ := C31 X60 fun _ _ _ h => ⟨N0, h⟩
-- laws_FnExactCircularPairs
def E6 (c_spec_CircularPairs : (Int × Unit → Option (List (List (List Int))))) (c_impl_CircularPairs : (Int × Unit → Option (List (List (List Int))))) (c_laws_eqIntSSS : ((List (List (List Int))) × (List (List (List Int))) × Unit → Option Bool)) (m_laws_markIntSSS : ((List (List (List Int))) → (Int × Unit) → Option ((List (List (List Int))) × Int))) (c_laws_heldIntSSS : ((List (List (List Int))) × Int × Unit → Option Int)) : Env := ⟨tys, [], [(27, ⟨[int], (.slice (.slice (.slice int))), c_spec_CircularPairs⟩), (28, ⟨[int], (.slice (.slice (.slice int))), c_impl_CircularPairs⟩), (29, ⟨[(.slice (.slice (.slice int))), (.slice (.slice (.slice int)))], .bool, c_laws_eqIntSSS⟩), (31, ⟨[(.slice (.slice (.slice int))), int], int, c_laws_heldIntSSS⟩)], [(30, ⟨(.slice (.slice (.slice int))), 0, [int], some int, m_laws_markIntSSS⟩)]⟩
def A6 (_c_spec_CircularPairs : (Int × Unit → Option (List (List (List Int))))) (_c_impl_CircularPairs : (Int × Unit → Option (List (List (List Int))))) (_c_laws_eqIntSSS : ((List (List (List Int))) × (List (List (List Int))) × Unit → Option Bool)) (_m_laws_markIntSSS : ((List (List (List Int))) → (Int × Unit) → Option ((List (List (List Int))) × Int))) (_c_laws_heldIntSSS : ((List (List (List Int))) × Int × Unit → Option Int)) (_N : Nat) : List (Nat × Loop (Ty.den .bool)) := []
theorem K6 (c_spec_CircularPairs : (Int × Unit → Option (List (List (List Int))))) (c_impl_CircularPairs : (Int × Unit → Option (List (List (List Int))))) (c_laws_eqIntSSS : ((List (List (List Int))) × (List (List (List Int))) × Unit → Option Bool)) (m_laws_markIntSSS : ((List (List (List Int))) → (Int × Unit) → Option ((List (List (List Int))) × Int))) (c_laws_heldIntSSS : ((List (List (List Int))) × Int × Unit → Option Int)) (N : Nat) (a0 : Int) : fnK N (E6 c_spec_CircularPairs c_impl_CircularPairs c_laws_eqIntSSS m_laws_markIntSSS c_laws_heldIntSSS) Go.Proofs.Try.f6 [int] .bool (A6 c_spec_CircularPairs c_impl_CircularPairs c_laws_eqIntSSS m_laws_markIntSSS c_laws_heldIntSSS N) (a0, ()) = r_laws_FnExactCircularPairs c_spec_CircularPairs c_impl_CircularPairs c_laws_eqIntSSS m_laws_markIntSSS c_laws_heldIntSSS N a0 := by kernel_rfl
theorem L6 (c_spec_CircularPairs : (Int × Unit → Option (List (List (List Int))))) (c_impl_CircularPairs : (Int × Unit → Option (List (List (List Int))))) (c_laws_eqIntSSS : ((List (List (List Int))) × (List (List (List Int))) × Unit → Option Bool)) (m_laws_markIntSSS : ((List (List (List Int))) → (Int × Unit) → Option ((List (List (List Int))) × Int))) (c_laws_heldIntSSS : ((List (List (List Int))) × Int × Unit → Option Int)) (N : Nat) : LoopsOk N (E6 c_spec_CircularPairs c_impl_CircularPairs c_laws_eqIntSSS m_laws_markIntSSS c_laws_heldIntSSS) (A6 c_spec_CircularPairs c_impl_CircularPairs c_laws_eqIntSSS m_laws_markIntSSS c_laws_heldIntSSS N) Go.Proofs.Try.f6.ntmps (retOf (E6 c_spec_CircularPairs c_impl_CircularPairs c_laws_eqIntSSS m_laws_markIntSSS c_laws_heldIntSSS) Go.Proofs.Try.f6 .bool) (loopsOf (Go.Proofs.Try.f6.body.getD .skip)) :=
  LoopsOk.of (l := []) (by kernel_rfl) .nil
theorem There6 : There Go.Proofs.Try.prog 6 := ⟨_, Go.Proofs.Try.func6, by kernel_rfl, by kernel_rfl⟩
theorem C6 {c_spec_CircularPairs : (Int × Unit → Option (List (List (List Int))))} {c_impl_CircularPairs : (Int × Unit → Option (List (List (List Int))))} {c_laws_eqIntSSS : ((List (List (List Int))) × (List (List (List Int))) × Unit → Option Bool)} {m_laws_markIntSSS : ((List (List (List Int))) → (Int × Unit) → Option ((List (List (List Int))) × Int))} {c_laws_heldIntSSS : ((List (List (List Int))) × Int × Unit → Option Int)} (h_c_spec_CircularPairs : Contract Go.Proofs.Try.prog 27 ⟨[int], (.slice (.slice (.slice int))), c_spec_CircularPairs⟩) (h_c_impl_CircularPairs : Contract Go.Proofs.Try.prog 28 ⟨[int], (.slice (.slice (.slice int))), c_impl_CircularPairs⟩) (h_c_laws_eqIntSSS : Contract Go.Proofs.Try.prog 29 ⟨[(.slice (.slice (.slice int))), (.slice (.slice (.slice int)))], .bool, c_laws_eqIntSSS⟩) (h_m_laws_markIntSSS : MutC Go.Proofs.Try.prog 30 ⟨(.slice (.slice (.slice int))), 0, [int], some int, m_laws_markIntSSS⟩) (h_c_laws_heldIntSSS : Contract Go.Proofs.Try.prog 31 ⟨[(.slice (.slice (.slice int))), int], int, c_laws_heldIntSSS⟩) {f : (Int × Unit → Option Bool)} (h : ∀ a0 r, f (a0, ()) = some r → ∃ N, r_laws_FnExactCircularPairs c_spec_CircularPairs c_impl_CircularPairs c_laws_eqIntSSS m_laws_markIntSSS c_laws_heldIntSSS N a0 = some r) : Contract Go.Proofs.Try.prog 6 ⟨[int], .bool, f⟩ := by
  refine contract (E := E6 c_spec_CircularPairs c_impl_CircularPairs c_laws_eqIntSSS m_laws_markIntSSS c_laws_heldIntSSS) (envOf table ⟨⟨h_c_spec_CircularPairs, There27⟩, ⟨⟨h_c_impl_CircularPairs, There28⟩, ⟨⟨h_c_laws_eqIntSSS, There29⟩, ⟨⟨h_c_laws_heldIntSSS, There31⟩, trivial⟩⟩⟩⟩ ⟨⟨h_m_laws_markIntSSS, There30⟩, trivial⟩) mixed Go.Proofs.Try.func6 (c := Go.Proofs.Try.f6.body.getD .skip) (by kernel_rfl) (Nat.le_of_ble_eq_true (by kernel_rfl)) fun xs r hr => ?_
  obtain ⟨a0, _⟩ := xs
  obtain ⟨N, hN⟩ := h _ r hr
  exact ⟨N, A6 c_spec_CircularPairs c_impl_CircularPairs c_laws_eqIntSSS m_laws_markIntSSS c_laws_heldIntSSS N, L6 c_spec_CircularPairs c_impl_CircularPairs c_laws_eqIntSSS m_laws_markIntSSS c_laws_heldIntSSS N, (K6 c_spec_CircularPairs c_impl_CircularPairs c_laws_eqIntSSS m_laws_markIntSSS c_laws_heldIntSSS N a0).trans hN⟩
theorem X6 : Contract Go.Proofs.Try.prog 6 ⟨[int], .bool, e_laws_FnExactCircularPairs⟩ := C6 X27 X28 X29 X30 X31 fun _ _ h => ⟨N0, h⟩
end Go.Sx.S
