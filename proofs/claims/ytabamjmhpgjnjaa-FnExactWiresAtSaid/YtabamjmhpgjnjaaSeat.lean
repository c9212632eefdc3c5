/- The functions keep their contracts. Conditions: none. -/
import Derived.Test.YtabamjmhpgjnjaaRes
import Derived.Test.YtabamjmhpgjnjaaProg
/- The functions of the program compute what was printed. Conditions: none. -/
namespace Go.Sx.S
open Go Go.Sx Go.Sx.R
def int : Ty := .num .i64
def wire : Ty := .pair int (.pair int int)
def net : Ty := .pair int (.pair int (.pair int (.slice wire)))
def ratio : Ty := .pair int int
def fault : Ty := .pair int int

def tys : List (Nat × Ty) := [(3, int), (4, .bool), (5, (.num .u8)), (21, (.num .i32)), (22, (.slice int)), (26, (.slice (.slice int))), (31, (.slice wire)), (33, net), (36, (.slice wire)), (38, net), (42, (.slice (.slice (.slice int)))), (58, ratio), (62, (.slice (.slice ratio))), (65, (.slice (.slice ratio))), (78, wire), (86, (.slice .bool)), (93, (.slice ratio)), (94, (.slice ratio)), (105, wire), (111, (.num .u64)), (115, ratio), (136, (.num .u32))]
theorem table (sp : List (Nat × FnSpec)) (mu : List (Nat × MutSpec)) : tableB Go.Proofs.Try.prog ⟨tys, [], sp, mu⟩ tys = true := by kernel_rfl
theorem mixed : Go.Proofs.Try.prog.follows .mixedOrders = true := by kernel_rfl
-- laws_szIntS
def E64 : Env := ⟨tys, [], [], []⟩
def A64 (_N : Nat) : List (Nat × Loop (Ty.den int)) := []
theorem K64 (N : Nat) (a0 : (List Int)) (a1 : Int) : fnK N (E64) Go.Proofs.Try.f64 [(.slice int), int] int (A64 N) (a0, a1, ()) = r_laws_szIntS N a0 a1 := by kernel_rfl
theorem L64 (N : Nat) : LoopsOk N (E64) (A64 N) Go.Proofs.Try.f64.ntmps (retOf (E64) Go.Proofs.Try.f64 int) (loopsOf (Go.Proofs.Try.f64.body.getD .skip)) :=
  LoopsOk.of (l := []) (by kernel_rfl) .nil
theorem There64 : There Go.Proofs.Try.prog 64 := ⟨_, Go.Proofs.Try.func64, by kernel_rfl, by kernel_rfl⟩
theorem C64 {f : ((List Int) × Int × Unit → Option Int)} (h : ∀ a0 a1 r, f (a0, a1, ()) = some r → ∃ N, r_laws_szIntS N a0 a1 = some r) : Contract Go.Proofs.Try.prog 64 ⟨[(.slice int), int], int, f⟩ := by
  refine contract (E := E64) (envOf table trivial trivial) mixed Go.Proofs.Try.func64 (c := Go.Proofs.Try.f64.body.getD .skip) (by kernel_rfl) (Nat.le_of_ble_eq_true (by kernel_rfl)) fun xs r hr => ?_
  obtain ⟨a0, a1, _⟩ := xs
  obtain ⟨N, hN⟩ := h _ _ r hr
  exact ⟨N, A64 N, L64 N, (K64 N a0 a1).trans hN⟩
theorem X64 : Contract Go.Proofs.Try.prog 64 ⟨[(.slice int), int], int, e_laws_szIntS⟩ := C64 fun _ _ _ h => ⟨N0, h⟩
-- laws_szIntSS
def E19 (c_laws_szIntS : ((List Int) × Int × Unit → Option Int)) : Env := ⟨tys, [], [(64, ⟨[(.slice int), int], int, c_laws_szIntS⟩)], []⟩
def A19 (c_laws_szIntS : ((List Int) × Int × Unit → Option Int)) (N : Nat) : List (Nat × Loop (Ty.den int)) := [(0, ⟨[(0, .ro none (.slice (.slice (.num .i64)))), (1, .ro none (.num .i64)), (5, .ro none (.num .i64))], r_laws_szIntSS_L0 c_laws_szIntS N⟩)]
theorem K19 (c_laws_szIntS : ((List Int) × Int × Unit → Option Int)) (N : Nat) (a0 : (List (List Int))) (a1 : Int) : fnK N (E19 c_laws_szIntS) Go.Proofs.Try.f19 [(.slice (.slice int)), int] int (A19 c_laws_szIntS N) (a0, a1, ()) = r_laws_szIntSS c_laws_szIntS N a0 a1 := by kernel_rfl
theorem L19 (c_laws_szIntS : ((List Int) × Int × Unit → Option Int)) (N : Nat) : LoopsOk N (E19 c_laws_szIntS) (A19 c_laws_szIntS N) Go.Proofs.Try.f19.ntmps (retOf (E19 c_laws_szIntS) Go.Proofs.Try.f19 int) (loopsOf (Go.Proofs.Try.f19.body.getD .skip)) :=
  LoopsOk.of (l := [(0, lb Go.Proofs.Try.f19 0)]) (by kernel_rfl) (.cons (L := ⟨[(0, .ro none (.slice (.slice (.num .i64)))), (1, .ro none (.num .i64)), (5, .ro none (.num .i64))], r_laws_szIntSS_L0 c_laws_szIntS N⟩) (by kernel_rfl) (by intro s kc ke env; kernel_rfl) .nil)
theorem There19 : There Go.Proofs.Try.prog 19 := ⟨_, Go.Proofs.Try.func19, by kernel_rfl, by kernel_rfl⟩
theorem C19 {c_laws_szIntS : ((List Int) × Int × Unit → Option Int)} (h_c_laws_szIntS : Contract Go.Proofs.Try.prog 64 ⟨[(.slice int), int], int, c_laws_szIntS⟩) {f : ((List (List Int)) × Int × Unit → Option Int)} (h : ∀ a0 a1 r, f (a0, a1, ()) = some r → ∃ N, r_laws_szIntSS c_laws_szIntS N a0 a1 = some r) : Contract Go.Proofs.Try.prog 19 ⟨[(.slice (.slice int)), int], int, f⟩ := by
  refine contract (E := E19 c_laws_szIntS) (envOf table ⟨⟨h_c_laws_szIntS, There64⟩, trivial⟩ trivial) mixed Go.Proofs.Try.func19 (c := Go.Proofs.Try.f19.body.getD .skip) (by kernel_rfl) (Nat.le_of_ble_eq_true (by kernel_rfl)) fun xs r hr => ?_
  obtain ⟨a0, a1, _⟩ := xs
  obtain ⟨N, hN⟩ := h _ _ r hr
  exact ⟨N, A19 c_laws_szIntS N, L19 c_laws_szIntS N, (K19 c_laws_szIntS N a0 a1).trans hN⟩
theorem X19 : Contract Go.Proofs.Try.prog 19 ⟨[(.slice (.slice int)), int], int, e_laws_szIntSS⟩ := C19 X64 fun _ _ _ h => ⟨N0, h⟩
-- laws_toIntS
def E16 : Env := ⟨tys, [], [], []⟩
def A16 (N : Nat) : List (Nat × Loop (Ty.den (.slice int))) := [(0, ⟨[(0, .ro none (.slice (.num .i64))), (3, .own (.slice (.num .i64))), (4, .ro none (.num .i64))], r_laws_toIntS_L0 N⟩)]
theorem K16 (N : Nat) (a0 : (List Int)) : fnK N (E16) Go.Proofs.Try.f16 [(.slice int)] (.slice int) (A16 N) (a0, ()) = r_laws_toIntS N a0 := by kernel_rfl
theorem L16 (N : Nat) : LoopsOk N (E16) (A16 N) Go.Proofs.Try.f16.ntmps (retOf (E16) Go.Proofs.Try.f16 (.slice int)) (loopsOf (Go.Proofs.Try.f16.body.getD .skip)) :=
  LoopsOk.of (l := [(0, lb Go.Proofs.Try.f16 0)]) (by kernel_rfl) (.cons (L := ⟨[(0, .ro none (.slice (.num .i64))), (3, .own (.slice (.num .i64))), (4, .ro none (.num .i64))], r_laws_toIntS_L0 N⟩) (by kernel_rfl) (by intro s kc ke env; kernel_rfl) .nil)
theorem There16 : There Go.Proofs.Try.prog 16 := ⟨_, Go.Proofs.Try.func16, by kernel_rfl, by kernel_rfl⟩
theorem C16 {f : ((List Int) × Unit → Option (List Int))} (h : ∀ a0 r, f (a0, ()) = some r → ∃ N, r_laws_toIntS N a0 = some r) : Contract Go.Proofs.Try.prog 16 ⟨[(.slice int)], (.slice int), f⟩ := by
  refine contract (E := E16) (envOf table trivial trivial) mixed Go.Proofs.Try.func16 (c := Go.Proofs.Try.f16.body.getD .skip) (by kernel_rfl) (Nat.le_of_ble_eq_true (by kernel_rfl)) fun xs r hr => ?_
  obtain ⟨a0, _⟩ := xs
  obtain ⟨N, hN⟩ := h _ r hr
  exact ⟨N, A16 N, L16 N, (K16 N a0).trans hN⟩
theorem X16 : Contract Go.Proofs.Try.prog 16 ⟨[(.slice int)], (.slice int), e_laws_toIntS⟩ := C16 fun _ _ h => ⟨N0, h⟩
-- laws_toIntSS
def E21 (c_laws_toIntS : ((List Int) × Unit → Option (List Int))) : Env := ⟨tys, [], [(16, ⟨[(.slice int)], (.slice int), c_laws_toIntS⟩)], []⟩
def A21 (c_laws_toIntS : ((List Int) × Unit → Option (List Int))) (N : Nat) : List (Nat × Loop (Ty.den (.slice (.slice int)))) := [(0, ⟨[(0, .ro none (.slice (.slice (.num .i64)))), (3, .own (.slice (.slice (.num .i64)))), (4, .ro none (.num .i64))], r_laws_toIntSS_L0 c_laws_toIntS N⟩)]
theorem K21 (c_laws_toIntS : ((List Int) × Unit → Option (List Int))) (N : Nat) (a0 : (List (List Int))) : fnK N (E21 c_laws_toIntS) Go.Proofs.Try.f21 [(.slice (.slice int))] (.slice (.slice int)) (A21 c_laws_toIntS N) (a0, ()) = r_laws_toIntSS c_laws_toIntS N a0 := by kernel_rfl
theorem L21 (c_laws_toIntS : ((List Int) × Unit → Option (List Int))) (N : Nat) : LoopsOk N (E21 c_laws_toIntS) (A21 c_laws_toIntS N) Go.Proofs.Try.f21.ntmps (retOf (E21 c_laws_toIntS) Go.Proofs.Try.f21 (.slice (.slice int))) (loopsOf (Go.Proofs.Try.f21.body.getD .skip)) :=
  LoopsOk.of (l := [(0, lb Go.Proofs.Try.f21 0)]) (by kernel_rfl) (.cons (L := ⟨[(0, .ro none (.slice (.slice (.num .i64)))), (3, .own (.slice (.slice (.num .i64)))), (4, .ro none (.num .i64))], r_laws_toIntSS_L0 c_laws_toIntS N⟩) (by kernel_rfl) (by intro s kc ke env; kernel_rfl) .nil)
theorem There21 : There Go.Proofs.Try.prog 21 := ⟨_, Go.Proofs.Try.func21, by kernel_rfl, by kernel_rfl⟩
theorem C21 {c_laws_toIntS : ((List Int) × Unit → Option (List Int))} (h_c_laws_toIntS : Contract Go.Proofs.Try.prog 16 ⟨[(.slice int)], (.slice int), c_laws_toIntS⟩) {f : ((List (List Int)) × Unit → Option (List (List Int)))} (h : ∀ a0 r, f (a0, ()) = some r → ∃ N, r_laws_toIntSS c_laws_toIntS N a0 = some r) : Contract Go.Proofs.Try.prog 21 ⟨[(.slice (.slice int))], (.slice (.slice int)), f⟩ := by
  refine contract (E := E21 c_laws_toIntS) (envOf table ⟨⟨h_c_laws_toIntS, There16⟩, trivial⟩ trivial) mixed Go.Proofs.Try.func21 (c := Go.Proofs.Try.f21.body.getD .skip) (by kernel_rfl) (Nat.le_of_ble_eq_true (by kernel_rfl)) fun xs r hr => ?_
  obtain ⟨a0, _⟩ := xs
  obtain ⟨N, hN⟩ := h _ r hr
  exact ⟨N, A21 c_laws_toIntS N, L21 c_laws_toIntS N, (K21 c_laws_toIntS N a0).trans hN⟩
theorem X21 : Contract Go.Proofs.Try.prog 21 ⟨[(.slice (.slice int))], (.slice (.slice int)), e_laws_toIntSS⟩ := C21 X16 fun _ _ h => ⟨N0, h⟩
-- spec_l01In
def E58 : Env := ⟨tys, [], [], []⟩
def A58 (_N : Nat) : List (Nat × Loop (Ty.den .bool)) := []
theorem K58 (N : Nat) (a0 : Int) (a1 : Int) (a2 : Int) : fnK N (E58) Go.Proofs.Try.f58 [int, int, int] .bool (A58 N) (a0, a1, a2, ()) = r_spec_l01In N a0 a1 a2 := by kernel_rfl
theorem L58 (N : Nat) : LoopsOk N (E58) (A58 N) Go.Proofs.Try.f58.ntmps (retOf (E58) Go.Proofs.Try.f58 .bool) (loopsOf (Go.Proofs.Try.f58.body.getD .skip)) :=
  LoopsOk.of (l := []) (by kernel_rfl) .nil
theorem There58 : There Go.Proofs.Try.prog 58 := ⟨_, Go.Proofs.Try.func58, by kernel_rfl, by kernel_rfl⟩
theorem C58 {f : (Int × Int × Int × Unit → Option Bool)} (h : ∀ a0 a1 a2 r, f (a0, a1, a2, ()) = some r → ∃ N, r_spec_l01In N a0 a1 a2 = some r) : Contract Go.Proofs.Try.prog 58 ⟨[int, int, int], .bool, f⟩ := by
  refine contract (E := E58) (envOf table trivial trivial) mixed Go.Proofs.Try.func58 (c := Go.Proofs.Try.f58.body.getD .skip) (by kernel_rfl) (Nat.le_of_ble_eq_true (by kernel_rfl)) fun xs r hr => ?_
  obtain ⟨a0, a1, a2, _⟩ := xs
  obtain ⟨N, hN⟩ := h _ _ _ r hr
  exact ⟨N, A58 N, L58 N, (K58 N a0 a1 a2).trans hN⟩
theorem X58 : Contract Go.Proofs.Try.prog 58 ⟨[int, int, int], .bool, e_spec_l01In⟩ := C58 fun _ _ _ _ h => ⟨N0, h⟩
-- spec_l04Matrix
def E65 (c_spec_l01In : (Int × Int × Int × Unit → Option Bool)) : Env := ⟨tys, [], [(58, ⟨[int, int, int], .bool, c_spec_l01In⟩)], []⟩
def A65 (c_spec_l01In : (Int × Int × Int × Unit → Option Bool)) (N : Nat) : List (Nat × Loop (Ty.den .bool)) := [(0, ⟨[(0, .ro none (.slice (.slice (.num .i64)))), (10, .ro none (.slice (.slice (.num .i64)))), (11, .ro none (.num .i64)), (12, .ro none (.num .i64))], r_spec_l04Matrix_L0 c_spec_l01In N⟩), (2, ⟨[(0, .ro none (.slice (.slice (.num .i64)))), (10, .ro none (.slice (.slice (.num .i64)))), (11, .ro none (.num .i64)), (12, .ro none (.num .i64)), (21, .ro none (.slice (.num .i64))), (22, .ro none (.num .i64)), (23, .ro none (.num .i64))], r_spec_l04Matrix_L2 c_spec_l01In N⟩)]
theorem K65 (c_spec_l01In : (Int × Int × Int × Unit → Option Bool)) (N : Nat) (a0 : (List (List Int))) : fnK N (E65 c_spec_l01In) Go.Proofs.Try.f65 [(.slice (.slice int))] .bool (A65 c_spec_l01In N) (a0, ()) = r_spec_l04Matrix c_spec_l01In N a0 := by kernel_rfl
theorem L65 (c_spec_l01In : (Int × Int × Int × Unit → Option Bool)) (N : Nat) : LoopsOk N (E65 c_spec_l01In) (A65 c_spec_l01In N) Go.Proofs.Try.f65.ntmps (retOf (E65 c_spec_l01In) Go.Proofs.Try.f65 .bool) (loopsOf (Go.Proofs.Try.f65.body.getD .skip)) :=
  LoopsOk.of (l := [(0, lb Go.Proofs.Try.f65 0), (2, lb Go.Proofs.Try.f65 1)]) (by kernel_rfl) (.cons (L := ⟨[(0, .ro none (.slice (.slice (.num .i64)))), (10, .ro none (.slice (.slice (.num .i64)))), (11, .ro none (.num .i64)), (12, .ro none (.num .i64))], r_spec_l04Matrix_L0 c_spec_l01In N⟩) (by kernel_rfl) (by intro s kc ke env; kernel_rfl) (.cons (L := ⟨[(0, .ro none (.slice (.slice (.num .i64)))), (10, .ro none (.slice (.slice (.num .i64)))), (11, .ro none (.num .i64)), (12, .ro none (.num .i64)), (21, .ro none (.slice (.num .i64))), (22, .ro none (.num .i64)), (23, .ro none (.num .i64))], r_spec_l04Matrix_L2 c_spec_l01In N⟩) (by kernel_rfl) (by intro s kc ke env; kernel_rfl) .nil))
theorem There65 : There Go.Proofs.Try.prog 65 := ⟨_, Go.Proofs.Try.func65, by kernel_rfl, by kernel_rfl⟩
theorem C65 {c_spec_l01In : (Int × Int × Int × Unit → Option Bool)} (h_c_spec_l01In : Contract Go.Proofs.Try.prog 58 ⟨[int, int, int], .bool, c_spec_l01In⟩) {f : ((List (List Int)) × Unit → Option Bool)} (h : ∀ a0 r, f (a0, ()) = some r → ∃ N, r_spec_l04Matrix c_spec_l01In N a0 = some r) : Contract Go.Proofs.Try.prog 65 ⟨[(.slice (.slice int))], .bool, f⟩ := by
  refine contract (E := E65 c_spec_l01In) (envOf table ⟨⟨h_c_spec_l01In, There58⟩, trivial⟩ trivial) mixed Go.Proofs.Try.func65 (c := Go.Proofs.Try.f65.body.getD .skip) (by kernel_rfl) (Nat.le_of_ble_eq_true (by kernel_rfl)) fun xs r hr => ?_
  obtain ⟨a0, _⟩ := xs
  obtain ⟨N, hN⟩ := h _ r hr
  exact ⟨N, A65 c_spec_l01In N, L65 c_spec_l01In N, (K65 c_spec_l01In N a0).trans hN⟩
theorem X65 : Contract Go.Proofs.Try.prog 65 ⟨[(.slice (.slice int))], .bool, e_spec_l04Matrix⟩ := C65 X58 fun _ _ h => ⟨N0, h⟩
-- spec_IsWeightMatrix
def E20 (c_spec_l01In : (Int × Int × Int × Unit → Option Bool)) (c_spec_l04Matrix : ((List (List Int)) × Unit → Option Bool)) : Env := ⟨tys, [], [(58, ⟨[int, int, int], .bool, c_spec_l01In⟩), (65, ⟨[(.slice (.slice int))], .bool, c_spec_l04Matrix⟩)], []⟩
def A20 (c_spec_l01In : (Int × Int × Int × Unit → Option Bool)) (c_spec_l04Matrix : ((List (List Int)) × Unit → Option Bool)) (N : Nat) : List (Nat × Loop (Ty.den .bool)) := [(0, ⟨[(0, .ro none (.slice (.slice (.num .i64)))), (17, .ro none (.slice (.slice (.num .i64)))), (18, .ro none (.num .i64)), (19, .ro none (.num .i64))], r_spec_IsWeightMatrix_L0 c_spec_l01In c_spec_l04Matrix N⟩), (2, ⟨[(0, .ro none (.slice (.slice (.num .i64)))), (3, .ro none (.num .i64)), (5, .ro none (.num .i64)), (17, .ro none (.slice (.slice (.num .i64)))), (18, .ro none (.num .i64)), (19, .ro none (.num .i64)), (24, .ro none (.slice (.num .i64))), (25, .ro none (.num .i64)), (26, .ro none (.num .i64))], r_spec_IsWeightMatrix_L2 c_spec_l01In c_spec_l04Matrix N⟩)]
theorem K20 (c_spec_l01In : (Int × Int × Int × Unit → Option Bool)) (c_spec_l04Matrix : ((List (List Int)) × Unit → Option Bool)) (N : Nat) (a0 : (List (List Int))) : fnK N (E20 c_spec_l01In c_spec_l04Matrix) Go.Proofs.Try.f20 [(.slice (.slice int))] .bool (A20 c_spec_l01In c_spec_l04Matrix N) (a0, ()) = r_spec_IsWeightMatrix c_spec_l01In c_spec_l04Matrix N a0 := by kernel_rfl
theorem L20 (c_spec_l01In : (Int × Int × Int × Unit → Option Bool)) (c_spec_l04Matrix : ((List (List Int)) × Unit → Option Bool)) (N : Nat) : LoopsOk N (E20 c_spec_l01In c_spec_l04Matrix) (A20 c_spec_l01In c_spec_l04Matrix N) Go.Proofs.Try.f20.ntmps (retOf (E20 c_spec_l01In c_spec_l04Matrix) Go.Proofs.Try.f20 .bool) (loopsOf (Go.Proofs.Try.f20.body.getD .skip)) :=
  LoopsOk.of (l := [(0, lb Go.Proofs.Try.f20 0), (2, lb Go.Proofs.Try.f20 1)]) (by kernel_rfl) (.cons (L := ⟨[(0, .ro none (.slice (.slice (.num .i64)))), (17, .ro none (.slice (.slice (.num .i64)))), (18, .ro none (.num .i64)), (19, .ro none (.num .i64))], r_spec_IsWeightMatrix_L0 c_spec_l01In c_spec_l04Matrix N⟩) (by kernel_rfl) (by intro s kc ke env; kernel_rfl) (.cons (L := ⟨[(0, .ro none (.slice (.slice (.num .i64)))), (3, .ro none (.num .i64)), (5, .ro none (.num .i64)), (17, .ro none (.slice (.slice (.num .i64)))), (18, .ro none (.num .i64)), (19, .ro none (.num .i64)), (24, .ro none (.slice (.num .i64))), (25, .ro none (.num .i64)), (26, .ro none (.num .i64))], r_spec_IsWeightMatrix_L2 c_spec_l01In c_spec_l04Matrix N⟩) (by kernel_rfl) (by intro s kc ke env; kernel_rfl) .nil))
theorem There20 : There Go.Proofs.Try.prog 20 := ⟨_, Go.Proofs.Try.func20, by kernel_rfl, by kernel_rfl⟩
theorem C20 {c_spec_l01In : (Int × Int × Int × Unit → Option Bool)} {c_spec_l04Matrix : ((List (List Int)) × Unit → Option Bool)} (h_c_spec_l01In : Contract Go.Proofs.Try.prog 58 ⟨[int, int, int], .bool, c_spec_l01In⟩) (h_c_spec_l04Matrix : Contract Go.Proofs.Try.prog 65 ⟨[(.slice (.slice int))], .bool, c_spec_l04Matrix⟩) {f : ((List (List Int)) × Unit → Option Bool)} (h : ∀ a0 r, f (a0, ()) = some r → ∃ N, r_spec_IsWeightMatrix c_spec_l01In c_spec_l04Matrix N a0 = some r) : Contract Go.Proofs.Try.prog 20 ⟨[(.slice (.slice int))], .bool, f⟩ := by
  refine contract (E := E20 c_spec_l01In c_spec_l04Matrix) (envOf table ⟨⟨h_c_spec_l01In, There58⟩, ⟨⟨h_c_spec_l04Matrix, There65⟩, trivial⟩⟩ trivial) mixed Go.Proofs.Try.func20 (c := Go.Proofs.Try.f20.body.getD .skip) (by kernel_rfl) (Nat.le_of_ble_eq_true (by kernel_rfl)) fun xs r hr => ?_
  obtain ⟨a0, _⟩ := xs
  obtain ⟨N, hN⟩ := h _ r hr
  exact ⟨N, A20 c_spec_l01In c_spec_l04Matrix N, L20 c_spec_l01In c_spec_l04Matrix N, (K20 c_spec_l01In c_spec_l04Matrix N a0).trans hN⟩
theorem X20 : Contract Go.Proofs.Try.prog 20 ⟨[(.slice (.slice int))], .bool, e_spec_IsWeightMatrix⟩ := C20 X58 X65 fun _ _ h => ⟨N0, h⟩
-- impl_squareOk
def E66 : Env := ⟨tys, [], [], []⟩
def A66 (N : Nat) : List (Nat × Loop (Ty.den .bool)) := [(0, ⟨[(0, .ro none (.slice (.slice (.num .i64)))), (10, .ro none (.slice (.slice (.num .i64)))), (11, .ro none (.num .i64)), (12, .ro none (.num .i64))], r_impl_squareOk_L0 N⟩), (2, ⟨[(0, .ro none (.slice (.slice (.num .i64)))), (10, .ro none (.slice (.slice (.num .i64)))), (11, .ro none (.num .i64)), (12, .ro none (.num .i64)), (21, .ro none (.slice (.num .i64))), (22, .ro none (.num .i64)), (23, .ro none (.num .i64))], r_impl_squareOk_L2 N⟩)]
theorem K66 (N : Nat) (a0 : (List (List Int))) : fnK N (E66) Go.Proofs.Try.f66 [(.slice (.slice int))] .bool (A66 N) (a0, ()) = r_impl_squareOk N a0 := by kernel_rfl
theorem L66 (N : Nat) : LoopsOk N (E66) (A66 N) Go.Proofs.Try.f66.ntmps (retOf (E66) Go.Proofs.Try.f66 .bool) (loopsOf (Go.Proofs.Try.f66.body.getD .skip)) :=
  LoopsOk.of (l := [(0, lb Go.Proofs.Try.f66 0), (2, lb Go.Proofs.Try.f66 1)]) (by kernel_rfl) (.cons (L := ⟨[(0, .ro none (.slice (.slice (.num .i64)))), (10, .ro none (.slice (.slice (.num .i64)))), (11, .ro none (.num .i64)), (12, .ro none (.num .i64))], r_impl_squareOk_L0 N⟩) (by kernel_rfl) (by intro s kc ke env; kernel_rfl) (.cons (L := ⟨[(0, .ro none (.slice (.slice (.num .i64)))), (10, .ro none (.slice (.slice (.num .i64)))), (11, .ro none (.num .i64)), (12, .ro none (.num .i64)), (21, .ro none (.slice (.num .i64))), (22, .ro none (.num .i64)), (23, .ro none (.num .i64))], r_impl_squareOk_L2 N⟩) (by kernel_rfl) (by intro s kc ke env; kernel_rfl) .nil))
theorem There66 : There Go.Proofs.Try.prog 66 := ⟨_, Go.Proofs.Try.func66, by kernel_rfl, by kernel_rfl⟩
theorem C66 {f : ((List (List Int)) × Unit → Option Bool)} (h : ∀ a0 r, f (a0, ()) = some r → ∃ N, r_impl_squareOk N a0 = some r) : Contract Go.Proofs.Try.prog 66 ⟨[(.slice (.slice int))], .bool, f⟩ := by
  refine contract (E := E66) (envOf table trivial trivial) mixed Go.Proofs.Try.func66 (c := Go.Proofs.Try.f66.body.getD .skip) (by kernel_rfl) (Nat.le_of_ble_eq_true (by kernel_rfl)) fun xs r hr => ?_
  obtain ⟨a0, _⟩ := xs
  obtain ⟨N, hN⟩ := h _ r hr
  exact ⟨N, A66 N, L66 N, (K66 N a0).trans hN⟩
theorem X66 : Contract Go.Proofs.Try.prog 66 ⟨[(.slice (.slice int))], .bool, e_impl_squareOk⟩ := C66 fun _ _ h => ⟨N0, h⟩
-- impl_IsWeightMatrix
def E22 (c_impl_squareOk : ((List (List Int)) × Unit → Option Bool)) : Env := ⟨tys, [], [(66, ⟨[(.slice (.slice int))], .bool, c_impl_squareOk⟩)], []⟩
def A22 (c_impl_squareOk : ((List (List Int)) × Unit → Option Bool)) (N : Nat) : List (Nat × Loop (Ty.den .bool)) := [(0, ⟨[(0, .ro none (.slice (.slice (.num .i64)))), (16, .ro none (.slice (.slice (.num .i64)))), (17, .ro none (.num .i64)), (18, .ro none (.num .i64))], r_impl_IsWeightMatrix_L0 c_impl_squareOk N⟩), (2, ⟨[(0, .ro none (.slice (.slice (.num .i64)))), (3, .ro none (.num .i64)), (5, .ro none (.num .i64)), (16, .ro none (.slice (.slice (.num .i64)))), (17, .ro none (.num .i64)), (18, .ro none (.num .i64)), (23, .ro none (.slice (.num .i64))), (24, .ro none (.num .i64)), (25, .ro none (.num .i64))], r_impl_IsWeightMatrix_L2 c_impl_squareOk N⟩)]
theorem K22 (c_impl_squareOk : ((List (List Int)) × Unit → Option Bool)) (N : Nat) (a0 : (List (List Int))) : fnK N (E22 c_impl_squareOk) Go.Proofs.Try.f22 [(.slice (.slice int))] .bool (A22 c_impl_squareOk N) (a0, ()) = r_impl_IsWeightMatrix c_impl_squareOk N a0 := by kernel_rfl
theorem L22 (c_impl_squareOk : ((List (List Int)) × Unit → Option Bool)) (N : Nat) : LoopsOk N (E22 c_impl_squareOk) (A22 c_impl_squareOk N) Go.Proofs.Try.f22.ntmps (retOf (E22 c_impl_squareOk) Go.Proofs.Try.f22 .bool) (loopsOf (Go.Proofs.Try.f22.body.getD .skip)) :=
  LoopsOk.of (l := [(0, lb Go.Proofs.Try.f22 0), (2, lb Go.Proofs.Try.f22 1)]) (by kernel_rfl) (.cons (L := ⟨[(0, .ro none (.slice (.slice (.num .i64)))), (16, .ro none (.slice (.slice (.num .i64)))), (17, .ro none (.num .i64)), (18, .ro none (.num .i64))], r_impl_IsWeightMatrix_L0 c_impl_squareOk N⟩) (by kernel_rfl) (by intro s kc ke env; kernel_rfl) (.cons (L := ⟨[(0, .ro none (.slice (.slice (.num .i64)))), (3, .ro none (.num .i64)), (5, .ro none (.num .i64)), (16, .ro none (.slice (.slice (.num .i64)))), (17, .ro none (.num .i64)), (18, .ro none (.num .i64)), (23, .ro none (.slice (.num .i64))), (24, .ro none (.num .i64)), (25, .ro none (.num .i64))], r_impl_IsWeightMatrix_L2 c_impl_squareOk N⟩) (by kernel_rfl) (by intro s kc ke env; kernel_rfl) .nil))
theorem There22 : There Go.Proofs.Try.prog 22 := ⟨_, Go.Proofs.Try.func22, by kernel_rfl, by kernel_rfl⟩
theorem C22 {c_impl_squareOk : ((List (List Int)) × Unit → Option Bool)} (h_c_impl_squareOk : Contract Go.Proofs.Try.prog 66 ⟨[(.slice (.slice int))], .bool, c_impl_squareOk⟩) {f : ((List (List Int)) × Unit → Option Bool)} (h : ∀ a0 r, f (a0, ()) = some r → ∃ N, r_impl_IsWeightMatrix c_impl_squareOk N a0 = some r) : Contract Go.Proofs.Try.prog 22 ⟨[(.slice (.slice int))], .bool, f⟩ := by
  refine contract (E := E22 c_impl_squareOk) (envOf table ⟨⟨h_c_impl_squareOk, There66⟩, trivial⟩ trivial) mixed Go.Proofs.Try.func22 (c := Go.Proofs.Try.f22.body.getD .skip) (by kernel_rfl) (Nat.le_of_ble_eq_true (by kernel_rfl)) fun xs r hr => ?_
  obtain ⟨a0, _⟩ := xs
  obtain ⟨N, hN⟩ := h _ r hr
  exact ⟨N, A22 c_impl_squareOk N, L22 c_impl_squareOk N, (K22 c_impl_squareOk N a0).trans hN⟩
theorem X22 : Contract Go.Proofs.Try.prog 22 ⟨[(.slice (.slice int))], .bool, e_impl_IsWeightMatrix⟩ := C22 X66 fun _ _ h => ⟨N0, h⟩
-- laws_eqIntS
def E18 : Env := ⟨tys, [], [], []⟩
def A18 (N : Nat) : List (Nat × Loop (Ty.den .bool)) := [(0, ⟨[(0, .ro none (.slice (.num .i64))), (1, .ro none (.slice (.num .i64))), (5, .ro none (.num .i64))], r_laws_eqIntS_L0 N⟩)]
theorem K18 (N : Nat) (a0 : (List Int)) (a1 : (List Int)) : fnK N (E18) Go.Proofs.Try.f18 [(.slice int), (.slice int)] .bool (A18 N) (a0, a1, ()) = r_laws_eqIntS N a0 a1 := by kernel_rfl
theorem L18 (N : Nat) : LoopsOk N (E18) (A18 N) Go.Proofs.Try.f18.ntmps (retOf (E18) Go.Proofs.Try.f18 .bool) (loopsOf (Go.Proofs.Try.f18.body.getD .skip)) :=
  LoopsOk.of (l := [(0, lb Go.Proofs.Try.f18 0)]) (by kernel_rfl) (.cons (L := ⟨[(0, .ro none (.slice (.num .i64))), (1, .ro none (.slice (.num .i64))), (5, .ro none (.num .i64))], r_laws_eqIntS_L0 N⟩) (by kernel_rfl) (by intro s kc ke env; kernel_rfl) .nil)
theorem There18 : There Go.Proofs.Try.prog 18 := ⟨_, Go.Proofs.Try.func18, by kernel_rfl, by kernel_rfl⟩
theorem C18 {f : ((List Int) × (List Int) × Unit → Option Bool)} (h : ∀ a0 a1 r, f (a0, a1, ()) = some r → ∃ N, r_laws_eqIntS N a0 a1 = some r) : Contract Go.Proofs.Try.prog 18 ⟨[(.slice int), (.slice int)], .bool, f⟩ := by
  refine contract (E := E18) (envOf table trivial trivial) mixed Go.Proofs.Try.func18 (c := Go.Proofs.Try.f18.body.getD .skip) (by kernel_rfl) (Nat.le_of_ble_eq_true (by kernel_rfl)) fun xs r hr => ?_
  obtain ⟨a0, a1, _⟩ := xs
  obtain ⟨N, hN⟩ := h _ _ r hr
  exact ⟨N, A18 N, L18 N, (K18 N a0 a1).trans hN⟩
theorem X18 : Contract Go.Proofs.Try.prog 18 ⟨[(.slice int), (.slice int)], .bool, e_laws_eqIntS⟩ := C18 fun _ _ _ h => ⟨N0, h⟩
-- laws_eqIntSS
def E23 (c_laws_eqIntS : ((List Int) × (List Int) × Unit → Option Bool)) : Env := ⟨tys, [], [(18, ⟨[(.slice int), (.slice int)], .bool, c_laws_eqIntS⟩)], []⟩
def A23 (c_laws_eqIntS : ((List Int) × (List Int) × Unit → Option Bool)) (N : Nat) : List (Nat × Loop (Ty.den .bool)) := [(0, ⟨[(0, .ro none (.slice (.slice (.num .i64)))), (1, .ro none (.slice (.slice (.num .i64)))), (5, .ro none (.num .i64))], r_laws_eqIntSS_L0 c_laws_eqIntS N⟩)]
theorem K23 (c_laws_eqIntS : ((List Int) × (List Int) × Unit → Option Bool)) (N : Nat) (a0 : (List (List Int))) (a1 : (List (List Int))) : fnK N (E23 c_laws_eqIntS) Go.Proofs.Try.f23 [(.slice (.slice int)), (.slice (.slice int))] .bool (A23 c_laws_eqIntS N) (a0, a1, ()) = r_laws_eqIntSS c_laws_eqIntS N a0 a1 := by kernel_rfl
theorem L23 (c_laws_eqIntS : ((List Int) × (List Int) × Unit → Option Bool)) (N : Nat) : LoopsOk N (E23 c_laws_eqIntS) (A23 c_laws_eqIntS N) Go.Proofs.Try.f23.ntmps (retOf (E23 c_laws_eqIntS) Go.Proofs.Try.f23 .bool) (loopsOf (Go.Proofs.Try.f23.body.getD .skip)) :=
  LoopsOk.of (l := [(0, lb Go.Proofs.Try.f23 0)]) (by kernel_rfl) (.cons (L := ⟨[(0, .ro none (.slice (.slice (.num .i64)))), (1, .ro none (.slice (.slice (.num .i64)))), (5, .ro none (.num .i64))], r_laws_eqIntSS_L0 c_laws_eqIntS N⟩) (by kernel_rfl) (by intro s kc ke env; kernel_rfl) .nil)
theorem There23 : There Go.Proofs.Try.prog 23 := ⟨_, Go.Proofs.Try.func23, by kernel_rfl, by kernel_rfl⟩
theorem C23 {c_laws_eqIntS : ((List Int) × (List Int) × Unit → Option Bool)} (h_c_laws_eqIntS : Contract Go.Proofs.Try.prog 18 ⟨[(.slice int), (.slice int)], .bool, c_laws_eqIntS⟩) {f : ((List (List Int)) × (List (List Int)) × Unit → Option Bool)} (h : ∀ a0 a1 r, f (a0, a1, ()) = some r → ∃ N, r_laws_eqIntSS c_laws_eqIntS N a0 a1 = some r) : Contract Go.Proofs.Try.prog 23 ⟨[(.slice (.slice int)), (.slice (.slice int))], .bool, f⟩ := by
  refine contract (E := E23 c_laws_eqIntS) (envOf table ⟨⟨h_c_laws_eqIntS, There18⟩, trivial⟩ trivial) mixed Go.Proofs.Try.func23 (c := Go.Proofs.Try.f23.body.getD .skip) (by kernel_rfl) (Nat.le_of_ble_eq_true (by kernel_rfl)) fun xs r hr => ?_
  obtain ⟨a0, a1, _⟩ := xs
  obtain ⟨N, hN⟩ := h _ _ r hr
  exact ⟨N, A23 c_laws_eqIntS N, L23 c_laws_eqIntS N, (K23 c_laws_eqIntS N a0 a1).trans hN⟩
theorem X23 : Contract Go.Proofs.Try.prog 23 ⟨[(.slice (.slice int)), (.slice (.slice int))], .bool, e_laws_eqIntSS⟩ := C23 X18 fun _ _ _ h => ⟨N0, h⟩
-- laws_FnExactIsWeightMatrix
def E4 (c_laws_szIntSS : ((List (List Int)) × Int × Unit → Option Int)) (c_laws_toIntSS : ((List (List Int)) × Unit → Option (List (List Int)))) (c_spec_IsWeightMatrix : ((List (List Int)) × Unit → Option Bool)) (c_impl_IsWeightMatrix : ((List (List Int)) × Unit → Option Bool)) (c_laws_eqIntSS : ((List (List Int)) × (List (List Int)) × Unit → Option Bool)) : Env := ⟨tys, [], [(19, ⟨[(.slice (.slice int)), int], int, c_laws_szIntSS⟩), (21, ⟨[(.slice (.slice int))], (.slice (.slice int)), c_laws_toIntSS⟩), (20, ⟨[(.slice (.slice int))], .bool, c_spec_IsWeightMatrix⟩), (22, ⟨[(.slice (.slice int))], .bool, c_impl_IsWeightMatrix⟩), (23, ⟨[(.slice (.slice int)), (.slice (.slice int))], .bool, c_laws_eqIntSS⟩)], []⟩
def A4 (_c_laws_szIntSS : ((List (List Int)) × Int × Unit → Option Int)) (_c_laws_toIntSS : ((List (List Int)) × Unit → Option (List (List Int)))) (_c_spec_IsWeightMatrix : ((List (List Int)) × Unit → Option Bool)) (_c_impl_IsWeightMatrix : ((List (List Int)) × Unit → Option Bool)) (_c_laws_eqIntSS : ((List (List Int)) × (List (List Int)) × Unit → Option Bool)) (_N : Nat) : List (Nat × Loop (Ty.den .bool)) := []
theorem K4 (c_laws_szIntSS : ((List (List Int)) × Int × Unit → Option Int)) (c_laws_toIntSS : ((List (List Int)) × Unit → Option (List (List Int)))) (c_spec_IsWeightMatrix : ((List (List Int)) × Unit → Option Bool)) (c_impl_IsWeightMatrix : ((List (List Int)) × Unit → Option Bool)) (c_laws_eqIntSS : ((List (List Int)) × (List (List Int)) × Unit → Option Bool)) (N : Nat) (a0 : (List (List Int))) : fnK N (E4 c_laws_szIntSS c_laws_toIntSS c_spec_IsWeightMatrix c_impl_IsWeightMatrix c_laws_eqIntSS) Go.Proofs.Try.f4 [(.slice (.slice int))] .bool (A4 c_laws_szIntSS c_laws_toIntSS c_spec_IsWeightMatrix c_impl_IsWeightMatrix c_laws_eqIntSS N) (a0, ()) = r_laws_FnExactIsWeightMatrix c_laws_szIntSS c_laws_toIntSS c_spec_IsWeightMatrix c_impl_IsWeightMatrix c_laws_eqIntSS N a0 := by kernel_rfl
theorem L4 (c_laws_szIntSS : ((List (List Int)) × Int × Unit → Option Int)) (c_laws_toIntSS : ((List (List Int)) × Unit → Option (List (List Int)))) (c_spec_IsWeightMatrix : ((List (List Int)) × Unit → Option Bool)) (c_impl_IsWeightMatrix : ((List (List Int)) × Unit → Option Bool)) (c_laws_eqIntSS : ((List (List Int)) × (List (List Int)) × Unit → Option Bool)) (N : Nat) : LoopsOk N (E4 c_laws_szIntSS c_laws_toIntSS c_spec_IsWeightMatrix c_impl_IsWeightMatrix c_laws_eqIntSS) (A4 c_laws_szIntSS c_laws_toIntSS c_spec_IsWeightMatrix c_impl_IsWeightMatrix c_laws_eqIntSS N) Go.Proofs.Try.f4.ntmps (retOf (E4 c_laws_szIntSS c_laws_toIntSS c_spec_IsWeightMatrix c_impl_IsWeightMatrix c_laws_eqIntSS) Go.Proofs.Try.f4 .bool) (loopsOf (Go.Proofs.Try.f4.body.getD .skip)) :=
  LoopsOk.of (l := []) (by kernel_rfl) .nil
theorem There4 : There Go.Proofs.Try.prog 4 := ⟨_, Go.Proofs.Try.func4, by kernel_rfl, by kernel_rfl⟩
theorem C4 {c_laws_szIntSS : ((List (List Int)) × Int × Unit → Option Int)} {c_laws_toIntSS : ((List (List Int)) × Unit → Option (List (List Int)))} {c_spec_IsWeightMatrix : ((List (List Int)) × Unit → Option Bool)} {c_impl_IsWeightMatrix : ((List (List Int)) × Unit → Option Bool)} {c_laws_eqIntSS : ((List (List Int)) × (List (List Int)) × Unit → Option Bool)} (h_c_laws_szIntSS : Contract Go.Proofs.Try.prog 19 ⟨[(.slice (.slice int)), int], int, c_laws_szIntSS⟩) (h_c_laws_toIntSS : Contract Go.Proofs.Try.prog 21 ⟨[(.slice (.slice int))], (.slice (.slice int)), c_laws_toIntSS⟩) (h_c_spec_IsWeightMatrix : Contract Go.Proofs.Try.prog 20 ⟨[(.slice (.slice int))], .bool, c_spec_IsWeightMatrix⟩) (h_c_impl_IsWeightMatrix : Contract Go.Proofs.Try.prog 22 ⟨[(.slice (.slice int))], .bool, c_impl_IsWeightMatrix⟩) (h_c_laws_eqIntSS : Contract Go.Proofs.Try.prog 23 ⟨[(.slice (.slice int)), (.slice (.slice int))], .bool, c_laws_eqIntSS⟩) {f : ((List (List Int)) × Unit → Option Bool)} (h : ∀ a0 r, f (a0, ()) = some r → ∃ N, r_laws_FnExactIsWeightMatrix c_laws_szIntSS c_laws_toIntSS c_spec_IsWeightMatrix c_impl_IsWeightMatrix c_laws_eqIntSS N a0 = some r) : Contract Go.Proofs.Try.prog 4 ⟨[(.slice (.slice int))], .bool, f⟩ := by
  refine contract (E := E4 c_laws_szIntSS c_laws_toIntSS c_spec_IsWeightMatrix c_impl_IsWeightMatrix c_laws_eqIntSS) (envOf table ⟨⟨h_c_laws_szIntSS, There19⟩, ⟨⟨h_c_laws_toIntSS, There21⟩, ⟨⟨h_c_spec_IsWeightMatrix, There20⟩, ⟨⟨h_c_impl_IsWeightMatrix, There22⟩, ⟨⟨h_c_laws_eqIntSS, There23⟩, trivial⟩⟩⟩⟩⟩ trivial) mixed Go.Proofs.Try.func4 (c := Go.Proofs.Try.f4.body.getD .skip) (by kernel_rfl) (Nat.le_of_ble_eq_true (by kernel_rfl)) fun xs r hr => ?_
  obtain ⟨a0, _⟩ := xs
  obtain ⟨N, hN⟩ := h _ r hr
  exact ⟨N, A4 c_laws_szIntSS c_laws_toIntSS c_spec_IsWeightMatrix c_impl_IsWeightMatrix c_laws_eqIntSS N, L4 c_laws_szIntSS c_laws_toIntSS c_spec_IsWeightMatrix c_impl_IsWeightMatrix c_laws_eqIntSS N, (K4 c_laws_szIntSS c_laws_toIntSS c_spec_IsWeightMatrix c_impl_IsWeightMatrix c_laws_eqIntSS N a0).trans hN⟩
theorem X4 : Contract Go.Proofs.Try.prog 4 ⟨[(.slice (.slice int))], .bool, e_laws_FnExactIsWeightMatrix⟩ := C4 X19 X21 X20 X22 X23 fun _ _ h => ⟨N0, h⟩
-- laws_szWireS
def E67 : Env := ⟨tys, [], [], []⟩
def A67 (_N : Nat) : List (Nat × Loop (Ty.den int)) := []
theorem K67 (N : Nat) (a0 : (List (Int × Int × Int))) (a1 : Int) : fnK N (E67) Go.Proofs.Try.f67 [(.slice wire), int] int (A67 N) (a0, a1, ()) = r_laws_szWireS N a0 a1 := by kernel_rfl
theorem L67 (N : Nat) : LoopsOk N (E67) (A67 N) Go.Proofs.Try.f67.ntmps (retOf (E67) Go.Proofs.Try.f67 int) (loopsOf (Go.Proofs.Try.f67.body.getD .skip)) :=
  LoopsOk.of (l := []) (by kernel_rfl) .nil
theorem There67 : There Go.Proofs.Try.prog 67 := ⟨_, Go.Proofs.Try.func67, by kernel_rfl, by kernel_rfl⟩
theorem C67 {f : ((List (Int × Int × Int)) × Int × Unit → Option Int)} (h : ∀ a0 a1 r, f (a0, a1, ()) = some r → ∃ N, r_laws_szWireS N a0 a1 = some r) : Contract Go.Proofs.Try.prog 67 ⟨[(.slice wire), int], int, f⟩ := by
  refine contract (E := E67) (envOf table trivial trivial) mixed Go.Proofs.Try.func67 (c := Go.Proofs.Try.f67.body.getD .skip) (by kernel_rfl) (Nat.le_of_ble_eq_true (by kernel_rfl)) fun xs r hr => ?_
  obtain ⟨a0, a1, _⟩ := xs
  obtain ⟨N, hN⟩ := h _ _ r hr
  exact ⟨N, A67 N, L67 N, (K67 N a0 a1).trans hN⟩
theorem X67 : Contract Go.Proofs.Try.prog 67 ⟨[(.slice wire), int], int, e_laws_szWireS⟩ := C67 fun _ _ _ h => ⟨N0, h⟩
-- laws_szNet
def E24 (c_laws_szWireS : ((List (Int × Int × Int)) × Int × Unit → Option Int)) : Env := ⟨tys, [], [(67, ⟨[(.slice wire), int], int, c_laws_szWireS⟩)], []⟩
def A24 (_c_laws_szWireS : ((List (Int × Int × Int)) × Int × Unit → Option Int)) (_N : Nat) : List (Nat × Loop (Ty.den int)) := []
theorem K24 (c_laws_szWireS : ((List (Int × Int × Int)) × Int × Unit → Option Int)) (N : Nat) (a0 : (Int × Int × Int × List (Int × Int × Int))) (a1 : Int) : fnK N (E24 c_laws_szWireS) Go.Proofs.Try.f24 [net, int] int (A24 c_laws_szWireS N) (a0, a1, ()) = r_laws_szNet c_laws_szWireS N a0 a1 := by kernel_rfl
theorem L24 (c_laws_szWireS : ((List (Int × Int × Int)) × Int × Unit → Option Int)) (N : Nat) : LoopsOk N (E24 c_laws_szWireS) (A24 c_laws_szWireS N) Go.Proofs.Try.f24.ntmps (retOf (E24 c_laws_szWireS) Go.Proofs.Try.f24 int) (loopsOf (Go.Proofs.Try.f24.body.getD .skip)) :=
  LoopsOk.of (l := []) (by kernel_rfl) .nil
theorem There24 : There Go.Proofs.Try.prog 24 := ⟨_, Go.Proofs.Try.func24, by kernel_rfl, by kernel_rfl⟩
theorem C24 {c_laws_szWireS : ((List (Int × Int × Int)) × Int × Unit → Option Int)} (h_c_laws_szWireS : Contract Go.Proofs.Try.prog 67 ⟨[(.slice wire), int], int, c_laws_szWireS⟩) {f : ((Int × Int × Int × List (Int × Int × Int)) × Int × Unit → Option Int)} (h : ∀ a0 a1 r, f (a0, a1, ()) = some r → ∃ N, r_laws_szNet c_laws_szWireS N a0 a1 = some r) : Contract Go.Proofs.Try.prog 24 ⟨[net, int], int, f⟩ := by
  refine contract (E := E24 c_laws_szWireS) (envOf table ⟨⟨h_c_laws_szWireS, There67⟩, trivial⟩ trivial) mixed Go.Proofs.Try.func24 (c := Go.Proofs.Try.f24.body.getD .skip) (by kernel_rfl) (Nat.le_of_ble_eq_true (by kernel_rfl)) fun xs r hr => ?_
  obtain ⟨a0, a1, _⟩ := xs
  obtain ⟨N, hN⟩ := h _ _ r hr
  exact ⟨N, A24 c_laws_szWireS N, L24 c_laws_szWireS N, (K24 c_laws_szWireS N a0 a1).trans hN⟩
theorem X24 : Contract Go.Proofs.Try.prog 24 ⟨[net, int], int, e_laws_szNet⟩ := C24 X67 fun _ _ _ h => ⟨N0, h⟩
-- laws_toWire
def E109 : Env := ⟨tys, [], [], []⟩
def A109 (_N : Nat) : List (Nat × Loop (Ty.den wire)) := []
theorem K109 (N : Nat) (a0 : (Int × Int × Int)) : fnK N (E109) Go.Proofs.Try.f109 [wire] wire (A109 N) (a0, ()) = r_laws_toWire N a0 := by kernel_rfl
theorem L109 (N : Nat) : LoopsOk N (E109) (A109 N) Go.Proofs.Try.f109.ntmps (retOf (E109) Go.Proofs.Try.f109 wire) (loopsOf (Go.Proofs.Try.f109.body.getD .skip)) :=
  LoopsOk.of (l := []) (by kernel_rfl) .nil
theorem There109 : There Go.Proofs.Try.prog 109 := ⟨_, Go.Proofs.Try.func109, by kernel_rfl, by kernel_rfl⟩
theorem C109 {f : ((Int × Int × Int) × Unit → Option (Int × Int × Int))} (h : ∀ a0 r, f (a0, ()) = some r → ∃ N, r_laws_toWire N a0 = some r) : Contract Go.Proofs.Try.prog 109 ⟨[wire], wire, f⟩ := by
  refine contract (E := E109) (envOf table trivial trivial) mixed Go.Proofs.Try.func109 (c := Go.Proofs.Try.f109.body.getD .skip) (by kernel_rfl) (Nat.le_of_ble_eq_true (by kernel_rfl)) fun xs r hr => ?_
  obtain ⟨a0, _⟩ := xs
  obtain ⟨N, hN⟩ := h _ r hr
  exact ⟨N, A109 N, L109 N, (K109 N a0).trans hN⟩
theorem X109 : Contract Go.Proofs.Try.prog 109 ⟨[wire], wire, e_laws_toWire⟩ := C109 fun _ _ h => ⟨N0, h⟩
-- laws_toWireS
def E69 (c_laws_toWire : ((Int × Int × Int) × Unit → Option (Int × Int × Int))) : Env := ⟨tys, [], [(109, ⟨[wire], wire, c_laws_toWire⟩)], []⟩
def A69 (c_laws_toWire : ((Int × Int × Int) × Unit → Option (Int × Int × Int))) (N : Nat) : List (Nat × Loop (Ty.den (.slice wire))) := [(0, ⟨[(0, .ro none (.slice (.pair (.num .i64) (.pair (.num .i64) (.num .i64))))), (3, .own (.slice (.pair (.num .i64) (.pair (.num .i64) (.num .i64))))), (4, .ro none (.num .i64))], r_laws_toWireS_L0 c_laws_toWire N⟩)]
theorem K69 (c_laws_toWire : ((Int × Int × Int) × Unit → Option (Int × Int × Int))) (N : Nat) (a0 : (List (Int × Int × Int))) : fnK N (E69 c_laws_toWire) Go.Proofs.Try.f69 [(.slice wire)] (.slice wire) (A69 c_laws_toWire N) (a0, ()) = r_laws_toWireS c_laws_toWire N a0 := by kernel_rfl
theorem L69 (c_laws_toWire : ((Int × Int × Int) × Unit → Option (Int × Int × Int))) (N : Nat) : LoopsOk N (E69 c_laws_toWire) (A69 c_laws_toWire N) Go.Proofs.Try.f69.ntmps (retOf (E69 c_laws_toWire) Go.Proofs.Try.f69 (.slice wire)) (loopsOf (Go.Proofs.Try.f69.body.getD .skip)) :=
  LoopsOk.of (l := [(0, lb Go.Proofs.Try.f69 0)]) (by kernel_rfl) (.cons (L := ⟨[(0, .ro none (.slice (.pair (.num .i64) (.pair (.num .i64) (.num .i64))))), (3, .own (.slice (.pair (.num .i64) (.pair (.num .i64) (.num .i64))))), (4, .ro none (.num .i64))], r_laws_toWireS_L0 c_laws_toWire N⟩) (by kernel_rfl) (by intro s kc ke env; kernel_rfl) .nil)
theorem There69 : There Go.Proofs.Try.prog 69 := ⟨_, Go.Proofs.Try.func69, by kernel_rfl, by kernel_rfl⟩
theorem C69 {c_laws_toWire : ((Int × Int × Int) × Unit → Option (Int × Int × Int))} (h_c_laws_toWire : Contract Go.Proofs.Try.prog 109 ⟨[wire], wire, c_laws_toWire⟩) {f : ((List (Int × Int × Int)) × Unit → Option (List (Int × Int × Int)))} (h : ∀ a0 r, f (a0, ()) = some r → ∃ N, r_laws_toWireS c_laws_toWire N a0 = some r) : Contract Go.Proofs.Try.prog 69 ⟨[(.slice wire)], (.slice wire), f⟩ := by
  refine contract (E := E69 c_laws_toWire) (envOf table ⟨⟨h_c_laws_toWire, There109⟩, trivial⟩ trivial) mixed Go.Proofs.Try.func69 (c := Go.Proofs.Try.f69.body.getD .skip) (by kernel_rfl) (Nat.le_of_ble_eq_true (by kernel_rfl)) fun xs r hr => ?_
  obtain ⟨a0, _⟩ := xs
  obtain ⟨N, hN⟩ := h _ r hr
  exact ⟨N, A69 c_laws_toWire N, L69 c_laws_toWire N, (K69 c_laws_toWire N a0).trans hN⟩
theorem X69 : Contract Go.Proofs.Try.prog 69 ⟨[(.slice wire)], (.slice wire), e_laws_toWireS⟩ := C69 X109 fun _ _ h => ⟨N0, h⟩
-- laws_toNet
def E26 (c_laws_toWireS : ((List (Int × Int × Int)) × Unit → Option (List (Int × Int × Int)))) : Env := ⟨tys, [], [(69, ⟨[(.slice wire)], (.slice wire), c_laws_toWireS⟩)], []⟩
def A26 (_c_laws_toWireS : ((List (Int × Int × Int)) × Unit → Option (List (Int × Int × Int)))) (_N : Nat) : List (Nat × Loop (Ty.den net)) := []
theorem K26 (c_laws_toWireS : ((List (Int × Int × Int)) × Unit → Option (List (Int × Int × Int)))) (N : Nat) (a0 : (Int × Int × Int × List (Int × Int × Int))) : fnK N (E26 c_laws_toWireS) Go.Proofs.Try.f26 [net] net (A26 c_laws_toWireS N) (a0, ()) = r_laws_toNet c_laws_toWireS N a0 := by kernel_rfl
theorem L26 (c_laws_toWireS : ((List (Int × Int × Int)) × Unit → Option (List (Int × Int × Int)))) (N : Nat) : LoopsOk N (E26 c_laws_toWireS) (A26 c_laws_toWireS N) Go.Proofs.Try.f26.ntmps (retOf (E26 c_laws_toWireS) Go.Proofs.Try.f26 net) (loopsOf (Go.Proofs.Try.f26.body.getD .skip)) :=
  LoopsOk.of (l := []) (by kernel_rfl) .nil
theorem There26 : There Go.Proofs.Try.prog 26 := ⟨_, Go.Proofs.Try.func26, by kernel_rfl, by kernel_rfl⟩
theorem C26 {c_laws_toWireS : ((List (Int × Int × Int)) × Unit → Option (List (Int × Int × Int)))} (h_c_laws_toWireS : Contract Go.Proofs.Try.prog 69 ⟨[(.slice wire)], (.slice wire), c_laws_toWireS⟩) {f : ((Int × Int × Int × List (Int × Int × Int)) × Unit → Option (Int × Int × Int × List (Int × Int × Int)))} (h : ∀ a0 r, f (a0, ()) = some r → ∃ N, r_laws_toNet c_laws_toWireS N a0 = some r) : Contract Go.Proofs.Try.prog 26 ⟨[net], net, f⟩ := by
  refine contract (E := E26 c_laws_toWireS) (envOf table ⟨⟨h_c_laws_toWireS, There69⟩, trivial⟩ trivial) mixed Go.Proofs.Try.func26 (c := Go.Proofs.Try.f26.body.getD .skip) (by kernel_rfl) (Nat.le_of_ble_eq_true (by kernel_rfl)) fun xs r hr => ?_
  obtain ⟨a0, _⟩ := xs
  obtain ⟨N, hN⟩ := h _ r hr
  exact ⟨N, A26 c_laws_toWireS N, L26 c_laws_toWireS N, (K26 c_laws_toWireS N a0).trans hN⟩
theorem X26 : Contract Go.Proofs.Try.prog 26 ⟨[net], net, e_laws_toNet⟩ := C26 X69 fun _ _ h => ⟨N0, h⟩
-- spec_l03Has
def E60 : Env := ⟨tys, [], [], []⟩
def A60 (N : Nat) : List (Nat × Loop (Ty.den .bool)) := [(0, ⟨[(1, .ro none (.num .i64)), (7, .ro none (.slice (.num .i64))), (8, .ro none (.num .i64)), (9, .ro none (.num .i64))], r_spec_l03Has_L0 N⟩)]
theorem K60 (N : Nat) (a0 : (List Int)) (a1 : Int) : fnK N (E60) Go.Proofs.Try.f60 [(.slice int), int] .bool (A60 N) (a0, a1, ()) = r_spec_l03Has N a0 a1 := by kernel_rfl
theorem L60 (N : Nat) : LoopsOk N (E60) (A60 N) Go.Proofs.Try.f60.ntmps (retOf (E60) Go.Proofs.Try.f60 .bool) (loopsOf (Go.Proofs.Try.f60.body.getD .skip)) :=
  LoopsOk.of (l := [(0, lb Go.Proofs.Try.f60 0)]) (by kernel_rfl) (.cons (L := ⟨[(1, .ro none (.num .i64)), (7, .ro none (.slice (.num .i64))), (8, .ro none (.num .i64)), (9, .ro none (.num .i64))], r_spec_l03Has_L0 N⟩) (by kernel_rfl) (by intro s kc ke env; kernel_rfl) .nil)
theorem There60 : There Go.Proofs.Try.prog 60 := ⟨_, Go.Proofs.Try.func60, by kernel_rfl, by kernel_rfl⟩
theorem C60 {f : ((List Int) × Int × Unit → Option Bool)} (h : ∀ a0 a1 r, f (a0, a1, ()) = some r → ∃ N, r_spec_l03Has N a0 a1 = some r) : Contract Go.Proofs.Try.prog 60 ⟨[(.slice int), int], .bool, f⟩ := by
  refine contract (E := E60) (envOf table trivial trivial) mixed Go.Proofs.Try.func60 (c := Go.Proofs.Try.f60.body.getD .skip) (by kernel_rfl) (Nat.le_of_ble_eq_true (by kernel_rfl)) fun xs r hr => ?_
  obtain ⟨a0, a1, _⟩ := xs
  obtain ⟨N, hN⟩ := h _ _ r hr
  exact ⟨N, A60 N, L60 N, (K60 N a0 a1).trans hN⟩
theorem X60 : Contract Go.Proofs.Try.prog 60 ⟨[(.slice int), int], .bool, e_spec_l03Has⟩ := C60 fun _ _ _ h => ⟨N0, h⟩
-- spec_l03Reach
def E108 (c_spec_l03Has : ((List Int) × Int × Unit → Option Bool)) : Env := ⟨tys, [], [(60, ⟨[(.slice int), int], .bool, c_spec_l03Has⟩)], []⟩
def A108 (c_spec_l03Has : ((List Int) × Int × Unit → Option Bool)) (N : Nat) : List (Nat × Loop (Ty.den (.slice int))) := [(0, ⟨[(0, .ro none (.slice (.pair (.num .i64) (.pair (.num .i64) (.num .i64))))), (5, .own (.slice (.num .i64))), (6, .ro none (.num .i64))], r_spec_l03Reach_L0 c_spec_l03Has N⟩), (2, ⟨[(0, .ro none (.slice (.pair (.num .i64) (.pair (.num .i64) (.num .i64))))), (5, .own (.slice (.num .i64))), (6, .ro none (.num .i64)), (17, .ro none (.slice (.pair (.num .i64) (.pair (.num .i64) (.num .i64))))), (18, .ro none (.num .i64)), (19, .ro none (.num .i64))], r_spec_l03Reach_L2 c_spec_l03Has N⟩)]
theorem K108 (c_spec_l03Has : ((List Int) × Int × Unit → Option Bool)) (N : Nat) (a0 : (List (Int × Int × Int))) (a1 : Int) : fnK N (E108 c_spec_l03Has) Go.Proofs.Try.f108 [(.slice wire), int] (.slice int) (A108 c_spec_l03Has N) (a0, a1, ()) = r_spec_l03Reach c_spec_l03Has N a0 a1 := by kernel_rfl
theorem L108 (c_spec_l03Has : ((List Int) × Int × Unit → Option Bool)) (N : Nat) : LoopsOk N (E108 c_spec_l03Has) (A108 c_spec_l03Has N) Go.Proofs.Try.f108.ntmps (retOf (E108 c_spec_l03Has) Go.Proofs.Try.f108 (.slice int)) (loopsOf (Go.Proofs.Try.f108.body.getD .skip)) :=
  LoopsOk.of (l := [(0, lb Go.Proofs.Try.f108 0), (2, lb Go.Proofs.Try.f108 1)]) (by kernel_rfl) (.cons (L := ⟨[(0, .ro none (.slice (.pair (.num .i64) (.pair (.num .i64) (.num .i64))))), (5, .own (.slice (.num .i64))), (6, .ro none (.num .i64))], r_spec_l03Reach_L0 c_spec_l03Has N⟩) (by kernel_rfl) (by intro s kc ke env; kernel_rfl) (.cons (L := ⟨[(0, .ro none (.slice (.pair (.num .i64) (.pair (.num .i64) (.num .i64))))), (5, .own (.slice (.num .i64))), (6, .ro none (.num .i64)), (17, .ro none (.slice (.pair (.num .i64) (.pair (.num .i64) (.num .i64))))), (18, .ro none (.num .i64)), (19, .ro none (.num .i64))], r_spec_l03Reach_L2 c_spec_l03Has N⟩) (by kernel_rfl) (by intro s kc ke env; kernel_rfl) .nil))
theorem There108 : There Go.Proofs.Try.prog 108 := ⟨_, Go.Proofs.Try.func108, by kernel_rfl, by kernel_rfl⟩
theorem C108 {c_spec_l03Has : ((List Int) × Int × Unit → Option Bool)} (h_c_spec_l03Has : Contract Go.Proofs.Try.prog 60 ⟨[(.slice int), int], .bool, c_spec_l03Has⟩) {f : ((List (Int × Int × Int)) × Int × Unit → Option (List Int))} (h : ∀ a0 a1 r, f (a0, a1, ()) = some r → ∃ N, r_spec_l03Reach c_spec_l03Has N a0 a1 = some r) : Contract Go.Proofs.Try.prog 108 ⟨[(.slice wire), int], (.slice int), f⟩ := by
  refine contract (E := E108 c_spec_l03Has) (envOf table ⟨⟨h_c_spec_l03Has, There60⟩, trivial⟩ trivial) mixed Go.Proofs.Try.func108 (c := Go.Proofs.Try.f108.body.getD .skip) (by kernel_rfl) (Nat.le_of_ble_eq_true (by kernel_rfl)) fun xs r hr => ?_
  obtain ⟨a0, a1, _⟩ := xs
  obtain ⟨N, hN⟩ := h _ _ r hr
  exact ⟨N, A108 c_spec_l03Has N, L108 c_spec_l03Has N, (K108 c_spec_l03Has N a0 a1).trans hN⟩
theorem X108 : Contract Go.Proofs.Try.prog 108 ⟨[(.slice wire), int], (.slice int), e_spec_l03Reach⟩ := C108 X60 fun _ _ _ h => ⟨N0, h⟩
-- spec_NetOk
def E68 (c_spec_l01In : (Int × Int × Int × Unit → Option Bool)) (c_spec_l03Reach : ((List (Int × Int × Int)) × Int × Unit → Option (List Int))) : Env := ⟨tys, [], [(58, ⟨[int, int, int], .bool, c_spec_l01In⟩), (108, ⟨[(.slice wire), int], (.slice int), c_spec_l03Reach⟩)], []⟩
def A68 (c_spec_l01In : (Int × Int × Int × Unit → Option Bool)) (c_spec_l03Reach : ((List (Int × Int × Int)) × Int × Unit → Option (List Int))) (N : Nat) : List (Nat × Loop (Ty.den .bool)) := [(0, ⟨[(1, .box false (.pair (.num .i64) (.pair (.num .i64) (.pair (.num .i64) (.slice (.pair (.num .i64) (.pair (.num .i64) (.num .i64)))))))), (24, .ro none (.slice (.pair (.num .i64) (.pair (.num .i64) (.num .i64))))), (25, .ro none (.num .i64)), (26, .ro none (.num .i64))], r_spec_NetOk_L0 c_spec_l01In c_spec_l03Reach N⟩)]
theorem K68 (c_spec_l01In : (Int × Int × Int × Unit → Option Bool)) (c_spec_l03Reach : ((List (Int × Int × Int)) × Int × Unit → Option (List Int))) (N : Nat) (a0 : (Int × Int × Int × List (Int × Int × Int))) : fnK N (E68 c_spec_l01In c_spec_l03Reach) Go.Proofs.Try.f68 [net] .bool (A68 c_spec_l01In c_spec_l03Reach N) (a0, ()) = r_spec_NetOk c_spec_l01In c_spec_l03Reach N a0 := by kernel_rfl
theorem L68 (c_spec_l01In : (Int × Int × Int × Unit → Option Bool)) (c_spec_l03Reach : ((List (Int × Int × Int)) × Int × Unit → Option (List Int))) (N : Nat) : LoopsOk N (E68 c_spec_l01In c_spec_l03Reach) (A68 c_spec_l01In c_spec_l03Reach N) Go.Proofs.Try.f68.ntmps (retOf (E68 c_spec_l01In c_spec_l03Reach) Go.Proofs.Try.f68 .bool) (loopsOf (Go.Proofs.Try.f68.body.getD .skip)) :=
  LoopsOk.of (l := [(0, lb Go.Proofs.Try.f68 0)]) (by kernel_rfl) (.cons (L := ⟨[(1, .box false (.pair (.num .i64) (.pair (.num .i64) (.pair (.num .i64) (.slice (.pair (.num .i64) (.pair (.num .i64) (.num .i64)))))))), (24, .ro none (.slice (.pair (.num .i64) (.pair (.num .i64) (.num .i64))))), (25, .ro none (.num .i64)), (26, .ro none (.num .i64))], r_spec_NetOk_L0 c_spec_l01In c_spec_l03Reach N⟩) (by kernel_rfl) (by intro s kc ke env; kernel_rfl) .nil)
theorem There68 : There Go.Proofs.Try.prog 68 := ⟨_, Go.Proofs.Try.func68, by kernel_rfl, by kernel_rfl⟩
theorem C68 {c_spec_l01In : (Int × Int × Int × Unit → Option Bool)} {c_spec_l03Reach : ((List (Int × Int × Int)) × Int × Unit → Option (List Int))} (h_c_spec_l01In : Contract Go.Proofs.Try.prog 58 ⟨[int, int, int], .bool, c_spec_l01In⟩) (h_c_spec_l03Reach : Contract Go.Proofs.Try.prog 108 ⟨[(.slice wire), int], (.slice int), c_spec_l03Reach⟩) {f : ((Int × Int × Int × List (Int × Int × Int)) × Unit → Option Bool)} (h : ∀ a0 r, f (a0, ()) = some r → ∃ N, r_spec_NetOk c_spec_l01In c_spec_l03Reach N a0 = some r) : Contract Go.Proofs.Try.prog 68 ⟨[net], .bool, f⟩ := by
  refine contract (E := E68 c_spec_l01In c_spec_l03Reach) (envOf table ⟨⟨h_c_spec_l01In, There58⟩, ⟨⟨h_c_spec_l03Reach, There108⟩, trivial⟩⟩ trivial) mixed Go.Proofs.Try.func68 (c := Go.Proofs.Try.f68.body.getD .skip) (by kernel_rfl) (Nat.le_of_ble_eq_true (by kernel_rfl)) fun xs r hr => ?_
  obtain ⟨a0, _⟩ := xs
  obtain ⟨N, hN⟩ := h _ r hr
  exact ⟨N, A68 c_spec_l01In c_spec_l03Reach N, L68 c_spec_l01In c_spec_l03Reach N, (K68 c_spec_l01In c_spec_l03Reach N a0).trans hN⟩
theorem X68 : Contract Go.Proofs.Try.prog 68 ⟨[net], .bool, e_spec_NetOk⟩ := C68 X58 X108 fun _ _ h => ⟨N0, h⟩
-- spec_BoundsOk
def E25 (c_spec_NetOk : ((Int × Int × Int × List (Int × Int × Int)) × Unit → Option Bool)) (c_spec_l01In : (Int × Int × Int × Unit → Option Bool)) : Env := ⟨tys, [], [(68, ⟨[net], .bool, c_spec_NetOk⟩), (58, ⟨[int, int, int], .bool, c_spec_l01In⟩)], []⟩
def A25 (c_spec_NetOk : ((Int × Int × Int × List (Int × Int × Int)) × Unit → Option Bool)) (c_spec_l01In : (Int × Int × Int × Unit → Option Bool)) (N : Nat) : List (Nat × Loop (Ty.den .bool)) := [(0, ⟨[(1, .ro none (.slice (.num .i64))), (2, .ro none (.slice (.num .i64))), (29, .ro none (.slice (.pair (.num .i64) (.pair (.num .i64) (.num .i64))))), (30, .ro none (.num .i64)), (31, .ro none (.num .i64))], r_spec_BoundsOk_L0 c_spec_NetOk c_spec_l01In N⟩)]
theorem K25 (c_spec_NetOk : ((Int × Int × Int × List (Int × Int × Int)) × Unit → Option Bool)) (c_spec_l01In : (Int × Int × Int × Unit → Option Bool)) (N : Nat) (a0 : (Int × Int × Int × List (Int × Int × Int))) (a1 : (List Int)) (a2 : (List Int)) : fnK N (E25 c_spec_NetOk c_spec_l01In) Go.Proofs.Try.f25 [net, (.slice int), (.slice int)] .bool (A25 c_spec_NetOk c_spec_l01In N) (a0, a1, a2, ()) = r_spec_BoundsOk c_spec_NetOk c_spec_l01In N a0 a1 a2 := by kernel_rfl
theorem L25 (c_spec_NetOk : ((Int × Int × Int × List (Int × Int × Int)) × Unit → Option Bool)) (c_spec_l01In : (Int × Int × Int × Unit → Option Bool)) (N : Nat) : LoopsOk N (E25 c_spec_NetOk c_spec_l01In) (A25 c_spec_NetOk c_spec_l01In N) Go.Proofs.Try.f25.ntmps (retOf (E25 c_spec_NetOk c_spec_l01In) Go.Proofs.Try.f25 .bool) (loopsOf (Go.Proofs.Try.f25.body.getD .skip)) :=
  LoopsOk.of (l := [(0, lb Go.Proofs.Try.f25 0)]) (by kernel_rfl) (.cons (L := ⟨[(1, .ro none (.slice (.num .i64))), (2, .ro none (.slice (.num .i64))), (29, .ro none (.slice (.pair (.num .i64) (.pair (.num .i64) (.num .i64))))), (30, .ro none (.num .i64)), (31, .ro none (.num .i64))], r_spec_BoundsOk_L0 c_spec_NetOk c_spec_l01In N⟩) (by kernel_rfl) (by intro s kc ke env; kernel_rfl) .nil)
theorem There25 : There Go.Proofs.Try.prog 25 := ⟨_, Go.Proofs.Try.func25, by kernel_rfl, by kernel_rfl⟩
theorem C25 {c_spec_NetOk : ((Int × Int × Int × List (Int × Int × Int)) × Unit → Option Bool)} {c_spec_l01In : (Int × Int × Int × Unit → Option Bool)} (h_c_spec_NetOk : Contract Go.Proofs.Try.prog 68 ⟨[net], .bool, c_spec_NetOk⟩) (h_c_spec_l01In : Contract Go.Proofs.Try.prog 58 ⟨[int, int, int], .bool, c_spec_l01In⟩) {f : ((Int × Int × Int × List (Int × Int × Int)) × (List Int) × (List Int) × Unit → Option Bool)} (h : ∀ a0 a1 a2 r, f (a0, a1, a2, ()) = some r → ∃ N, r_spec_BoundsOk c_spec_NetOk c_spec_l01In N a0 a1 a2 = some r) : Contract Go.Proofs.Try.prog 25 ⟨[net, (.slice int), (.slice int)], .bool, f⟩ := by
  refine contract (E := E25 c_spec_NetOk c_spec_l01In) (envOf table ⟨⟨h_c_spec_NetOk, There68⟩, ⟨⟨h_c_spec_l01In, There58⟩, trivial⟩⟩ trivial) mixed Go.Proofs.Try.func25 (c := Go.Proofs.Try.f25.body.getD .skip) (by kernel_rfl) (Nat.le_of_ble_eq_true (by kernel_rfl)) fun xs r hr => ?_
  obtain ⟨a0, a1, a2, _⟩ := xs
  obtain ⟨N, hN⟩ := h _ _ _ r hr
  exact ⟨N, A25 c_spec_NetOk c_spec_l01In N, L25 c_spec_NetOk c_spec_l01In N, (K25 c_spec_NetOk c_spec_l01In N a0 a1 a2).trans hN⟩
theorem X25 : Contract Go.Proofs.Try.prog 25 ⟨[net, (.slice int), (.slice int)], .bool, e_spec_BoundsOk⟩ := C25 X68 X58 fun _ _ _ _ h => ⟨N0, h⟩
-- slices_Index_bool
def E135 : Env := ⟨tys, [], [], []⟩
def A135 (N : Nat) : List (Nat × Loop (Ty.den int)) := [(0, ⟨[(0, .ro none (.slice .bool)), (1, .ro none .bool), (7, .ro none (.num .i64)), (8, .ro none (.num .i64))], r_slices_Index_bool_L0 N⟩)]
theorem K135 (N : Nat) (a0 : (List Bool)) (a1 : Bool) : fnK N (E135) Go.Proofs.Try.f135 [(.slice .bool), .bool] int (A135 N) (a0, a1, ()) = r_slices_Index_bool N a0 a1 := by kernel_rfl
theorem L135 (N : Nat) : LoopsOk N (E135) (A135 N) Go.Proofs.Try.f135.ntmps (retOf (E135) Go.Proofs.Try.f135 int) (loopsOf (Go.Proofs.Try.f135.body.getD .skip)) :=
  LoopsOk.of (l := [(0, lb Go.Proofs.Try.f135 0)]) (by kernel_rfl) (.cons (L := ⟨[(0, .ro none (.slice .bool)), (1, .ro none .bool), (7, .ro none (.num .i64)), (8, .ro none (.num .i64))], r_slices_Index_bool_L0 N⟩) (by kernel_rfl) (by intro s kc ke env; kernel_rfl) .nil)
theorem There135 : There Go.Proofs.Try.prog 135 := ⟨_, Go.Proofs.Try.func135, by kernel_rfl, by kernel_rfl⟩
theorem C135 {f : ((List Bool) × Bool × Unit → Option Int)} (h : ∀ a0 a1 r, f (a0, a1, ()) = some r → ∃ N, r_slices_Index_bool N a0 a1 = some r) : Contract Go.Proofs.Try.prog 135 ⟨[(.slice .bool), .bool], int, f⟩ := by
  refine contract (E := E135) (envOf table trivial trivial) mixed Go.Proofs.Try.func135 (c := Go.Proofs.Try.f135.body.getD .skip) (by kernel_rfl) (Nat.le_of_ble_eq_true (by kernel_rfl)) fun xs r hr => ?_
  obtain ⟨a0, a1, _⟩ := xs
  obtain ⟨N, hN⟩ := h _ _ r hr
  exact ⟨N, A135 N, L135 N, (K135 N a0 a1).trans hN⟩
theorem X135 : Contract Go.Proofs.Try.prog 135 ⟨[(.slice .bool), .bool], int, e_slices_Index_bool⟩ := C135 fun _ _ _ h => ⟨N0, h⟩
-- slices_Contains_bool
def E111 (c_slices_Index_bool : ((List Bool) × Bool × Unit → Option Int)) : Env := ⟨tys, [], [(135, ⟨[(.slice .bool), .bool], int, c_slices_Index_bool⟩)], []⟩
def A111 (_c_slices_Index_bool : ((List Bool) × Bool × Unit → Option Int)) (_N : Nat) : List (Nat × Loop (Ty.den .bool)) := []
theorem K111 (c_slices_Index_bool : ((List Bool) × Bool × Unit → Option Int)) (N : Nat) (a0 : (List Bool)) (a1 : Bool) : fnK N (E111 c_slices_Index_bool) Go.Proofs.Try.f111 [(.slice .bool), .bool] .bool (A111 c_slices_Index_bool N) (a0, a1, ()) = r_slices_Contains_bool c_slices_Index_bool N a0 a1 := by kernel_rfl
theorem L111 (c_slices_Index_bool : ((List Bool) × Bool × Unit → Option Int)) (N : Nat) : LoopsOk N (E111 c_slices_Index_bool) (A111 c_slices_Index_bool N) Go.Proofs.Try.f111.ntmps (retOf (E111 c_slices_Index_bool) Go.Proofs.Try.f111 .bool) (loopsOf (Go.Proofs.Try.f111.body.getD .skip)) :=
  LoopsOk.of (l := []) (by kernel_rfl) .nil
theorem There111 : There Go.Proofs.Try.prog 111 := ⟨_, Go.Proofs.Try.func111, by kernel_rfl, by kernel_rfl⟩
theorem C111 {c_slices_Index_bool : ((List Bool) × Bool × Unit → Option Int)} (h_c_slices_Index_bool : Contract Go.Proofs.Try.prog 135 ⟨[(.slice .bool), .bool], int, c_slices_Index_bool⟩) {f : ((List Bool) × Bool × Unit → Option Bool)} (h : ∀ a0 a1 r, f (a0, a1, ()) = some r → ∃ N, r_slices_Contains_bool c_slices_Index_bool N a0 a1 = some r) : Contract Go.Proofs.Try.prog 111 ⟨[(.slice .bool), .bool], .bool, f⟩ := by
  refine contract (E := E111 c_slices_Index_bool) (envOf table ⟨⟨h_c_slices_Index_bool, There135⟩, trivial⟩ trivial) mixed Go.Proofs.Try.func111 (c := Go.Proofs.Try.f111.body.getD .skip) (by kernel_rfl) (Nat.le_of_ble_eq_true (by kernel_rfl)) fun xs r hr => ?_
  obtain ⟨a0, a1, _⟩ := xs
  obtain ⟨N, hN⟩ := h _ _ r hr
  exact ⟨N, A111 c_slices_Index_bool N, L111 c_slices_Index_bool N, (K111 c_slices_Index_bool N a0 a1).trans hN⟩
theorem X111 : Contract Go.Proofs.Try.prog 111 ⟨[(.slice .bool), .bool], .bool, e_slices_Contains_bool⟩ := C111 X135 fun _ _ _ h => ⟨N0, h⟩
-- cmp_isNaN_int
def E143 : Env := ⟨tys, [], [], []⟩
def A143 (_N : Nat) : List (Nat × Loop (Ty.den .bool)) := []
theorem K143 (N : Nat) (a0 : Int) : fnK N (E143) Go.Proofs.Try.f143 [int] .bool (A143 N) (a0, ()) = r_cmp_isNaN_int N a0 := by kernel_rfl
theorem L143 (N : Nat) : LoopsOk N (E143) (A143 N) Go.Proofs.Try.f143.ntmps (retOf (E143) Go.Proofs.Try.f143 .bool) (loopsOf (Go.Proofs.Try.f143.body.getD .skip)) :=
  LoopsOk.of (l := []) (by kernel_rfl) .nil
theorem There143 : There Go.Proofs.Try.prog 143 := ⟨_, Go.Proofs.Try.func143, by kernel_rfl, by kernel_rfl⟩
theorem C143 {f : (Int × Unit → Option Bool)} (h : ∀ a0 r, f (a0, ()) = some r → ∃ N, r_cmp_isNaN_int N a0 = some r) : Contract Go.Proofs.Try.prog 143 ⟨[int], .bool, f⟩ := by
  refine contract (E := E143) (envOf table trivial trivial) mixed Go.Proofs.Try.func143 (c := Go.Proofs.Try.f143.body.getD .skip) (by kernel_rfl) (Nat.le_of_ble_eq_true (by kernel_rfl)) fun xs r hr => ?_
  obtain ⟨a0, _⟩ := xs
  obtain ⟨N, hN⟩ := h _ r hr
  exact ⟨N, A143 N, L143 N, (K143 N a0).trans hN⟩
theorem X143 : Contract Go.Proofs.Try.prog 143 ⟨[int], .bool, e_cmp_isNaN_int⟩ := C143 fun _ _ h => ⟨N0, h⟩
-- cmp_Compare_int
def E134 (c_cmp_isNaN_int : (Int × Unit → Option Bool)) : Env := ⟨tys, [], [(143, ⟨[int], .bool, c_cmp_isNaN_int⟩)], []⟩
def A134 (_c_cmp_isNaN_int : (Int × Unit → Option Bool)) (_N : Nat) : List (Nat × Loop (Ty.den int)) := []
theorem K134 (c_cmp_isNaN_int : (Int × Unit → Option Bool)) (N : Nat) (a0 : Int) (a1 : Int) : fnK N (E134 c_cmp_isNaN_int) Go.Proofs.Try.f134 [int, int] int (A134 c_cmp_isNaN_int N) (a0, a1, ()) = r_cmp_Compare_int c_cmp_isNaN_int N a0 a1 := by kernel_rfl
theorem L134 (c_cmp_isNaN_int : (Int × Unit → Option Bool)) (N : Nat) : LoopsOk N (E134 c_cmp_isNaN_int) (A134 c_cmp_isNaN_int N) Go.Proofs.Try.f134.ntmps (retOf (E134 c_cmp_isNaN_int) Go.Proofs.Try.f134 int) (loopsOf (Go.Proofs.Try.f134.body.getD .skip)) :=
  LoopsOk.of (l := []) (by kernel_rfl) .nil
theorem There134 : There Go.Proofs.Try.prog 134 := ⟨_, Go.Proofs.Try.func134, by kernel_rfl, by kernel_rfl⟩
theorem C134 {c_cmp_isNaN_int : (Int × Unit → Option Bool)} (h_c_cmp_isNaN_int : Contract Go.Proofs.Try.prog 143 ⟨[int], .bool, c_cmp_isNaN_int⟩) {f : (Int × Int × Unit → Option Int)} (h : ∀ a0 a1 r, f (a0, a1, ()) = some r → ∃ N, r_cmp_Compare_int c_cmp_isNaN_int N a0 a1 = some r) : Contract Go.Proofs.Try.prog 134 ⟨[int, int], int, f⟩ := by
  refine contract (E := E134 c_cmp_isNaN_int) (envOf table ⟨⟨h_c_cmp_isNaN_int, There143⟩, trivial⟩ trivial) mixed Go.Proofs.Try.func134 (c := Go.Proofs.Try.f134.body.getD .skip) (by kernel_rfl) (Nat.le_of_ble_eq_true (by kernel_rfl)) fun xs r hr => ?_
  obtain ⟨a0, a1, _⟩ := xs
  obtain ⟨N, hN⟩ := h _ _ r hr
  exact ⟨N, A134 c_cmp_isNaN_int N, L134 c_cmp_isNaN_int N, (K134 c_cmp_isNaN_int N a0 a1).trans hN⟩
theorem X134 : Contract Go.Proofs.Try.prog 134 ⟨[int, int], int, e_cmp_Compare_int⟩ := C134 X143 fun _ _ _ h => ⟨N0, h⟩
-- cmp_Or_int
def E133 : Env := ⟨tys, [], [], []⟩
def A133 (N : Nat) : List (Nat × Loop (Ty.den int)) := [(0, ⟨[(3, .ro none (.num .i64)), (6, .ro none (.slice (.num .i64))), (7, .ro none (.num .i64)), (8, .ro none (.num .i64))], r_cmp_Or_int_L0 N⟩)]
theorem K133 (N : Nat) (a0 : (List Int)) : fnK N (E133) Go.Proofs.Try.f133 [(.slice int)] int (A133 N) (a0, ()) = r_cmp_Or_int N a0 := by kernel_rfl
theorem L133 (N : Nat) : LoopsOk N (E133) (A133 N) Go.Proofs.Try.f133.ntmps (retOf (E133) Go.Proofs.Try.f133 int) (loopsOf (Go.Proofs.Try.f133.body.getD .skip)) :=
  LoopsOk.of (l := [(0, lb Go.Proofs.Try.f133 0)]) (by kernel_rfl) (.cons (L := ⟨[(3, .ro none (.num .i64)), (6, .ro none (.slice (.num .i64))), (7, .ro none (.num .i64)), (8, .ro none (.num .i64))], r_cmp_Or_int_L0 N⟩) (by kernel_rfl) (by intro s kc ke env; kernel_rfl) .nil)
theorem There133 : There Go.Proofs.Try.prog 133 := ⟨_, Go.Proofs.Try.func133, by kernel_rfl, by kernel_rfl⟩
theorem C133 {f : ((List Int) × Unit → Option Int)} (h : ∀ a0 r, f (a0, ()) = some r → ∃ N, r_cmp_Or_int N a0 = some r) : Contract Go.Proofs.Try.prog 133 ⟨[(.slice int)], int, f⟩ := by
  refine contract (E := E133) (envOf table trivial trivial) mixed Go.Proofs.Try.func133 (c := Go.Proofs.Try.f133.body.getD .skip) (by kernel_rfl) (Nat.le_of_ble_eq_true (by kernel_rfl)) fun xs r hr => ?_
  obtain ⟨a0, _⟩ := xs
  obtain ⟨N, hN⟩ := h _ r hr
  exact ⟨N, A133 N, L133 N, (K133 N a0).trans hN⟩
theorem X133 : Contract Go.Proofs.Try.prog 133 ⟨[(.slice int)], int, e_cmp_Or_int⟩ := C133 fun _ _ h => ⟨N0, h⟩
-- impl_byEnds
def E110 (c_cmp_Compare_int : (Int × Int × Unit → Option Int)) (c_cmp_Or_int : ((List Int) × Unit → Option Int)) : Env := ⟨tys, [], [(134, ⟨[int, int], int, c_cmp_Compare_int⟩), (133, ⟨[(.slice int)], int, c_cmp_Or_int⟩)], []⟩
def A110 (_c_cmp_Compare_int : (Int × Int × Unit → Option Int)) (_c_cmp_Or_int : ((List Int) × Unit → Option Int)) (_N : Nat) : List (Nat × Loop (Ty.den int)) := []
theorem K110 (c_cmp_Compare_int : (Int × Int × Unit → Option Int)) (c_cmp_Or_int : ((List Int) × Unit → Option Int)) (N : Nat) (a0 : (Int × Int × Int)) (a1 : (Int × Int × Int)) : fnK N (E110 c_cmp_Compare_int c_cmp_Or_int) Go.Proofs.Try.f110 [wire, wire] int (A110 c_cmp_Compare_int c_cmp_Or_int N) (a0, a1, ()) = r_impl_byEnds c_cmp_Compare_int c_cmp_Or_int N a0 a1 := by kernel_rfl
theorem L110 (c_cmp_Compare_int : (Int × Int × Unit → Option Int)) (c_cmp_Or_int : ((List Int) × Unit → Option Int)) (N : Nat) : LoopsOk N (E110 c_cmp_Compare_int c_cmp_Or_int) (A110 c_cmp_Compare_int c_cmp_Or_int N) Go.Proofs.Try.f110.ntmps (retOf (E110 c_cmp_Compare_int c_cmp_Or_int) Go.Proofs.Try.f110 int) (loopsOf (Go.Proofs.Try.f110.body.getD .skip)) :=
  LoopsOk.of (l := []) (by kernel_rfl) .nil
theorem There110 : There Go.Proofs.Try.prog 110 := ⟨_, Go.Proofs.Try.func110, by kernel_rfl, by kernel_rfl⟩
theorem C110 {c_cmp_Compare_int : (Int × Int × Unit → Option Int)} {c_cmp_Or_int : ((List Int) × Unit → Option Int)} (h_c_cmp_Compare_int : Contract Go.Proofs.Try.prog 134 ⟨[int, int], int, c_cmp_Compare_int⟩) (h_c_cmp_Or_int : Contract Go.Proofs.Try.prog 133 ⟨[(.slice int)], int, c_cmp_Or_int⟩) {f : ((Int × Int × Int) × (Int × Int × Int) × Unit → Option Int)} (h : ∀ a0 a1 r, f (a0, a1, ()) = some r → ∃ N, r_impl_byEnds c_cmp_Compare_int c_cmp_Or_int N a0 a1 = some r) : Contract Go.Proofs.Try.prog 110 ⟨[wire, wire], int, f⟩ := by
  refine contract (E := E110 c_cmp_Compare_int c_cmp_Or_int) (envOf table ⟨⟨h_c_cmp_Compare_int, There134⟩, ⟨⟨h_c_cmp_Or_int, There133⟩, trivial⟩⟩ trivial) mixed Go.Proofs.Try.func110 (c := Go.Proofs.Try.f110.body.getD .skip) (by kernel_rfl) (Nat.le_of_ble_eq_true (by kernel_rfl)) fun xs r hr => ?_
  obtain ⟨a0, a1, _⟩ := xs
  obtain ⟨N, hN⟩ := h _ _ r hr
  exact ⟨N, A110 c_cmp_Compare_int c_cmp_Or_int N, L110 c_cmp_Compare_int c_cmp_Or_int N, (K110 c_cmp_Compare_int c_cmp_Or_int N a0 a1).trans hN⟩
theorem X110 : Contract Go.Proofs.Try.prog 110 ⟨[wire, wire], int, e_impl_byEnds⟩ := C110 X134 X133 fun _ _ _ h => ⟨N0, h⟩
-- impl_NetOk
def E70 (c_slices_Contains_bool : ((List Bool) × Bool × Unit → Option Bool)) (c_impl_byEnds : ((Int × Int × Int) × (Int × Int × Int) × Unit → Option Int)) : Env := ⟨tys, [], [(111, ⟨[(.slice .bool), .bool], .bool, c_slices_Contains_bool⟩), (110, ⟨[wire, wire], int, c_impl_byEnds⟩)], []⟩
def A70 (c_slices_Contains_bool : ((List Bool) × Bool × Unit → Option Bool)) (c_impl_byEnds : ((Int × Int × Int) × (Int × Int × Int) × Unit → Option Int)) (N : Nat) : List (Nat × Loop (Ty.den .bool)) := [(0, ⟨[(1, .box false (.pair (.num .i64) (.pair (.num .i64) (.pair (.num .i64) (.slice (.pair (.num .i64) (.pair (.num .i64) (.num .i64)))))))), (39, .ro none (.slice (.pair (.num .i64) (.pair (.num .i64) (.num .i64))))), (40, .ro none (.num .i64)), (41, .ro none (.num .i64))], r_impl_NetOk_L0 c_slices_Contains_bool c_impl_byEnds N⟩), (2, ⟨[(1, .box false (.pair (.num .i64) (.pair (.num .i64) (.pair (.num .i64) (.slice (.pair (.num .i64) (.pair (.num .i64) (.num .i64)))))))), (5, .own (.slice .bool)), (95, .ro none (.num .i64)), (96, .ro none (.num .i64))], r_impl_NetOk_L2 c_slices_Contains_bool c_impl_byEnds N⟩), (4, ⟨[(1, .box false (.pair (.num .i64) (.pair (.num .i64) (.pair (.num .i64) (.slice (.pair (.num .i64) (.pair (.num .i64) (.num .i64)))))))), (5, .own (.slice .bool)), (95, .ro none (.num .i64)), (96, .ro none (.num .i64)), (99, .ro none (.slice (.pair (.num .i64) (.pair (.num .i64) (.num .i64))))), (100, .ro none (.num .i64)), (101, .ro none (.num .i64))], r_impl_NetOk_L4 c_slices_Contains_bool c_impl_byEnds N⟩)]
theorem K70 (c_slices_Contains_bool : ((List Bool) × Bool × Unit → Option Bool)) (c_impl_byEnds : ((Int × Int × Int) × (Int × Int × Int) × Unit → Option Int)) (N : Nat) (a0 : (Int × Int × Int × List (Int × Int × Int))) : fnK N (E70 c_slices_Contains_bool c_impl_byEnds) Go.Proofs.Try.f70 [net] .bool (A70 c_slices_Contains_bool c_impl_byEnds N) (a0, ()) = r_impl_NetOk c_slices_Contains_bool c_impl_byEnds N a0 := by kernel_rfl
theorem L70 (c_slices_Contains_bool : ((List Bool) × Bool × Unit → Option Bool)) (c_impl_byEnds : ((Int × Int × Int) × (Int × Int × Int) × Unit → Option Int)) (N : Nat) : LoopsOk N (E70 c_slices_Contains_bool c_impl_byEnds) (A70 c_slices_Contains_bool c_impl_byEnds N) Go.Proofs.Try.f70.ntmps (retOf (E70 c_slices_Contains_bool c_impl_byEnds) Go.Proofs.Try.f70 .bool) (loopsOf (Go.Proofs.Try.f70.body.getD .skip)) :=
  LoopsOk.of (l := [(0, lb Go.Proofs.Try.f70 0), (2, lb Go.Proofs.Try.f70 1), (4, lb Go.Proofs.Try.f70 2)]) (by kernel_rfl) (.cons (L := ⟨[(1, .box false (.pair (.num .i64) (.pair (.num .i64) (.pair (.num .i64) (.slice (.pair (.num .i64) (.pair (.num .i64) (.num .i64)))))))), (39, .ro none (.slice (.pair (.num .i64) (.pair (.num .i64) (.num .i64))))), (40, .ro none (.num .i64)), (41, .ro none (.num .i64))], r_impl_NetOk_L0 c_slices_Contains_bool c_impl_byEnds N⟩) (by kernel_rfl) (by intro s kc ke env; kernel_rfl) (.cons (L := ⟨[(1, .box false (.pair (.num .i64) (.pair (.num .i64) (.pair (.num .i64) (.slice (.pair (.num .i64) (.pair (.num .i64) (.num .i64)))))))), (5, .own (.slice .bool)), (95, .ro none (.num .i64)), (96, .ro none (.num .i64))], r_impl_NetOk_L2 c_slices_Contains_bool c_impl_byEnds N⟩) (by kernel_rfl) (by intro s kc ke env; kernel_rfl) (.cons (L := ⟨[(1, .box false (.pair (.num .i64) (.pair (.num .i64) (.pair (.num .i64) (.slice (.pair (.num .i64) (.pair (.num .i64) (.num .i64)))))))), (5, .own (.slice .bool)), (95, .ro none (.num .i64)), (96, .ro none (.num .i64)), (99, .ro none (.slice (.pair (.num .i64) (.pair (.num .i64) (.num .i64))))), (100, .ro none (.num .i64)), (101, .ro none (.num .i64))], r_impl_NetOk_L4 c_slices_Contains_bool c_impl_byEnds N⟩) (by kernel_rfl) (by intro s kc ke env; kernel_rfl) .nil)))
theorem There70 : There Go.Proofs.Try.prog 70 := ⟨_, Go.Proofs.Try.func70, by kernel_rfl, by kernel_rfl⟩
theorem C70 {c_slices_Contains_bool : ((List Bool) × Bool × Unit → Option Bool)} {c_impl_byEnds : ((Int × Int × Int) × (Int × Int × Int) × Unit → Option Int)} (h_c_slices_Contains_bool : Contract Go.Proofs.Try.prog 111 ⟨[(.slice .bool), .bool], .bool, c_slices_Contains_bool⟩) (h_c_impl_byEnds : Contract Go.Proofs.Try.prog 110 ⟨[wire, wire], int, c_impl_byEnds⟩) {f : ((Int × Int × Int × List (Int × Int × Int)) × Unit → Option Bool)} (h : ∀ a0 r, f (a0, ()) = some r → ∃ N, r_impl_NetOk c_slices_Contains_bool c_impl_byEnds N a0 = some r) : Contract Go.Proofs.Try.prog 70 ⟨[net], .bool, f⟩ := by
  refine contract (E := E70 c_slices_Contains_bool c_impl_byEnds) (envOf table ⟨⟨h_c_slices_Contains_bool, There111⟩, ⟨⟨h_c_impl_byEnds, There110⟩, trivial⟩⟩ trivial) mixed Go.Proofs.Try.func70 (c := Go.Proofs.Try.f70.body.getD .skip) (by kernel_rfl) (Nat.le_of_ble_eq_true (by kernel_rfl)) fun xs r hr => ?_
  obtain ⟨a0, _⟩ := xs
  obtain ⟨N, hN⟩ := h _ r hr
  exact ⟨N, A70 c_slices_Contains_bool c_impl_byEnds N, L70 c_slices_Contains_bool c_impl_byEnds N, (K70 c_slices_Contains_bool c_impl_byEnds N a0).trans hN⟩
theorem X70 : Contract Go.Proofs.Try.prog 70 ⟨[net], .bool, e_impl_NetOk⟩ := C70 X111 X110 fun _ _ h => ⟨N0, h⟩
-- impl_BoundsOk
def E27 (c_impl_NetOk : ((Int × Int × Int × List (Int × Int × Int)) × Unit → Option Bool)) : Env := ⟨tys, [], [(70, ⟨[net], .bool, c_impl_NetOk⟩)], []⟩
def A27 (c_impl_NetOk : ((Int × Int × Int × List (Int × Int × Int)) × Unit → Option Bool)) (N : Nat) : List (Nat × Loop (Ty.den .bool)) := [(0, ⟨[(1, .ro none (.slice (.num .i64))), (2, .ro none (.slice (.num .i64))), (29, .ro none (.slice (.pair (.num .i64) (.pair (.num .i64) (.num .i64))))), (30, .ro none (.num .i64)), (31, .ro none (.num .i64))], r_impl_BoundsOk_L0 c_impl_NetOk N⟩)]
theorem K27 (c_impl_NetOk : ((Int × Int × Int × List (Int × Int × Int)) × Unit → Option Bool)) (N : Nat) (a0 : (Int × Int × Int × List (Int × Int × Int))) (a1 : (List Int)) (a2 : (List Int)) : fnK N (E27 c_impl_NetOk) Go.Proofs.Try.f27 [net, (.slice int), (.slice int)] .bool (A27 c_impl_NetOk N) (a0, a1, a2, ()) = r_impl_BoundsOk c_impl_NetOk N a0 a1 a2 := by kernel_rfl
theorem L27 (c_impl_NetOk : ((Int × Int × Int × List (Int × Int × Int)) × Unit → Option Bool)) (N : Nat) : LoopsOk N (E27 c_impl_NetOk) (A27 c_impl_NetOk N) Go.Proofs.Try.f27.ntmps (retOf (E27 c_impl_NetOk) Go.Proofs.Try.f27 .bool) (loopsOf (Go.Proofs.Try.f27.body.getD .skip)) :=
  LoopsOk.of (l := [(0, lb Go.Proofs.Try.f27 0)]) (by kernel_rfl) (.cons (L := ⟨[(1, .ro none (.slice (.num .i64))), (2, .ro none (.slice (.num .i64))), (29, .ro none (.slice (.pair (.num .i64) (.pair (.num .i64) (.num .i64))))), (30, .ro none (.num .i64)), (31, .ro none (.num .i64))], r_impl_BoundsOk_L0 c_impl_NetOk N⟩) (by kernel_rfl) (by intro s kc ke env; kernel_rfl) .nil)
theorem There27 : There Go.Proofs.Try.prog 27 := ⟨_, Go.Proofs.Try.func27, by kernel_rfl, by kernel_rfl⟩
theorem C27 {c_impl_NetOk : ((Int × Int × Int × List (Int × Int × Int)) × Unit → Option Bool)} (h_c_impl_NetOk : Contract Go.Proofs.Try.prog 70 ⟨[net], .bool, c_impl_NetOk⟩) {f : ((Int × Int × Int × List (Int × Int × Int)) × (List Int) × (List Int) × Unit → Option Bool)} (h : ∀ a0 a1 a2 r, f (a0, a1, a2, ()) = some r → ∃ N, r_impl_BoundsOk c_impl_NetOk N a0 a1 a2 = some r) : Contract Go.Proofs.Try.prog 27 ⟨[net, (.slice int), (.slice int)], .bool, f⟩ := by
  refine contract (E := E27 c_impl_NetOk) (envOf table ⟨⟨h_c_impl_NetOk, There70⟩, trivial⟩ trivial) mixed Go.Proofs.Try.func27 (c := Go.Proofs.Try.f27.body.getD .skip) (by kernel_rfl) (Nat.le_of_ble_eq_true (by kernel_rfl)) fun xs r hr => ?_
  obtain ⟨a0, a1, a2, _⟩ := xs
  obtain ⟨N, hN⟩ := h _ _ _ r hr
  exact ⟨N, A27 c_impl_NetOk N, L27 c_impl_NetOk N, (K27 c_impl_NetOk N a0 a1 a2).trans hN⟩
theorem X27 : Contract Go.Proofs.Try.prog 27 ⟨[net, (.slice int), (.slice int)], .bool, e_impl_BoundsOk⟩ := C27 X70 fun _ _ _ _ h => ⟨N0, h⟩
-- laws_eqWire
def E112 : Env := ⟨tys, [], [], []⟩
def A112 (_N : Nat) : List (Nat × Loop (Ty.den .bool)) := []
theorem K112 (N : Nat) (a0 : (Int × Int × Int)) (a1 : (Int × Int × Int)) : fnK N (E112) Go.Proofs.Try.f112 [wire, wire] .bool (A112 N) (a0, a1, ()) = r_laws_eqWire N a0 a1 := by kernel_rfl
theorem L112 (N : Nat) : LoopsOk N (E112) (A112 N) Go.Proofs.Try.f112.ntmps (retOf (E112) Go.Proofs.Try.f112 .bool) (loopsOf (Go.Proofs.Try.f112.body.getD .skip)) :=
  LoopsOk.of (l := []) (by kernel_rfl) .nil
theorem There112 : There Go.Proofs.Try.prog 112 := ⟨_, Go.Proofs.Try.func112, by kernel_rfl, by kernel_rfl⟩
theorem C112 {f : ((Int × Int × Int) × (Int × Int × Int) × Unit → Option Bool)} (h : ∀ a0 a1 r, f (a0, a1, ()) = some r → ∃ N, r_laws_eqWire N a0 a1 = some r) : Contract Go.Proofs.Try.prog 112 ⟨[wire, wire], .bool, f⟩ := by
  refine contract (E := E112) (envOf table trivial trivial) mixed Go.Proofs.Try.func112 (c := Go.Proofs.Try.f112.body.getD .skip) (by kernel_rfl) (Nat.le_of_ble_eq_true (by kernel_rfl)) fun xs r hr => ?_
  obtain ⟨a0, a1, _⟩ := xs
  obtain ⟨N, hN⟩ := h _ _ r hr
  exact ⟨N, A112 N, L112 N, (K112 N a0 a1).trans hN⟩
theorem X112 : Contract Go.Proofs.Try.prog 112 ⟨[wire, wire], .bool, e_laws_eqWire⟩ := C112 fun _ _ _ h => ⟨N0, h⟩
-- laws_eqWireS
def E71 (c_laws_eqWire : ((Int × Int × Int) × (Int × Int × Int) × Unit → Option Bool)) : Env := ⟨tys, [], [(112, ⟨[wire, wire], .bool, c_laws_eqWire⟩)], []⟩
def A71 (c_laws_eqWire : ((Int × Int × Int) × (Int × Int × Int) × Unit → Option Bool)) (N : Nat) : List (Nat × Loop (Ty.den .bool)) := [(0, ⟨[(0, .ro none (.slice (.pair (.num .i64) (.pair (.num .i64) (.num .i64))))), (1, .ro none (.slice (.pair (.num .i64) (.pair (.num .i64) (.num .i64))))), (5, .ro none (.num .i64))], r_laws_eqWireS_L0 c_laws_eqWire N⟩)]
theorem K71 (c_laws_eqWire : ((Int × Int × Int) × (Int × Int × Int) × Unit → Option Bool)) (N : Nat) (a0 : (List (Int × Int × Int))) (a1 : (List (Int × Int × Int))) : fnK N (E71 c_laws_eqWire) Go.Proofs.Try.f71 [(.slice wire), (.slice wire)] .bool (A71 c_laws_eqWire N) (a0, a1, ()) = r_laws_eqWireS c_laws_eqWire N a0 a1 := by kernel_rfl
theorem L71 (c_laws_eqWire : ((Int × Int × Int) × (Int × Int × Int) × Unit → Option Bool)) (N : Nat) : LoopsOk N (E71 c_laws_eqWire) (A71 c_laws_eqWire N) Go.Proofs.Try.f71.ntmps (retOf (E71 c_laws_eqWire) Go.Proofs.Try.f71 .bool) (loopsOf (Go.Proofs.Try.f71.body.getD .skip)) :=
  LoopsOk.of (l := [(0, lb Go.Proofs.Try.f71 0)]) (by kernel_rfl) (.cons (L := ⟨[(0, .ro none (.slice (.pair (.num .i64) (.pair (.num .i64) (.num .i64))))), (1, .ro none (.slice (.pair (.num .i64) (.pair (.num .i64) (.num .i64))))), (5, .ro none (.num .i64))], r_laws_eqWireS_L0 c_laws_eqWire N⟩) (by kernel_rfl) (by intro s kc ke env; kernel_rfl) .nil)
theorem There71 : There Go.Proofs.Try.prog 71 := ⟨_, Go.Proofs.Try.func71, by kernel_rfl, by kernel_rfl⟩
theorem C71 {c_laws_eqWire : ((Int × Int × Int) × (Int × Int × Int) × Unit → Option Bool)} (h_c_laws_eqWire : Contract Go.Proofs.Try.prog 112 ⟨[wire, wire], .bool, c_laws_eqWire⟩) {f : ((List (Int × Int × Int)) × (List (Int × Int × Int)) × Unit → Option Bool)} (h : ∀ a0 a1 r, f (a0, a1, ()) = some r → ∃ N, r_laws_eqWireS c_laws_eqWire N a0 a1 = some r) : Contract Go.Proofs.Try.prog 71 ⟨[(.slice wire), (.slice wire)], .bool, f⟩ := by
  refine contract (E := E71 c_laws_eqWire) (envOf table ⟨⟨h_c_laws_eqWire, There112⟩, trivial⟩ trivial) mixed Go.Proofs.Try.func71 (c := Go.Proofs.Try.f71.body.getD .skip) (by kernel_rfl) (Nat.le_of_ble_eq_true (by kernel_rfl)) fun xs r hr => ?_
  obtain ⟨a0, a1, _⟩ := xs
  obtain ⟨N, hN⟩ := h _ _ r hr
  exact ⟨N, A71 c_laws_eqWire N, L71 c_laws_eqWire N, (K71 c_laws_eqWire N a0 a1).trans hN⟩
theorem X71 : Contract Go.Proofs.Try.prog 71 ⟨[(.slice wire), (.slice wire)], .bool, e_laws_eqWireS⟩ := C71 X112 fun _ _ _ h => ⟨N0, h⟩
-- laws_eqNet
def E28 (c_laws_eqWireS : ((List (Int × Int × Int)) × (List (Int × Int × Int)) × Unit → Option Bool)) : Env := ⟨tys, [], [(71, ⟨[(.slice wire), (.slice wire)], .bool, c_laws_eqWireS⟩)], []⟩
def A28 (_c_laws_eqWireS : ((List (Int × Int × Int)) × (List (Int × Int × Int)) × Unit → Option Bool)) (_N : Nat) : List (Nat × Loop (Ty.den .bool)) := []
theorem K28 (c_laws_eqWireS : ((List (Int × Int × Int)) × (List (Int × Int × Int)) × Unit → Option Bool)) (N : Nat) (a0 : (Int × Int × Int × List (Int × Int × Int))) (a1 : (Int × Int × Int × List (Int × Int × Int))) : fnK N (E28 c_laws_eqWireS) Go.Proofs.Try.f28 [net, net] .bool (A28 c_laws_eqWireS N) (a0, a1, ()) = r_laws_eqNet c_laws_eqWireS N a0 a1 := by kernel_rfl
theorem L28 (c_laws_eqWireS : ((List (Int × Int × Int)) × (List (Int × Int × Int)) × Unit → Option Bool)) (N : Nat) : LoopsOk N (E28 c_laws_eqWireS) (A28 c_laws_eqWireS N) Go.Proofs.Try.f28.ntmps (retOf (E28 c_laws_eqWireS) Go.Proofs.Try.f28 .bool) (loopsOf (Go.Proofs.Try.f28.body.getD .skip)) :=
  LoopsOk.of (l := []) (by kernel_rfl) .nil
theorem There28 : There Go.Proofs.Try.prog 28 := ⟨_, Go.Proofs.Try.func28, by kernel_rfl, by kernel_rfl⟩
theorem C28 {c_laws_eqWireS : ((List (Int × Int × Int)) × (List (Int × Int × Int)) × Unit → Option Bool)} (h_c_laws_eqWireS : Contract Go.Proofs.Try.prog 71 ⟨[(.slice wire), (.slice wire)], .bool, c_laws_eqWireS⟩) {f : ((Int × Int × Int × List (Int × Int × Int)) × (Int × Int × Int × List (Int × Int × Int)) × Unit → Option Bool)} (h : ∀ a0 a1 r, f (a0, a1, ()) = some r → ∃ N, r_laws_eqNet c_laws_eqWireS N a0 a1 = some r) : Contract Go.Proofs.Try.prog 28 ⟨[net, net], .bool, f⟩ := by
  refine contract (E := E28 c_laws_eqWireS) (envOf table ⟨⟨h_c_laws_eqWireS, There71⟩, trivial⟩ trivial) mixed Go.Proofs.Try.func28 (c := Go.Proofs.Try.f28.body.getD .skip) (by kernel_rfl) (Nat.le_of_ble_eq_true (by kernel_rfl)) fun xs r hr => ?_
  obtain ⟨a0, a1, _⟩ := xs
  obtain ⟨N, hN⟩ := h _ _ r hr
  exact ⟨N, A28 c_laws_eqWireS N, L28 c_laws_eqWireS N, (K28 c_laws_eqWireS N a0 a1).trans hN⟩
theorem X28 : Contract Go.Proofs.Try.prog 28 ⟨[net, net], .bool, e_laws_eqNet⟩ := C28 X71 fun _ _ _ h => ⟨N0, h⟩
-- laws_FnExactBoundsOk
def E5 (c_laws_szNet : ((Int × Int × Int × List (Int × Int × Int)) × Int × Unit → Option Int)) (c_laws_toNet : ((Int × Int × Int × List (Int × Int × Int)) × Unit → Option (Int × Int × Int × List (Int × Int × Int)))) (c_laws_toIntS : ((List Int) × Unit → Option (List Int))) (c_spec_BoundsOk : ((Int × Int × Int × List (Int × Int × Int)) × (List Int) × (List Int) × Unit → Option Bool)) (c_impl_BoundsOk : ((Int × Int × Int × List (Int × Int × Int)) × (List Int) × (List Int) × Unit → Option Bool)) (c_laws_eqNet : ((Int × Int × Int × List (Int × Int × Int)) × (Int × Int × Int × List (Int × Int × Int)) × Unit → Option Bool)) (c_laws_eqIntS : ((List Int) × (List Int) × Unit → Option Bool)) : Env := ⟨tys, [], [(24, ⟨[net, int], int, c_laws_szNet⟩), (26, ⟨[net], net, c_laws_toNet⟩), (16, ⟨[(.slice int)], (.slice int), c_laws_toIntS⟩), (25, ⟨[net, (.slice int), (.slice int)], .bool, c_spec_BoundsOk⟩), (27, ⟨[net, (.slice int), (.slice int)], .bool, c_impl_BoundsOk⟩), (28, ⟨[net, net], .bool, c_laws_eqNet⟩), (18, ⟨[(.slice int), (.slice int)], .bool, c_laws_eqIntS⟩)], []⟩
def A5 (_c_laws_szNet : ((Int × Int × Int × List (Int × Int × Int)) × Int × Unit → Option Int)) (_c_laws_toNet : ((Int × Int × Int × List (Int × Int × Int)) × Unit → Option (Int × Int × Int × List (Int × Int × Int)))) (_c_laws_toIntS : ((List Int) × Unit → Option (List Int))) (_c_spec_BoundsOk : ((Int × Int × Int × List (Int × Int × Int)) × (List Int) × (List Int) × Unit → Option Bool)) (_c_impl_BoundsOk : ((Int × Int × Int × List (Int × Int × Int)) × (List Int) × (List Int) × Unit → Option Bool)) (_c_laws_eqNet : ((Int × Int × Int × List (Int × Int × Int)) × (Int × Int × Int × List (Int × Int × Int)) × Unit → Option Bool)) (_c_laws_eqIntS : ((List Int) × (List Int) × Unit → Option Bool)) (_N : Nat) : List (Nat × Loop (Ty.den .bool)) := []
theorem K5 (c_laws_szNet : ((Int × Int × Int × List (Int × Int × Int)) × Int × Unit → Option Int)) (c_laws_toNet : ((Int × Int × Int × List (Int × Int × Int)) × Unit → Option (Int × Int × Int × List (Int × Int × Int)))) (c_laws_toIntS : ((List Int) × Unit → Option (List Int))) (c_spec_BoundsOk : ((Int × Int × Int × List (Int × Int × Int)) × (List Int) × (List Int) × Unit → Option Bool)) (c_impl_BoundsOk : ((Int × Int × Int × List (Int × Int × Int)) × (List Int) × (List Int) × Unit → Option Bool)) (c_laws_eqNet : ((Int × Int × Int × List (Int × Int × Int)) × (Int × Int × Int × List (Int × Int × Int)) × Unit → Option Bool)) (c_laws_eqIntS : ((List Int) × (List Int) × Unit → Option Bool)) (N : Nat) (a0 : (Int × Int × Int × List (Int × Int × Int))) (a1 : (List Int)) (a2 : (List Int)) : fnK N (E5 c_laws_szNet c_laws_toNet c_laws_toIntS c_spec_BoundsOk c_impl_BoundsOk c_laws_eqNet c_laws_eqIntS) Go.Proofs.Try.f5 [net, (.slice int), (.slice int)] .bool (A5 c_laws_szNet c_laws_toNet c_laws_toIntS c_spec_BoundsOk c_impl_BoundsOk c_laws_eqNet c_laws_eqIntS N) (a0, a1, a2, ()) = r_laws_FnExactBoundsOk c_laws_szNet c_laws_toNet c_laws_toIntS c_spec_BoundsOk c_impl_BoundsOk c_laws_eqNet c_laws_eqIntS N a0 a1 a2 := by kernel_rfl
theorem L5 (c_laws_szNet : ((Int × Int × Int × List (Int × Int × Int)) × Int × Unit → Option Int)) (c_laws_toNet : ((Int × Int × Int × List (Int × Int × Int)) × Unit → Option (Int × Int × Int × List (Int × Int × Int)))) (c_laws_toIntS : ((List Int) × Unit → Option (List Int))) (c_spec_BoundsOk : ((Int × Int × Int × List (Int × Int × Int)) × (List Int) × (List Int) × Unit → Option Bool)) (c_impl_BoundsOk : ((Int × Int × Int × List (Int × Int × Int)) × (List Int) × (List Int) × Unit → Option Bool)) (c_laws_eqNet : ((Int × Int × Int × List (Int × Int × Int)) × (Int × Int × Int × List (Int × Int × Int)) × Unit → Option Bool)) (c_laws_eqIntS : ((List Int) × (List Int) × Unit → Option Bool)) (N : Nat) : LoopsOk N (E5 c_laws_szNet c_laws_toNet c_laws_toIntS c_spec_BoundsOk c_impl_BoundsOk c_laws_eqNet c_laws_eqIntS) (A5 c_laws_szNet c_laws_toNet c_laws_toIntS c_spec_BoundsOk c_impl_BoundsOk c_laws_eqNet c_laws_eqIntS N) Go.Proofs.Try.f5.ntmps (retOf (E5 c_laws_szNet c_laws_toNet c_laws_toIntS c_spec_BoundsOk c_impl_BoundsOk c_laws_eqNet c_laws_eqIntS) Go.Proofs.Try.f5 .bool) (loopsOf (Go.Proofs.Try.f5.body.getD .skip)) :=
  LoopsOk.of (l := []) (by kernel_rfl) .nil
theorem There5 : There Go.Proofs.Try.prog 5 := ⟨_, Go.Proofs.Try.func5, by kernel_rfl, by kernel_rfl⟩
theorem C5 {c_laws_szNet : ((Int × Int × Int × List (Int × Int × Int)) × Int × Unit → Option Int)} {c_laws_toNet : ((Int × Int × Int × List (Int × Int × Int)) × Unit → Option (Int × Int × Int × List (Int × Int × Int)))} {c_laws_toIntS : ((List Int) × Unit → Option (List Int))} {c_spec_BoundsOk : ((Int × Int × Int × List (Int × Int × Int)) × (List Int) × (List Int) × Unit → Option Bool)} {c_impl_BoundsOk : ((Int × Int × Int × List (Int × Int × Int)) × (List Int) × (List Int) × Unit → Option Bool)} {c_laws_eqNet : ((Int × Int × Int × List (Int × Int × Int)) × (Int × Int × Int × List (Int × Int × Int)) × Unit → Option Bool)} {c_laws_eqIntS : ((List Int) × (List Int) × Unit → Option Bool)} (h_c_laws_szNet : Contract Go.Proofs.Try.prog 24 ⟨[net, int], int, c_laws_szNet⟩) (h_c_laws_toNet : Contract Go.Proofs.Try.prog 26 ⟨[net], net, c_laws_toNet⟩) (h_c_laws_toIntS : Contract Go.Proofs.Try.prog 16 ⟨[(.slice int)], (.slice int), c_laws_toIntS⟩) (h_c_spec_BoundsOk : Contract Go.Proofs.Try.prog 25 ⟨[net, (.slice int), (.slice int)], .bool, c_spec_BoundsOk⟩) (h_c_impl_BoundsOk : Contract Go.Proofs.Try.prog 27 ⟨[net, (.slice int), (.slice int)], .bool, c_impl_BoundsOk⟩) (h_c_laws_eqNet : Contract Go.Proofs.Try.prog 28 ⟨[net, net], .bool, c_laws_eqNet⟩) (h_c_laws_eqIntS : Contract Go.Proofs.Try.prog 18 ⟨[(.slice int), (.slice int)], .bool, c_laws_eqIntS⟩) {f : ((Int × Int × Int × List (Int × Int × Int)) × (List Int) × (List Int) × Unit → Option Bool)} (h : ∀ a0 a1 a2 r, f (a0, a1, a2, ()) = some r → ∃ N, r_laws_FnExactBoundsOk c_laws_szNet c_laws_toNet c_laws_toIntS c_spec_BoundsOk c_impl_BoundsOk c_laws_eqNet c_laws_eqIntS N a0 a1 a2 = some r) : Contract Go.Proofs.Try.prog 5 ⟨[net, (.slice int), (.slice int)], .bool, f⟩ := by
  refine contract (E := E5 c_laws_szNet c_laws_toNet c_laws_toIntS c_spec_BoundsOk c_impl_BoundsOk c_laws_eqNet c_laws_eqIntS) (envOf table ⟨⟨h_c_laws_szNet, There24⟩, ⟨⟨h_c_laws_toNet, There26⟩, ⟨⟨h_c_laws_toIntS, There16⟩, ⟨⟨h_c_spec_BoundsOk, There25⟩, ⟨⟨h_c_impl_BoundsOk, There27⟩, ⟨⟨h_c_laws_eqNet, There28⟩, ⟨⟨h_c_laws_eqIntS, There18⟩, trivial⟩⟩⟩⟩⟩⟩⟩ trivial) mixed Go.Proofs.Try.func5 (c := Go.Proofs.Try.f5.body.getD .skip) (by kernel_rfl) (Nat.le_of_ble_eq_true (by kernel_rfl)) fun xs r hr => ?_
  obtain ⟨a0, a1, a2, _⟩ := xs
  obtain ⟨N, hN⟩ := h _ _ _ r hr
  exact ⟨N, A5 c_laws_szNet c_laws_toNet c_laws_toIntS c_spec_BoundsOk c_impl_BoundsOk c_laws_eqNet c_laws_eqIntS N, L5 c_laws_szNet c_laws_toNet c_laws_toIntS c_spec_BoundsOk c_impl_BoundsOk c_laws_eqNet c_laws_eqIntS N, (K5 c_laws_szNet c_laws_toNet c_laws_toIntS c_spec_BoundsOk c_impl_BoundsOk c_laws_eqNet c_laws_eqIntS N a0 a1 a2).trans hN⟩
theorem X5 : Contract Go.Proofs.Try.prog 5 ⟨[net, (.slice int), (.slice int)], .bool, e_laws_FnExactBoundsOk⟩ := C5 X24 X26 X16 X25 X27 X28 X18 fun _ _ _ _ h => ⟨N0, h⟩
-- spec_l03Find
def E136 : Env := ⟨tys, [], [], []⟩
def A136 (N : Nat) : List (Nat × Loop (Ty.den int)) := [(0, ⟨[(1, .ro none (.num .i64)), (2, .ro none (.num .i64)), (9, .ro none (.slice (.pair (.num .i64) (.pair (.num .i64) (.num .i64))))), (10, .ro none (.num .i64)), (11, .ro none (.num .i64))], r_spec_l03Find_L0 N⟩)]
theorem K136 (N : Nat) (a0 : (List (Int × Int × Int))) (a1 : Int) (a2 : Int) : fnK N (E136) Go.Proofs.Try.f136 [(.slice wire), int, int] int (A136 N) (a0, a1, a2, ()) = r_spec_l03Find N a0 a1 a2 := by kernel_rfl
theorem L136 (N : Nat) : LoopsOk N (E136) (A136 N) Go.Proofs.Try.f136.ntmps (retOf (E136) Go.Proofs.Try.f136 int) (loopsOf (Go.Proofs.Try.f136.body.getD .skip)) :=
  LoopsOk.of (l := [(0, lb Go.Proofs.Try.f136 0)]) (by kernel_rfl) (.cons (L := ⟨[(1, .ro none (.num .i64)), (2, .ro none (.num .i64)), (9, .ro none (.slice (.pair (.num .i64) (.pair (.num .i64) (.num .i64))))), (10, .ro none (.num .i64)), (11, .ro none (.num .i64))], r_spec_l03Find_L0 N⟩) (by kernel_rfl) (by intro s kc ke env; kernel_rfl) .nil)
theorem There136 : There Go.Proofs.Try.prog 136 := ⟨_, Go.Proofs.Try.func136, by kernel_rfl, by kernel_rfl⟩
theorem C136 {f : ((List (Int × Int × Int)) × Int × Int × Unit → Option Int)} (h : ∀ a0 a1 a2 r, f (a0, a1, a2, ()) = some r → ∃ N, r_spec_l03Find N a0 a1 a2 = some r) : Contract Go.Proofs.Try.prog 136 ⟨[(.slice wire), int, int], int, f⟩ := by
  refine contract (E := E136) (envOf table trivial trivial) mixed Go.Proofs.Try.func136 (c := Go.Proofs.Try.f136.body.getD .skip) (by kernel_rfl) (Nat.le_of_ble_eq_true (by kernel_rfl)) fun xs r hr => ?_
  obtain ⟨a0, a1, a2, _⟩ := xs
  obtain ⟨N, hN⟩ := h _ _ _ r hr
  exact ⟨N, A136 N, L136 N, (K136 N a0 a1 a2).trans hN⟩
theorem X136 : Contract Go.Proofs.Try.prog 136 ⟨[(.slice wire), int, int], int, e_spec_l03Find⟩ := C136 fun _ _ _ _ h => ⟨N0, h⟩
-- spec_WeightBetween
def E114 (c_spec_l03Find : ((List (Int × Int × Int)) × Int × Int × Unit → Option Int)) : Env := ⟨tys, [], [(136, ⟨[(.slice wire), int, int], int, c_spec_l03Find⟩)], []⟩
def A114 (_c_spec_l03Find : ((List (Int × Int × Int)) × Int × Int × Unit → Option Int)) (_N : Nat) : List (Nat × Loop (Ty.den int)) := []
theorem K114 (c_spec_l03Find : ((List (Int × Int × Int)) × Int × Int × Unit → Option Int)) (N : Nat) (a0 : (Int × Int × Int × List (Int × Int × Int))) (a1 : Int) (a2 : Int) : fnK N (E114 c_spec_l03Find) Go.Proofs.Try.f114 [net, int, int] int (A114 c_spec_l03Find N) (a0, a1, a2, ()) = r_spec_WeightBetween c_spec_l03Find N a0 a1 a2 := by kernel_rfl
theorem L114 (c_spec_l03Find : ((List (Int × Int × Int)) × Int × Int × Unit → Option Int)) (N : Nat) : LoopsOk N (E114 c_spec_l03Find) (A114 c_spec_l03Find N) Go.Proofs.Try.f114.ntmps (retOf (E114 c_spec_l03Find) Go.Proofs.Try.f114 int) (loopsOf (Go.Proofs.Try.f114.body.getD .skip)) :=
  LoopsOk.of (l := []) (by kernel_rfl) .nil
theorem There114 : There Go.Proofs.Try.prog 114 := ⟨_, Go.Proofs.Try.func114, by kernel_rfl, by kernel_rfl⟩
theorem C114 {c_spec_l03Find : ((List (Int × Int × Int)) × Int × Int × Unit → Option Int)} (h_c_spec_l03Find : Contract Go.Proofs.Try.prog 136 ⟨[(.slice wire), int, int], int, c_spec_l03Find⟩) {f : ((Int × Int × Int × List (Int × Int × Int)) × Int × Int × Unit → Option Int)} (h : ∀ a0 a1 a2 r, f (a0, a1, a2, ()) = some r → ∃ N, r_spec_WeightBetween c_spec_l03Find N a0 a1 a2 = some r) : Contract Go.Proofs.Try.prog 114 ⟨[net, int, int], int, f⟩ := by
  refine contract (E := E114 c_spec_l03Find) (envOf table ⟨⟨h_c_spec_l03Find, There136⟩, trivial⟩ trivial) mixed Go.Proofs.Try.func114 (c := Go.Proofs.Try.f114.body.getD .skip) (by kernel_rfl) (Nat.le_of_ble_eq_true (by kernel_rfl)) fun xs r hr => ?_
  obtain ⟨a0, a1, a2, _⟩ := xs
  obtain ⟨N, hN⟩ := h _ _ _ r hr
  exact ⟨N, A114 c_spec_l03Find N, L114 c_spec_l03Find N, (K114 c_spec_l03Find N a0 a1 a2).trans hN⟩
theorem X114 : Contract Go.Proofs.Try.prog 114 ⟨[net, int, int], int, e_spec_WeightBetween⟩ := C114 X136 fun _ _ _ _ h => ⟨N0, h⟩
-- spec_l07Near
def E78 (c_spec_WeightBetween : ((Int × Int × Int × List (Int × Int × Int)) × Int × Int × Unit → Option Int)) : Env := ⟨tys, [], [(114, ⟨[net, int, int], int, c_spec_WeightBetween⟩)], []⟩
def A78 (c_spec_WeightBetween : ((Int × Int × Int × List (Int × Int × Int)) × Int × Int × Unit → Option Int)) (N : Nat) : List (Nat × Loop (Ty.den (.slice int))) := [(0, ⟨[(1, .ro none (.num .i64)), (2, .box false (.pair (.num .i64) (.pair (.num .i64) (.pair (.num .i64) (.slice (.pair (.num .i64) (.pair (.num .i64) (.num .i64)))))))), (5, .own (.slice (.num .i64))), (6, .ro none (.num .i64))], r_spec_l07Near_L0 c_spec_WeightBetween N⟩)]
theorem K78 (c_spec_WeightBetween : ((Int × Int × Int × List (Int × Int × Int)) × Int × Int × Unit → Option Int)) (N : Nat) (a0 : (Int × Int × Int × List (Int × Int × Int))) (a1 : Int) : fnK N (E78 c_spec_WeightBetween) Go.Proofs.Try.f78 [net, int] (.slice int) (A78 c_spec_WeightBetween N) (a0, a1, ()) = r_spec_l07Near c_spec_WeightBetween N a0 a1 := by kernel_rfl
theorem L78 (c_spec_WeightBetween : ((Int × Int × Int × List (Int × Int × Int)) × Int × Int × Unit → Option Int)) (N : Nat) : LoopsOk N (E78 c_spec_WeightBetween) (A78 c_spec_WeightBetween N) Go.Proofs.Try.f78.ntmps (retOf (E78 c_spec_WeightBetween) Go.Proofs.Try.f78 (.slice int)) (loopsOf (Go.Proofs.Try.f78.body.getD .skip)) :=
  LoopsOk.of (l := [(0, lb Go.Proofs.Try.f78 0)]) (by kernel_rfl) (.cons (L := ⟨[(1, .ro none (.num .i64)), (2, .box false (.pair (.num .i64) (.pair (.num .i64) (.pair (.num .i64) (.slice (.pair (.num .i64) (.pair (.num .i64) (.num .i64)))))))), (5, .own (.slice (.num .i64))), (6, .ro none (.num .i64))], r_spec_l07Near_L0 c_spec_WeightBetween N⟩) (by kernel_rfl) (by intro s kc ke env; kernel_rfl) .nil)
theorem There78 : There Go.Proofs.Try.prog 78 := ⟨_, Go.Proofs.Try.func78, by kernel_rfl, by kernel_rfl⟩
theorem C78 {c_spec_WeightBetween : ((Int × Int × Int × List (Int × Int × Int)) × Int × Int × Unit → Option Int)} (h_c_spec_WeightBetween : Contract Go.Proofs.Try.prog 114 ⟨[net, int, int], int, c_spec_WeightBetween⟩) {f : ((Int × Int × Int × List (Int × Int × Int)) × Int × Unit → Option (List Int))} (h : ∀ a0 a1 r, f (a0, a1, ()) = some r → ∃ N, r_spec_l07Near c_spec_WeightBetween N a0 a1 = some r) : Contract Go.Proofs.Try.prog 78 ⟨[net, int], (.slice int), f⟩ := by
  refine contract (E := E78 c_spec_WeightBetween) (envOf table ⟨⟨h_c_spec_WeightBetween, There114⟩, trivial⟩ trivial) mixed Go.Proofs.Try.func78 (c := Go.Proofs.Try.f78.body.getD .skip) (by kernel_rfl) (Nat.le_of_ble_eq_true (by kernel_rfl)) fun xs r hr => ?_
  obtain ⟨a0, a1, _⟩ := xs
  obtain ⟨N, hN⟩ := h _ _ r hr
  exact ⟨N, A78 c_spec_WeightBetween N, L78 c_spec_WeightBetween N, (K78 c_spec_WeightBetween N a0 a1).trans hN⟩
theorem X78 : Contract Go.Proofs.Try.prog 78 ⟨[net, int], (.slice int), e_spec_l07Near⟩ := C78 X114 fun _ _ _ h => ⟨N0, h⟩
-- spec_l07First
def E76 (c_spec_NetOk : ((Int × Int × Int × List (Int × Int × Int)) × Unit → Option Bool)) (c_spec_l07Near : ((Int × Int × Int × List (Int × Int × Int)) × Int × Unit → Option (List Int))) : Env := ⟨tys, [], [(68, ⟨[net], .bool, c_spec_NetOk⟩), (78, ⟨[net, int], (.slice int), c_spec_l07Near⟩)], []⟩
def A76 (c_spec_NetOk : ((Int × Int × Int × List (Int × Int × Int)) × Unit → Option Bool)) (c_spec_l07Near : ((Int × Int × Int × List (Int × Int × Int)) × Int × Unit → Option (List Int))) (N : Nat) : List (Nat × Loop (Ty.den int)) := [(0, ⟨[(1, .ro none (.num .i64)), (2, .box false (.pair (.num .i64) (.pair (.num .i64) (.pair (.num .i64) (.slice (.pair (.num .i64) (.pair (.num .i64) (.num .i64)))))))), (5, .ro none (.num .i64))], r_spec_l07First_L0 c_spec_NetOk c_spec_l07Near N⟩)]
theorem K76 (c_spec_NetOk : ((Int × Int × Int × List (Int × Int × Int)) × Unit → Option Bool)) (c_spec_l07Near : ((Int × Int × Int × List (Int × Int × Int)) × Int × Unit → Option (List Int))) (N : Nat) (a0 : (Int × Int × Int × List (Int × Int × Int))) (a1 : Int) : fnK N (E76 c_spec_NetOk c_spec_l07Near) Go.Proofs.Try.f76 [net, int] int (A76 c_spec_NetOk c_spec_l07Near N) (a0, a1, ()) = r_spec_l07First c_spec_NetOk c_spec_l07Near N a0 a1 := by kernel_rfl
theorem L76 (c_spec_NetOk : ((Int × Int × Int × List (Int × Int × Int)) × Unit → Option Bool)) (c_spec_l07Near : ((Int × Int × Int × List (Int × Int × Int)) × Int × Unit → Option (List Int))) (N : Nat) : LoopsOk N (E76 c_spec_NetOk c_spec_l07Near) (A76 c_spec_NetOk c_spec_l07Near N) Go.Proofs.Try.f76.ntmps (retOf (E76 c_spec_NetOk c_spec_l07Near) Go.Proofs.Try.f76 int) (loopsOf (Go.Proofs.Try.f76.body.getD .skip)) :=
  LoopsOk.of (l := [(0, lb Go.Proofs.Try.f76 0)]) (by kernel_rfl) (.cons (L := ⟨[(1, .ro none (.num .i64)), (2, .box false (.pair (.num .i64) (.pair (.num .i64) (.pair (.num .i64) (.slice (.pair (.num .i64) (.pair (.num .i64) (.num .i64)))))))), (5, .ro none (.num .i64))], r_spec_l07First_L0 c_spec_NetOk c_spec_l07Near N⟩) (by kernel_rfl) (by intro s kc ke env; kernel_rfl) .nil)
theorem There76 : There Go.Proofs.Try.prog 76 := ⟨_, Go.Proofs.Try.func76, by kernel_rfl, by kernel_rfl⟩
theorem C76 {c_spec_NetOk : ((Int × Int × Int × List (Int × Int × Int)) × Unit → Option Bool)} {c_spec_l07Near : ((Int × Int × Int × List (Int × Int × Int)) × Int × Unit → Option (List Int))} (h_c_spec_NetOk : Contract Go.Proofs.Try.prog 68 ⟨[net], .bool, c_spec_NetOk⟩) (h_c_spec_l07Near : Contract Go.Proofs.Try.prog 78 ⟨[net, int], (.slice int), c_spec_l07Near⟩) {f : ((Int × Int × Int × List (Int × Int × Int)) × Int × Unit → Option Int)} (h : ∀ a0 a1 r, f (a0, a1, ()) = some r → ∃ N, r_spec_l07First c_spec_NetOk c_spec_l07Near N a0 a1 = some r) : Contract Go.Proofs.Try.prog 76 ⟨[net, int], int, f⟩ := by
  refine contract (E := E76 c_spec_NetOk c_spec_l07Near) (envOf table ⟨⟨h_c_spec_NetOk, There68⟩, ⟨⟨h_c_spec_l07Near, There78⟩, trivial⟩⟩ trivial) mixed Go.Proofs.Try.func76 (c := Go.Proofs.Try.f76.body.getD .skip) (by kernel_rfl) (Nat.le_of_ble_eq_true (by kernel_rfl)) fun xs r hr => ?_
  obtain ⟨a0, a1, _⟩ := xs
  obtain ⟨N, hN⟩ := h _ _ r hr
  exact ⟨N, A76 c_spec_NetOk c_spec_l07Near N, L76 c_spec_NetOk c_spec_l07Near N, (K76 c_spec_NetOk c_spec_l07Near N a0 a1).trans hN⟩
theorem X76 : Contract Go.Proofs.Try.prog 76 ⟨[net, int], int, e_spec_l07First⟩ := C76 X68 X78 fun _ _ _ h => ⟨N0, h⟩
-- spec_LeafOf
def E34 (c_spec_l07First : ((Int × Int × Int × List (Int × Int × Int)) × Int × Unit → Option Int)) : Env := ⟨tys, [], [(76, ⟨[net, int], int, c_spec_l07First⟩)], []⟩
def A34 (_c_spec_l07First : ((Int × Int × Int × List (Int × Int × Int)) × Int × Unit → Option Int)) (_N : Nat) : List (Nat × Loop (Ty.den int)) := []
theorem K34 (c_spec_l07First : ((Int × Int × Int × List (Int × Int × Int)) × Int × Unit → Option Int)) (N : Nat) (a0 : (Int × Int × Int × List (Int × Int × Int))) : fnK N (E34 c_spec_l07First) Go.Proofs.Try.f34 [net] int (A34 c_spec_l07First N) (a0, ()) = r_spec_LeafOf c_spec_l07First N a0 := by kernel_rfl
theorem L34 (c_spec_l07First : ((Int × Int × Int × List (Int × Int × Int)) × Int × Unit → Option Int)) (N : Nat) : LoopsOk N (E34 c_spec_l07First) (A34 c_spec_l07First N) Go.Proofs.Try.f34.ntmps (retOf (E34 c_spec_l07First) Go.Proofs.Try.f34 int) (loopsOf (Go.Proofs.Try.f34.body.getD .skip)) :=
  LoopsOk.of (l := []) (by kernel_rfl) .nil
theorem There34 : There Go.Proofs.Try.prog 34 := ⟨_, Go.Proofs.Try.func34, by kernel_rfl, by kernel_rfl⟩
theorem C34 {c_spec_l07First : ((Int × Int × Int × List (Int × Int × Int)) × Int × Unit → Option Int)} (h_c_spec_l07First : Contract Go.Proofs.Try.prog 76 ⟨[net, int], int, c_spec_l07First⟩) {f : ((Int × Int × Int × List (Int × Int × Int)) × Unit → Option Int)} (h : ∀ a0 r, f (a0, ()) = some r → ∃ N, r_spec_LeafOf c_spec_l07First N a0 = some r) : Contract Go.Proofs.Try.prog 34 ⟨[net], int, f⟩ := by
  refine contract (E := E34 c_spec_l07First) (envOf table ⟨⟨h_c_spec_l07First, There76⟩, trivial⟩ trivial) mixed Go.Proofs.Try.func34 (c := Go.Proofs.Try.f34.body.getD .skip) (by kernel_rfl) (Nat.le_of_ble_eq_true (by kernel_rfl)) fun xs r hr => ?_
  obtain ⟨a0, _⟩ := xs
  obtain ⟨N, hN⟩ := h _ r hr
  exact ⟨N, A34 c_spec_l07First N, L34 c_spec_l07First N, (K34 c_spec_l07First N a0).trans hN⟩
theorem X34 : Contract Go.Proofs.Try.prog 34 ⟨[net], int, e_spec_LeafOf⟩ := C34 X76 fun _ _ h => ⟨N0, h⟩
-- impl_inner
def E113 : Env := ⟨tys, [], [], []⟩
def A113 (N : Nat) : List (Nat × Loop (Ty.den (.slice int))) := [(0, ⟨[(1, .box false (.pair (.num .i64) (.pair (.num .i64) (.pair (.num .i64) (.slice (.pair (.num .i64) (.pair (.num .i64) (.num .i64)))))))), (3, .own (.slice (.num .i64))), (4, .ro none (.num .i64))], r_impl_inner_L0 N⟩)]
theorem K113 (N : Nat) (a0 : (Int × Int × Int × List (Int × Int × Int))) : fnK N (E113) Go.Proofs.Try.f113 [net] (.slice int) (A113 N) (a0, ()) = r_impl_inner N a0 := by kernel_rfl
theorem L113 (N : Nat) : LoopsOk N (E113) (A113 N) Go.Proofs.Try.f113.ntmps (retOf (E113) Go.Proofs.Try.f113 (.slice int)) (loopsOf (Go.Proofs.Try.f113.body.getD .skip)) :=
  LoopsOk.of (l := [(0, lb Go.Proofs.Try.f113 0)]) (by kernel_rfl) (.cons (L := ⟨[(1, .box false (.pair (.num .i64) (.pair (.num .i64) (.pair (.num .i64) (.slice (.pair (.num .i64) (.pair (.num .i64) (.num .i64)))))))), (3, .own (.slice (.num .i64))), (4, .ro none (.num .i64))], r_impl_inner_L0 N⟩) (by kernel_rfl) (by intro s kc ke env; kernel_rfl) .nil)
theorem There113 : There Go.Proofs.Try.prog 113 := ⟨_, Go.Proofs.Try.func113, by kernel_rfl, by kernel_rfl⟩
theorem C113 {f : ((Int × Int × Int × List (Int × Int × Int)) × Unit → Option (List Int))} (h : ∀ a0 r, f (a0, ()) = some r → ∃ N, r_impl_inner N a0 = some r) : Contract Go.Proofs.Try.prog 113 ⟨[net], (.slice int), f⟩ := by
  refine contract (E := E113) (envOf table trivial trivial) mixed Go.Proofs.Try.func113 (c := Go.Proofs.Try.f113.body.getD .skip) (by kernel_rfl) (Nat.le_of_ble_eq_true (by kernel_rfl)) fun xs r hr => ?_
  obtain ⟨a0, _⟩ := xs
  obtain ⟨N, hN⟩ := h _ r hr
  exact ⟨N, A113 N, L113 N, (K113 N a0).trans hN⟩
theorem X113 : Contract Go.Proofs.Try.prog 113 ⟨[net], (.slice int), e_impl_inner⟩ := C113 fun _ _ h => ⟨N0, h⟩
-- impl_isNode
def E79 : Env := ⟨tys, [], [], []⟩
def A79 (_N : Nat) : List (Nat × Loop (Ty.den .bool)) := []
theorem K79 (N : Nat) (a0 : (Int × Int × Int × List (Int × Int × Int))) (a1 : Int) : fnK N (E79) Go.Proofs.Try.f79 [net, int] .bool (A79 N) (a0, a1, ()) = r_impl_isNode N a0 a1 := by kernel_rfl
theorem L79 (N : Nat) : LoopsOk N (E79) (A79 N) Go.Proofs.Try.f79.ntmps (retOf (E79) Go.Proofs.Try.f79 .bool) (loopsOf (Go.Proofs.Try.f79.body.getD .skip)) :=
  LoopsOk.of (l := []) (by kernel_rfl) .nil
theorem There79 : There Go.Proofs.Try.prog 79 := ⟨_, Go.Proofs.Try.func79, by kernel_rfl, by kernel_rfl⟩
theorem C79 {f : ((Int × Int × Int × List (Int × Int × Int)) × Int × Unit → Option Bool)} (h : ∀ a0 a1 r, f (a0, a1, ()) = some r → ∃ N, r_impl_isNode N a0 a1 = some r) : Contract Go.Proofs.Try.prog 79 ⟨[net, int], .bool, f⟩ := by
  refine contract (E := E79) (envOf table trivial trivial) mixed Go.Proofs.Try.func79 (c := Go.Proofs.Try.f79.body.getD .skip) (by kernel_rfl) (Nat.le_of_ble_eq_true (by kernel_rfl)) fun xs r hr => ?_
  obtain ⟨a0, a1, _⟩ := xs
  obtain ⟨N, hN⟩ := h _ _ r hr
  exact ⟨N, A79 N, L79 N, (K79 N a0 a1).trans hN⟩
theorem X79 : Contract Go.Proofs.Try.prog 79 ⟨[net, int], .bool, e_impl_isNode⟩ := C79 fun _ _ _ h => ⟨N0, h⟩
-- impl_WeightBetween
def E80 : Env := ⟨tys, [], [], []⟩
def A80 (N : Nat) : List (Nat × Loop (Ty.den int)) := [(0, ⟨[(1, .ro none (.num .i64)), (2, .ro none (.num .i64)), (10, .ro none (.slice (.pair (.num .i64) (.pair (.num .i64) (.num .i64))))), (11, .ro none (.num .i64)), (12, .ro none (.num .i64))], r_impl_WeightBetween_L0 N⟩)]
theorem K80 (N : Nat) (a0 : (Int × Int × Int × List (Int × Int × Int))) (a1 : Int) (a2 : Int) : fnK N (E80) Go.Proofs.Try.f80 [net, int, int] int (A80 N) (a0, a1, a2, ()) = r_impl_WeightBetween N a0 a1 a2 := by kernel_rfl
theorem L80 (N : Nat) : LoopsOk N (E80) (A80 N) Go.Proofs.Try.f80.ntmps (retOf (E80) Go.Proofs.Try.f80 int) (loopsOf (Go.Proofs.Try.f80.body.getD .skip)) :=
  LoopsOk.of (l := [(0, lb Go.Proofs.Try.f80 0)]) (by kernel_rfl) (.cons (L := ⟨[(1, .ro none (.num .i64)), (2, .ro none (.num .i64)), (10, .ro none (.slice (.pair (.num .i64) (.pair (.num .i64) (.num .i64))))), (11, .ro none (.num .i64)), (12, .ro none (.num .i64))], r_impl_WeightBetween_L0 N⟩) (by kernel_rfl) (by intro s kc ke env; kernel_rfl) .nil)
theorem There80 : There Go.Proofs.Try.prog 80 := ⟨_, Go.Proofs.Try.func80, by kernel_rfl, by kernel_rfl⟩
theorem C80 {f : ((Int × Int × Int × List (Int × Int × Int)) × Int × Int × Unit → Option Int)} (h : ∀ a0 a1 a2 r, f (a0, a1, a2, ()) = some r → ∃ N, r_impl_WeightBetween N a0 a1 a2 = some r) : Contract Go.Proofs.Try.prog 80 ⟨[net, int, int], int, f⟩ := by
  refine contract (E := E80) (envOf table trivial trivial) mixed Go.Proofs.Try.func80 (c := Go.Proofs.Try.f80.body.getD .skip) (by kernel_rfl) (Nat.le_of_ble_eq_true (by kernel_rfl)) fun xs r hr => ?_
  obtain ⟨a0, a1, a2, _⟩ := xs
  obtain ⟨N, hN⟩ := h _ _ _ r hr
  exact ⟨N, A80 N, L80 N, (K80 N a0 a1 a2).trans hN⟩
theorem X80 : Contract Go.Proofs.Try.prog 80 ⟨[net, int, int], int, e_impl_WeightBetween⟩ := C80 fun _ _ _ _ h => ⟨N0, h⟩
-- impl_WiresAt
def E39 (c_impl_NetOk : ((Int × Int × Int × List (Int × Int × Int)) × Unit → Option Bool)) (c_impl_isNode : ((Int × Int × Int × List (Int × Int × Int)) × Int × Unit → Option Bool)) (c_impl_WeightBetween : ((Int × Int × Int × List (Int × Int × Int)) × Int × Int × Unit → Option Int)) : Env := ⟨tys, [], [(70, ⟨[net], .bool, c_impl_NetOk⟩), (79, ⟨[net, int], .bool, c_impl_isNode⟩), (80, ⟨[net, int, int], int, c_impl_WeightBetween⟩)], []⟩
def A39 (c_impl_NetOk : ((Int × Int × Int × List (Int × Int × Int)) × Unit → Option Bool)) (c_impl_isNode : ((Int × Int × Int × List (Int × Int × Int)) × Int × Unit → Option Bool)) (c_impl_WeightBetween : ((Int × Int × Int × List (Int × Int × Int)) × Int × Int × Unit → Option Int)) (N : Nat) : List (Nat × Loop (Ty.den (.slice int))) := [(0, ⟨[(1, .ro none (.num .i64)), (2, .box false (.pair (.num .i64) (.pair (.num .i64) (.pair (.num .i64) (.slice (.pair (.num .i64) (.pair (.num .i64) (.num .i64)))))))), (5, .own (.slice (.num .i64))), (18, .ro none (.num .i64)), (19, .ro none (.num .i64))], r_impl_WiresAt_L0 c_impl_NetOk c_impl_isNode c_impl_WeightBetween N⟩)]
theorem K39 (c_impl_NetOk : ((Int × Int × Int × List (Int × Int × Int)) × Unit → Option Bool)) (c_impl_isNode : ((Int × Int × Int × List (Int × Int × Int)) × Int × Unit → Option Bool)) (c_impl_WeightBetween : ((Int × Int × Int × List (Int × Int × Int)) × Int × Int × Unit → Option Int)) (N : Nat) (a0 : (Int × Int × Int × List (Int × Int × Int))) (a1 : Int) : fnK N (E39 c_impl_NetOk c_impl_isNode c_impl_WeightBetween) Go.Proofs.Try.f39 [net, int] (.slice int) (A39 c_impl_NetOk c_impl_isNode c_impl_WeightBetween N) (a0, a1, ()) = r_impl_WiresAt c_impl_NetOk c_impl_isNode c_impl_WeightBetween N a0 a1 := by kernel_rfl
theorem L39 (c_impl_NetOk : ((Int × Int × Int × List (Int × Int × Int)) × Unit → Option Bool)) (c_impl_isNode : ((Int × Int × Int × List (Int × Int × Int)) × Int × Unit → Option Bool)) (c_impl_WeightBetween : ((Int × Int × Int × List (Int × Int × Int)) × Int × Int × Unit → Option Int)) (N : Nat) : LoopsOk N (E39 c_impl_NetOk c_impl_isNode c_impl_WeightBetween) (A39 c_impl_NetOk c_impl_isNode c_impl_WeightBetween N) Go.Proofs.Try.f39.ntmps (retOf (E39 c_impl_NetOk c_impl_isNode c_impl_WeightBetween) Go.Proofs.Try.f39 (.slice int)) (loopsOf (Go.Proofs.Try.f39.body.getD .skip)) :=
  LoopsOk.of (l := [(0, lb Go.Proofs.Try.f39 0)]) (by kernel_rfl) (.cons (L := ⟨[(1, .ro none (.num .i64)), (2, .box false (.pair (.num .i64) (.pair (.num .i64) (.pair (.num .i64) (.slice (.pair (.num .i64) (.pair (.num .i64) (.num .i64)))))))), (5, .own (.slice (.num .i64))), (18, .ro none (.num .i64)), (19, .ro none (.num .i64))], r_impl_WiresAt_L0 c_impl_NetOk c_impl_isNode c_impl_WeightBetween N⟩) (by kernel_rfl) (by intro s kc ke env; kernel_rfl) .nil)
theorem There39 : There Go.Proofs.Try.prog 39 := ⟨_, Go.Proofs.Try.func39, by kernel_rfl, by kernel_rfl⟩
theorem C39 {c_impl_NetOk : ((Int × Int × Int × List (Int × Int × Int)) × Unit → Option Bool)} {c_impl_isNode : ((Int × Int × Int × List (Int × Int × Int)) × Int × Unit → Option Bool)} {c_impl_WeightBetween : ((Int × Int × Int × List (Int × Int × Int)) × Int × Int × Unit → Option Int)} (h_c_impl_NetOk : Contract Go.Proofs.Try.prog 70 ⟨[net], .bool, c_impl_NetOk⟩) (h_c_impl_isNode : Contract Go.Proofs.Try.prog 79 ⟨[net, int], .bool, c_impl_isNode⟩) (h_c_impl_WeightBetween : Contract Go.Proofs.Try.prog 80 ⟨[net, int, int], int, c_impl_WeightBetween⟩) {f : ((Int × Int × Int × List (Int × Int × Int)) × Int × Unit → Option (List Int))} (h : ∀ a0 a1 r, f (a0, a1, ()) = some r → ∃ N, r_impl_WiresAt c_impl_NetOk c_impl_isNode c_impl_WeightBetween N a0 a1 = some r) : Contract Go.Proofs.Try.prog 39 ⟨[net, int], (.slice int), f⟩ := by
  refine contract (E := E39 c_impl_NetOk c_impl_isNode c_impl_WeightBetween) (envOf table ⟨⟨h_c_impl_NetOk, There70⟩, ⟨⟨h_c_impl_isNode, There79⟩, ⟨⟨h_c_impl_WeightBetween, There80⟩, trivial⟩⟩⟩ trivial) mixed Go.Proofs.Try.func39 (c := Go.Proofs.Try.f39.body.getD .skip) (by kernel_rfl) (Nat.le_of_ble_eq_true (by kernel_rfl)) fun xs r hr => ?_
  obtain ⟨a0, a1, _⟩ := xs
  obtain ⟨N, hN⟩ := h _ _ r hr
  exact ⟨N, A39 c_impl_NetOk c_impl_isNode c_impl_WeightBetween N, L39 c_impl_NetOk c_impl_isNode c_impl_WeightBetween N, (K39 c_impl_NetOk c_impl_isNode c_impl_WeightBetween N a0 a1).trans hN⟩
theorem X39 : Contract Go.Proofs.Try.prog 39 ⟨[net, int], (.slice int), e_impl_WiresAt⟩ := C39 X70 X79 X80 fun _ _ _ h => ⟨N0, h⟩
-- impl_nodeWith
def E77 (c_impl_NetOk : ((Int × Int × Int × List (Int × Int × Int)) × Unit → Option Bool)) (c_impl_inner : ((Int × Int × Int × List (Int × Int × Int)) × Unit → Option (List Int))) (c_impl_WiresAt : ((Int × Int × Int × List (Int × Int × Int)) × Int × Unit → Option (List Int))) : Env := ⟨tys, [], [(70, ⟨[net], .bool, c_impl_NetOk⟩), (113, ⟨[net], (.slice int), c_impl_inner⟩), (39, ⟨[net, int], (.slice int), c_impl_WiresAt⟩)], []⟩
def A77 (c_impl_NetOk : ((Int × Int × Int × List (Int × Int × Int)) × Unit → Option Bool)) (c_impl_inner : ((Int × Int × Int × List (Int × Int × Int)) × Unit → Option (List Int))) (c_impl_WiresAt : ((Int × Int × Int × List (Int × Int × Int)) × Int × Unit → Option (List Int))) (N : Nat) : List (Nat × Loop (Ty.den int)) := [(0, ⟨[(1, .ro none (.num .i64)), (2, .box false (.pair (.num .i64) (.pair (.num .i64) (.pair (.num .i64) (.slice (.pair (.num .i64) (.pair (.num .i64) (.num .i64)))))))), (11, .own (.slice (.num .i64))), (12, .ro none (.num .i64)), (13, .ro none (.num .i64))], r_impl_nodeWith_L0 c_impl_NetOk c_impl_inner c_impl_WiresAt N⟩)]
theorem K77 (c_impl_NetOk : ((Int × Int × Int × List (Int × Int × Int)) × Unit → Option Bool)) (c_impl_inner : ((Int × Int × Int × List (Int × Int × Int)) × Unit → Option (List Int))) (c_impl_WiresAt : ((Int × Int × Int × List (Int × Int × Int)) × Int × Unit → Option (List Int))) (N : Nat) (a0 : (Int × Int × Int × List (Int × Int × Int))) (a1 : Int) : fnK N (E77 c_impl_NetOk c_impl_inner c_impl_WiresAt) Go.Proofs.Try.f77 [net, int] int (A77 c_impl_NetOk c_impl_inner c_impl_WiresAt N) (a0, a1, ()) = r_impl_nodeWith c_impl_NetOk c_impl_inner c_impl_WiresAt N a0 a1 := by kernel_rfl
theorem L77 (c_impl_NetOk : ((Int × Int × Int × List (Int × Int × Int)) × Unit → Option Bool)) (c_impl_inner : ((Int × Int × Int × List (Int × Int × Int)) × Unit → Option (List Int))) (c_impl_WiresAt : ((Int × Int × Int × List (Int × Int × Int)) × Int × Unit → Option (List Int))) (N : Nat) : LoopsOk N (E77 c_impl_NetOk c_impl_inner c_impl_WiresAt) (A77 c_impl_NetOk c_impl_inner c_impl_WiresAt N) Go.Proofs.Try.f77.ntmps (retOf (E77 c_impl_NetOk c_impl_inner c_impl_WiresAt) Go.Proofs.Try.f77 int) (loopsOf (Go.Proofs.Try.f77.body.getD .skip)) :=
  LoopsOk.of (l := [(0, lb Go.Proofs.Try.f77 0)]) (by kernel_rfl) (.cons (L := ⟨[(1, .ro none (.num .i64)), (2, .box false (.pair (.num .i64) (.pair (.num .i64) (.pair (.num .i64) (.slice (.pair (.num .i64) (.pair (.num .i64) (.num .i64)))))))), (11, .own (.slice (.num .i64))), (12, .ro none (.num .i64)), (13, .ro none (.num .i64))], r_impl_nodeWith_L0 c_impl_NetOk c_impl_inner c_impl_WiresAt N⟩) (by kernel_rfl) (by intro s kc ke env; kernel_rfl) .nil)
theorem There77 : There Go.Proofs.Try.prog 77 := ⟨_, Go.Proofs.Try.func77, by kernel_rfl, by kernel_rfl⟩
theorem C77 {c_impl_NetOk : ((Int × Int × Int × List (Int × Int × Int)) × Unit → Option Bool)} {c_impl_inner : ((Int × Int × Int × List (Int × Int × Int)) × Unit → Option (List Int))} {c_impl_WiresAt : ((Int × Int × Int × List (Int × Int × Int)) × Int × Unit → Option (List Int))} (h_c_impl_NetOk : Contract Go.Proofs.Try.prog 70 ⟨[net], .bool, c_impl_NetOk⟩) (h_c_impl_inner : Contract Go.Proofs.Try.prog 113 ⟨[net], (.slice int), c_impl_inner⟩) (h_c_impl_WiresAt : Contract Go.Proofs.Try.prog 39 ⟨[net, int], (.slice int), c_impl_WiresAt⟩) {f : ((Int × Int × Int × List (Int × Int × Int)) × Int × Unit → Option Int)} (h : ∀ a0 a1 r, f (a0, a1, ()) = some r → ∃ N, r_impl_nodeWith c_impl_NetOk c_impl_inner c_impl_WiresAt N a0 a1 = some r) : Contract Go.Proofs.Try.prog 77 ⟨[net, int], int, f⟩ := by
  refine contract (E := E77 c_impl_NetOk c_impl_inner c_impl_WiresAt) (envOf table ⟨⟨h_c_impl_NetOk, There70⟩, ⟨⟨h_c_impl_inner, There113⟩, ⟨⟨h_c_impl_WiresAt, There39⟩, trivial⟩⟩⟩ trivial) mixed Go.Proofs.Try.func77 (c := Go.Proofs.Try.f77.body.getD .skip) (by kernel_rfl) (Nat.le_of_ble_eq_true (by kernel_rfl)) fun xs r hr => ?_
  obtain ⟨a0, a1, _⟩ := xs
  obtain ⟨N, hN⟩ := h _ _ r hr
  exact ⟨N, A77 c_impl_NetOk c_impl_inner c_impl_WiresAt N, L77 c_impl_NetOk c_impl_inner c_impl_WiresAt N, (K77 c_impl_NetOk c_impl_inner c_impl_WiresAt N a0 a1).trans hN⟩
theorem X77 : Contract Go.Proofs.Try.prog 77 ⟨[net, int], int, e_impl_nodeWith⟩ := C77 X70 X113 X39 fun _ _ _ h => ⟨N0, h⟩
-- impl_LeafOf
def E35 (c_impl_nodeWith : ((Int × Int × Int × List (Int × Int × Int)) × Int × Unit → Option Int)) : Env := ⟨tys, [], [(77, ⟨[net, int], int, c_impl_nodeWith⟩)], []⟩
def A35 (_c_impl_nodeWith : ((Int × Int × Int × List (Int × Int × Int)) × Int × Unit → Option Int)) (_N : Nat) : List (Nat × Loop (Ty.den int)) := []
theorem K35 (c_impl_nodeWith : ((Int × Int × Int × List (Int × Int × Int)) × Int × Unit → Option Int)) (N : Nat) (a0 : (Int × Int × Int × List (Int × Int × Int))) : fnK N (E35 c_impl_nodeWith) Go.Proofs.Try.f35 [net] int (A35 c_impl_nodeWith N) (a0, ()) = r_impl_LeafOf c_impl_nodeWith N a0 := by kernel_rfl
theorem L35 (c_impl_nodeWith : ((Int × Int × Int × List (Int × Int × Int)) × Int × Unit → Option Int)) (N : Nat) : LoopsOk N (E35 c_impl_nodeWith) (A35 c_impl_nodeWith N) Go.Proofs.Try.f35.ntmps (retOf (E35 c_impl_nodeWith) Go.Proofs.Try.f35 int) (loopsOf (Go.Proofs.Try.f35.body.getD .skip)) :=
  LoopsOk.of (l := []) (by kernel_rfl) .nil
theorem There35 : There Go.Proofs.Try.prog 35 := ⟨_, Go.Proofs.Try.func35, by kernel_rfl, by kernel_rfl⟩
theorem C35 {c_impl_nodeWith : ((Int × Int × Int × List (Int × Int × Int)) × Int × Unit → Option Int)} (h_c_impl_nodeWith : Contract Go.Proofs.Try.prog 77 ⟨[net, int], int, c_impl_nodeWith⟩) {f : ((Int × Int × Int × List (Int × Int × Int)) × Unit → Option Int)} (h : ∀ a0 r, f (a0, ()) = some r → ∃ N, r_impl_LeafOf c_impl_nodeWith N a0 = some r) : Contract Go.Proofs.Try.prog 35 ⟨[net], int, f⟩ := by
  refine contract (E := E35 c_impl_nodeWith) (envOf table ⟨⟨h_c_impl_nodeWith, There77⟩, trivial⟩ trivial) mixed Go.Proofs.Try.func35 (c := Go.Proofs.Try.f35.body.getD .skip) (by kernel_rfl) (Nat.le_of_ble_eq_true (by kernel_rfl)) fun xs r hr => ?_
  obtain ⟨a0, _⟩ := xs
  obtain ⟨N, hN⟩ := h _ r hr
  exact ⟨N, A35 c_impl_nodeWith N, L35 c_impl_nodeWith N, (K35 c_impl_nodeWith N a0).trans hN⟩
theorem X35 : Contract Go.Proofs.Try.prog 35 ⟨[net], int, e_impl_LeafOf⟩ := C35 X77 fun _ _ h => ⟨N0, h⟩
-- laws_FnExactLeafOf
def E7 (c_laws_szNet : ((Int × Int × Int × List (Int × Int × Int)) × Int × Unit → Option Int)) (c_laws_toNet : ((Int × Int × Int × List (Int × Int × Int)) × Unit → Option (Int × Int × Int × List (Int × Int × Int)))) (c_spec_LeafOf : ((Int × Int × Int × List (Int × Int × Int)) × Unit → Option Int)) (c_impl_LeafOf : ((Int × Int × Int × List (Int × Int × Int)) × Unit → Option Int)) (c_laws_eqNet : ((Int × Int × Int × List (Int × Int × Int)) × (Int × Int × Int × List (Int × Int × Int)) × Unit → Option Bool)) : Env := ⟨tys, [], [(24, ⟨[net, int], int, c_laws_szNet⟩), (26, ⟨[net], net, c_laws_toNet⟩), (34, ⟨[net], int, c_spec_LeafOf⟩), (35, ⟨[net], int, c_impl_LeafOf⟩), (28, ⟨[net, net], .bool, c_laws_eqNet⟩)], []⟩
def A7 (_c_laws_szNet : ((Int × Int × Int × List (Int × Int × Int)) × Int × Unit → Option Int)) (_c_laws_toNet : ((Int × Int × Int × List (Int × Int × Int)) × Unit → Option (Int × Int × Int × List (Int × Int × Int)))) (_c_spec_LeafOf : ((Int × Int × Int × List (Int × Int × Int)) × Unit → Option Int)) (_c_impl_LeafOf : ((Int × Int × Int × List (Int × Int × Int)) × Unit → Option Int)) (_c_laws_eqNet : ((Int × Int × Int × List (Int × Int × Int)) × (Int × Int × Int × List (Int × Int × Int)) × Unit → Option Bool)) (_N : Nat) : List (Nat × Loop (Ty.den .bool)) := []
theorem K7 (c_laws_szNet : ((Int × Int × Int × List (Int × Int × Int)) × Int × Unit → Option Int)) (c_laws_toNet : ((Int × Int × Int × List (Int × Int × Int)) × Unit → Option (Int × Int × Int × List (Int × Int × Int)))) (c_spec_LeafOf : ((Int × Int × Int × List (Int × Int × Int)) × Unit → Option Int)) (c_impl_LeafOf : ((Int × Int × Int × List (Int × Int × Int)) × Unit → Option Int)) (c_laws_eqNet : ((Int × Int × Int × List (Int × Int × Int)) × (Int × Int × Int × List (Int × Int × Int)) × Unit → Option Bool)) (N : Nat) (a0 : (Int × Int × Int × List (Int × Int × Int))) : fnK N (E7 c_laws_szNet c_laws_toNet c_spec_LeafOf c_impl_LeafOf c_laws_eqNet) Go.Proofs.Try.f7 [net] .bool (A7 c_laws_szNet c_laws_toNet c_spec_LeafOf c_impl_LeafOf c_laws_eqNet N) (a0, ()) = r_laws_FnExactLeafOf c_laws_szNet c_laws_toNet c_spec_LeafOf c_impl_LeafOf c_laws_eqNet N a0 := by kernel_rfl
theorem L7 (c_laws_szNet : ((Int × Int × Int × List (Int × Int × Int)) × Int × Unit → Option Int)) (c_laws_toNet : ((Int × Int × Int × List (Int × Int × Int)) × Unit → Option (Int × Int × Int × List (Int × Int × Int)))) (c_spec_LeafOf : ((Int × Int × Int × List (Int × Int × Int)) × Unit → Option Int)) (c_impl_LeafOf : ((Int × Int × Int × List (Int × Int × Int)) × Unit → Option Int)) (c_laws_eqNet : ((Int × Int × Int × List (Int × Int × Int)) × (Int × Int × Int × List (Int × Int × Int)) × Unit → Option Bool)) (N : Nat) : LoopsOk N (E7 c_laws_szNet c_laws_toNet c_spec_LeafOf c_impl_LeafOf c_laws_eqNet) (A7 c_laws_szNet c_laws_toNet c_spec_LeafOf c_impl_LeafOf c_laws_eqNet N) Go.Proofs.Try.f7.ntmps (retOf (E7 c_laws_szNet c_laws_toNet c_spec_LeafOf c_impl_LeafOf c_laws_eqNet) Go.Proofs.Try.f7 .bool) (loopsOf (Go.Proofs.Try.f7.body.getD .skip)) :=
  LoopsOk.of (l := []) (by kernel_rfl) .nil
theorem There7 : There Go.Proofs.Try.prog 7 := ⟨_, Go.Proofs.Try.func7, by kernel_rfl, by kernel_rfl⟩
theorem C7 {c_laws_szNet : ((Int × Int × Int × List (Int × Int × Int)) × Int × Unit → Option Int)} {c_laws_toNet : ((Int × Int × Int × List (Int × Int × Int)) × Unit → Option (Int × Int × Int × List (Int × Int × Int)))} {c_spec_LeafOf : ((Int × Int × Int × List (Int × Int × Int)) × Unit → Option Int)} {c_impl_LeafOf : ((Int × Int × Int × List (Int × Int × Int)) × Unit → Option Int)} {c_laws_eqNet : ((Int × Int × Int × List (Int × Int × Int)) × (Int × Int × Int × List (Int × Int × Int)) × Unit → Option Bool)} (h_c_laws_szNet : Contract Go.Proofs.Try.prog 24 ⟨[net, int], int, c_laws_szNet⟩) (h_c_laws_toNet : Contract Go.Proofs.Try.prog 26 ⟨[net], net, c_laws_toNet⟩) (h_c_spec_LeafOf : Contract Go.Proofs.Try.prog 34 ⟨[net], int, c_spec_LeafOf⟩) (h_c_impl_LeafOf : Contract Go.Proofs.Try.prog 35 ⟨[net], int, c_impl_LeafOf⟩) (h_c_laws_eqNet : Contract Go.Proofs.Try.prog 28 ⟨[net, net], .bool, c_laws_eqNet⟩) {f : ((Int × Int × Int × List (Int × Int × Int)) × Unit → Option Bool)} (h : ∀ a0 r, f (a0, ()) = some r → ∃ N, r_laws_FnExactLeafOf c_laws_szNet c_laws_toNet c_spec_LeafOf c_impl_LeafOf c_laws_eqNet N a0 = some r) : Contract Go.Proofs.Try.prog 7 ⟨[net], .bool, f⟩ := by
  refine contract (E := E7 c_laws_szNet c_laws_toNet c_spec_LeafOf c_impl_LeafOf c_laws_eqNet) (envOf table ⟨⟨h_c_laws_szNet, There24⟩, ⟨⟨h_c_laws_toNet, There26⟩, ⟨⟨h_c_spec_LeafOf, There34⟩, ⟨⟨h_c_impl_LeafOf, There35⟩, ⟨⟨h_c_laws_eqNet, There28⟩, trivial⟩⟩⟩⟩⟩ trivial) mixed Go.Proofs.Try.func7 (c := Go.Proofs.Try.f7.body.getD .skip) (by kernel_rfl) (Nat.le_of_ble_eq_true (by kernel_rfl)) fun xs r hr => ?_
  obtain ⟨a0, _⟩ := xs
  obtain ⟨N, hN⟩ := h _ r hr
  exact ⟨N, A7 c_laws_szNet c_laws_toNet c_spec_LeafOf c_impl_LeafOf c_laws_eqNet N, L7 c_laws_szNet c_laws_toNet c_spec_LeafOf c_impl_LeafOf c_laws_eqNet N, (K7 c_laws_szNet c_laws_toNet c_spec_LeafOf c_impl_LeafOf c_laws_eqNet N a0).trans hN⟩
theorem X7 : Contract Go.Proofs.Try.prog 7 ⟨[net], .bool, e_laws_FnExactLeafOf⟩ := C7 X24 X26 X34 X35 X28 fun _ _ h => ⟨N0, h⟩
-- spec_SeriesOf
def E36 (c_spec_l07First : ((Int × Int × Int × List (Int × Int × Int)) × Int × Unit → Option Int)) : Env := ⟨tys, [], [(76, ⟨[net, int], int, c_spec_l07First⟩)], []⟩
def A36 (_c_spec_l07First : ((Int × Int × Int × List (Int × Int × Int)) × Int × Unit → Option Int)) (_N : Nat) : List (Nat × Loop (Ty.den int)) := []
theorem K36 (c_spec_l07First : ((Int × Int × Int × List (Int × Int × Int)) × Int × Unit → Option Int)) (N : Nat) (a0 : (Int × Int × Int × List (Int × Int × Int))) : fnK N (E36 c_spec_l07First) Go.Proofs.Try.f36 [net] int (A36 c_spec_l07First N) (a0, ()) = r_spec_SeriesOf c_spec_l07First N a0 := by kernel_rfl
theorem L36 (c_spec_l07First : ((Int × Int × Int × List (Int × Int × Int)) × Int × Unit → Option Int)) (N : Nat) : LoopsOk N (E36 c_spec_l07First) (A36 c_spec_l07First N) Go.Proofs.Try.f36.ntmps (retOf (E36 c_spec_l07First) Go.Proofs.Try.f36 int) (loopsOf (Go.Proofs.Try.f36.body.getD .skip)) :=
  LoopsOk.of (l := []) (by kernel_rfl) .nil
theorem There36 : There Go.Proofs.Try.prog 36 := ⟨_, Go.Proofs.Try.func36, by kernel_rfl, by kernel_rfl⟩
theorem C36 {c_spec_l07First : ((Int × Int × Int × List (Int × Int × Int)) × Int × Unit → Option Int)} (h_c_spec_l07First : Contract Go.Proofs.Try.prog 76 ⟨[net, int], int, c_spec_l07First⟩) {f : ((Int × Int × Int × List (Int × Int × Int)) × Unit → Option Int)} (h : ∀ a0 r, f (a0, ()) = some r → ∃ N, r_spec_SeriesOf c_spec_l07First N a0 = some r) : Contract Go.Proofs.Try.prog 36 ⟨[net], int, f⟩ := by
  refine contract (E := E36 c_spec_l07First) (envOf table ⟨⟨h_c_spec_l07First, There76⟩, trivial⟩ trivial) mixed Go.Proofs.Try.func36 (c := Go.Proofs.Try.f36.body.getD .skip) (by kernel_rfl) (Nat.le_of_ble_eq_true (by kernel_rfl)) fun xs r hr => ?_
  obtain ⟨a0, _⟩ := xs
  obtain ⟨N, hN⟩ := h _ r hr
  exact ⟨N, A36 c_spec_l07First N, L36 c_spec_l07First N, (K36 c_spec_l07First N a0).trans hN⟩
theorem X36 : Contract Go.Proofs.Try.prog 36 ⟨[net], int, e_spec_SeriesOf⟩ := C36 X76 fun _ _ h => ⟨N0, h⟩
-- impl_SeriesOf
def E37 (c_impl_nodeWith : ((Int × Int × Int × List (Int × Int × Int)) × Int × Unit → Option Int)) : Env := ⟨tys, [], [(77, ⟨[net, int], int, c_impl_nodeWith⟩)], []⟩
def A37 (_c_impl_nodeWith : ((Int × Int × Int × List (Int × Int × Int)) × Int × Unit → Option Int)) (_N : Nat) : List (Nat × Loop (Ty.den int)) := []
theorem K37 (c_impl_nodeWith : ((Int × Int × Int × List (Int × Int × Int)) × Int × Unit → Option Int)) (N : Nat) (a0 : (Int × Int × Int × List (Int × Int × Int))) : fnK N (E37 c_impl_nodeWith) Go.Proofs.Try.f37 [net] int (A37 c_impl_nodeWith N) (a0, ()) = r_impl_SeriesOf c_impl_nodeWith N a0 := by kernel_rfl
theorem L37 (c_impl_nodeWith : ((Int × Int × Int × List (Int × Int × Int)) × Int × Unit → Option Int)) (N : Nat) : LoopsOk N (E37 c_impl_nodeWith) (A37 c_impl_nodeWith N) Go.Proofs.Try.f37.ntmps (retOf (E37 c_impl_nodeWith) Go.Proofs.Try.f37 int) (loopsOf (Go.Proofs.Try.f37.body.getD .skip)) :=
  LoopsOk.of (l := []) (by kernel_rfl) .nil
theorem There37 : There Go.Proofs.Try.prog 37 := ⟨_, Go.Proofs.Try.func37, by kernel_rfl, by kernel_rfl⟩
theorem C37 {c_impl_nodeWith : ((Int × Int × Int × List (Int × Int × Int)) × Int × Unit → Option Int)} (h_c_impl_nodeWith : Contract Go.Proofs.Try.prog 77 ⟨[net, int], int, c_impl_nodeWith⟩) {f : ((Int × Int × Int × List (Int × Int × Int)) × Unit → Option Int)} (h : ∀ a0 r, f (a0, ()) = some r → ∃ N, r_impl_SeriesOf c_impl_nodeWith N a0 = some r) : Contract Go.Proofs.Try.prog 37 ⟨[net], int, f⟩ := by
  refine contract (E := E37 c_impl_nodeWith) (envOf table ⟨⟨h_c_impl_nodeWith, There77⟩, trivial⟩ trivial) mixed Go.Proofs.Try.func37 (c := Go.Proofs.Try.f37.body.getD .skip) (by kernel_rfl) (Nat.le_of_ble_eq_true (by kernel_rfl)) fun xs r hr => ?_
  obtain ⟨a0, _⟩ := xs
  obtain ⟨N, hN⟩ := h _ r hr
  exact ⟨N, A37 c_impl_nodeWith N, L37 c_impl_nodeWith N, (K37 c_impl_nodeWith N a0).trans hN⟩
theorem X37 : Contract Go.Proofs.Try.prog 37 ⟨[net], int, e_impl_SeriesOf⟩ := C37 X77 fun _ _ h => ⟨N0, h⟩
-- laws_FnExactSeriesOf
def E8 (c_laws_szNet : ((Int × Int × Int × List (Int × Int × Int)) × Int × Unit → Option Int)) (c_laws_toNet : ((Int × Int × Int × List (Int × Int × Int)) × Unit → Option (Int × Int × Int × List (Int × Int × Int)))) (c_spec_SeriesOf : ((Int × Int × Int × List (Int × Int × Int)) × Unit → Option Int)) (c_impl_SeriesOf : ((Int × Int × Int × List (Int × Int × Int)) × Unit → Option Int)) (c_laws_eqNet : ((Int × Int × Int × List (Int × Int × Int)) × (Int × Int × Int × List (Int × Int × Int)) × Unit → Option Bool)) : Env := ⟨tys, [], [(24, ⟨[net, int], int, c_laws_szNet⟩), (26, ⟨[net], net, c_laws_toNet⟩), (36, ⟨[net], int, c_spec_SeriesOf⟩), (37, ⟨[net], int, c_impl_SeriesOf⟩), (28, ⟨[net, net], .bool, c_laws_eqNet⟩)], []⟩
def A8 (_c_laws_szNet : ((Int × Int × Int × List (Int × Int × Int)) × Int × Unit → Option Int)) (_c_laws_toNet : ((Int × Int × Int × List (Int × Int × Int)) × Unit → Option (Int × Int × Int × List (Int × Int × Int)))) (_c_spec_SeriesOf : ((Int × Int × Int × List (Int × Int × Int)) × Unit → Option Int)) (_c_impl_SeriesOf : ((Int × Int × Int × List (Int × Int × Int)) × Unit → Option Int)) (_c_laws_eqNet : ((Int × Int × Int × List (Int × Int × Int)) × (Int × Int × Int × List (Int × Int × Int)) × Unit → Option Bool)) (_N : Nat) : List (Nat × Loop (Ty.den .bool)) := []
theorem K8 (c_laws_szNet : ((Int × Int × Int × List (Int × Int × Int)) × Int × Unit → Option Int)) (c_laws_toNet : ((Int × Int × Int × List (Int × Int × Int)) × Unit → Option (Int × Int × Int × List (Int × Int × Int)))) (c_spec_SeriesOf : ((Int × Int × Int × List (Int × Int × Int)) × Unit → Option Int)) (c_impl_SeriesOf : ((Int × Int × Int × List (Int × Int × Int)) × Unit → Option Int)) (c_laws_eqNet : ((Int × Int × Int × List (Int × Int × Int)) × (Int × Int × Int × List (Int × Int × Int)) × Unit → Option Bool)) (N : Nat) (a0 : (Int × Int × Int × List (Int × Int × Int))) : fnK N (E8 c_laws_szNet c_laws_toNet c_spec_SeriesOf c_impl_SeriesOf c_laws_eqNet) Go.Proofs.Try.f8 [net] .bool (A8 c_laws_szNet c_laws_toNet c_spec_SeriesOf c_impl_SeriesOf c_laws_eqNet N) (a0, ()) = r_laws_FnExactSeriesOf c_laws_szNet c_laws_toNet c_spec_SeriesOf c_impl_SeriesOf c_laws_eqNet N a0 := by kernel_rfl
theorem L8 (c_laws_szNet : ((Int × Int × Int × List (Int × Int × Int)) × Int × Unit → Option Int)) (c_laws_toNet : ((Int × Int × Int × List (Int × Int × Int)) × Unit → Option (Int × Int × Int × List (Int × Int × Int)))) (c_spec_SeriesOf : ((Int × Int × Int × List (Int × Int × Int)) × Unit → Option Int)) (c_impl_SeriesOf : ((Int × Int × Int × List (Int × Int × Int)) × Unit → Option Int)) (c_laws_eqNet : ((Int × Int × Int × List (Int × Int × Int)) × (Int × Int × Int × List (Int × Int × Int)) × Unit → Option Bool)) (N : Nat) : LoopsOk N (E8 c_laws_szNet c_laws_toNet c_spec_SeriesOf c_impl_SeriesOf c_laws_eqNet) (A8 c_laws_szNet c_laws_toNet c_spec_SeriesOf c_impl_SeriesOf c_laws_eqNet N) Go.Proofs.Try.f8.ntmps (retOf (E8 c_laws_szNet c_laws_toNet c_spec_SeriesOf c_impl_SeriesOf c_laws_eqNet) Go.Proofs.Try.f8 .bool) (loopsOf (Go.Proofs.Try.f8.body.getD .skip)) :=
  LoopsOk.of (l := []) (by kernel_rfl) .nil
theorem There8 : There Go.Proofs.Try.prog 8 := ⟨_, Go.Proofs.Try.func8, by kernel_rfl, by kernel_rfl⟩
theorem C8 {c_laws_szNet : ((Int × Int × Int × List (Int × Int × Int)) × Int × Unit → Option Int)} {c_laws_toNet : ((Int × Int × Int × List (Int × Int × Int)) × Unit → Option (Int × Int × Int × List (Int × Int × Int)))} {c_spec_SeriesOf : ((Int × Int × Int × List (Int × Int × Int)) × Unit → Option Int)} {c_impl_SeriesOf : ((Int × Int × Int × List (Int × Int × Int)) × Unit → Option Int)} {c_laws_eqNet : ((Int × Int × Int × List (Int × Int × Int)) × (Int × Int × Int × List (Int × Int × Int)) × Unit → Option Bool)} (h_c_laws_szNet : Contract Go.Proofs.Try.prog 24 ⟨[net, int], int, c_laws_szNet⟩) (h_c_laws_toNet : Contract Go.Proofs.Try.prog 26 ⟨[net], net, c_laws_toNet⟩) (h_c_spec_SeriesOf : Contract Go.Proofs.Try.prog 36 ⟨[net], int, c_spec_SeriesOf⟩) (h_c_impl_SeriesOf : Contract Go.Proofs.Try.prog 37 ⟨[net], int, c_impl_SeriesOf⟩) (h_c_laws_eqNet : Contract Go.Proofs.Try.prog 28 ⟨[net, net], .bool, c_laws_eqNet⟩) {f : ((Int × Int × Int × List (Int × Int × Int)) × Unit → Option Bool)} (h : ∀ a0 r, f (a0, ()) = some r → ∃ N, r_laws_FnExactSeriesOf c_laws_szNet c_laws_toNet c_spec_SeriesOf c_impl_SeriesOf c_laws_eqNet N a0 = some r) : Contract Go.Proofs.Try.prog 8 ⟨[net], .bool, f⟩ := by
  refine contract (E := E8 c_laws_szNet c_laws_toNet c_spec_SeriesOf c_impl_SeriesOf c_laws_eqNet) (envOf table ⟨⟨h_c_laws_szNet, There24⟩, ⟨⟨h_c_laws_toNet, There26⟩, ⟨⟨h_c_spec_SeriesOf, There36⟩, ⟨⟨h_c_impl_SeriesOf, There37⟩, ⟨⟨h_c_laws_eqNet, There28⟩, trivial⟩⟩⟩⟩⟩ trivial) mixed Go.Proofs.Try.func8 (c := Go.Proofs.Try.f8.body.getD .skip) (by kernel_rfl) (Nat.le_of_ble_eq_true (by kernel_rfl)) fun xs r hr => ?_
  obtain ⟨a0, _⟩ := xs
  obtain ⟨N, hN⟩ := h _ r hr
  exact ⟨N, A8 c_laws_szNet c_laws_toNet c_spec_SeriesOf c_impl_SeriesOf c_laws_eqNet N, L8 c_laws_szNet c_laws_toNet c_spec_SeriesOf c_impl_SeriesOf c_laws_eqNet N, (K8 c_laws_szNet c_laws_toNet c_spec_SeriesOf c_impl_SeriesOf c_laws_eqNet N a0).trans hN⟩
theorem X8 : Contract Go.Proofs.Try.prog 8 ⟨[net], .bool, e_laws_FnExactSeriesOf⟩ := C8 X24 X26 X36 X37 X28 fun _ _ h => ⟨N0, h⟩
-- spec_WiresAt
def E38 (c_spec_NetOk : ((Int × Int × Int × List (Int × Int × Int)) × Unit → Option Bool)) (c_spec_l01In : (Int × Int × Int × Unit → Option Bool)) (c_spec_l07Near : ((Int × Int × Int × List (Int × Int × Int)) × Int × Unit → Option (List Int))) : Env := ⟨tys, [], [(68, ⟨[net], .bool, c_spec_NetOk⟩), (58, ⟨[int, int, int], .bool, c_spec_l01In⟩), (78, ⟨[net, int], (.slice int), c_spec_l07Near⟩)], []⟩
def A38 (_c_spec_NetOk : ((Int × Int × Int × List (Int × Int × Int)) × Unit → Option Bool)) (_c_spec_l01In : (Int × Int × Int × Unit → Option Bool)) (_c_spec_l07Near : ((Int × Int × Int × List (Int × Int × Int)) × Int × Unit → Option (List Int))) (_N : Nat) : List (Nat × Loop (Ty.den (.slice int))) := []
theorem K38 (c_spec_NetOk : ((Int × Int × Int × List (Int × Int × Int)) × Unit → Option Bool)) (c_spec_l01In : (Int × Int × Int × Unit → Option Bool)) (c_spec_l07Near : ((Int × Int × Int × List (Int × Int × Int)) × Int × Unit → Option (List Int))) (N : Nat) (a0 : (Int × Int × Int × List (Int × Int × Int))) (a1 : Int) : fnK N (E38 c_spec_NetOk c_spec_l01In c_spec_l07Near) Go.Proofs.Try.f38 [net, int] (.slice int) (A38 c_spec_NetOk c_spec_l01In c_spec_l07Near N) (a0, a1, ()) = r_spec_WiresAt c_spec_NetOk c_spec_l01In c_spec_l07Near N a0 a1 := by kernel_rfl
theorem L38 (c_spec_NetOk : ((Int × Int × Int × List (Int × Int × Int)) × Unit → Option Bool)) (c_spec_l01In : (Int × Int × Int × Unit → Option Bool)) (c_spec_l07Near : ((Int × Int × Int × List (Int × Int × Int)) × Int × Unit → Option (List Int))) (N : Nat) : LoopsOk N (E38 c_spec_NetOk c_spec_l01In c_spec_l07Near) (A38 c_spec_NetOk c_spec_l01In c_spec_l07Near N) Go.Proofs.Try.f38.ntmps (retOf (E38 c_spec_NetOk c_spec_l01In c_spec_l07Near) Go.Proofs.Try.f38 (.slice int)) (loopsOf (Go.Proofs.Try.f38.body.getD .skip)) :=
  LoopsOk.of (l := []) (by kernel_rfl) .nil
theorem There38 : There Go.Proofs.Try.prog 38 := ⟨_, Go.Proofs.Try.func38, by kernel_rfl, by kernel_rfl⟩
theorem C38 {c_spec_NetOk : ((Int × Int × Int × List (Int × Int × Int)) × Unit → Option Bool)} {c_spec_l01In : (Int × Int × Int × Unit → Option Bool)} {c_spec_l07Near : ((Int × Int × Int × List (Int × Int × Int)) × Int × Unit → Option (List Int))} (h_c_spec_NetOk : Contract Go.Proofs.Try.prog 68 ⟨[net], .bool, c_spec_NetOk⟩) (h_c_spec_l01In : Contract Go.Proofs.Try.prog 58 ⟨[int, int, int], .bool, c_spec_l01In⟩) (h_c_spec_l07Near : Contract Go.Proofs.Try.prog 78 ⟨[net, int], (.slice int), c_spec_l07Near⟩) {f : ((Int × Int × Int × List (Int × Int × Int)) × Int × Unit → Option (List Int))} (h : ∀ a0 a1 r, f (a0, a1, ()) = some r → ∃ N, r_spec_WiresAt c_spec_NetOk c_spec_l01In c_spec_l07Near N a0 a1 = some r) : Contract Go.Proofs.Try.prog 38 ⟨[net, int], (.slice int), f⟩ := by
  refine contract (E := E38 c_spec_NetOk c_spec_l01In c_spec_l07Near) (envOf table ⟨⟨h_c_spec_NetOk, There68⟩, ⟨⟨h_c_spec_l01In, There58⟩, ⟨⟨h_c_spec_l07Near, There78⟩, trivial⟩⟩⟩ trivial) mixed Go.Proofs.Try.func38 (c := Go.Proofs.Try.f38.body.getD .skip) (by kernel_rfl) (Nat.le_of_ble_eq_true (by kernel_rfl)) fun xs r hr => ?_
  obtain ⟨a0, a1, _⟩ := xs
  obtain ⟨N, hN⟩ := h _ _ r hr
  exact ⟨N, A38 c_spec_NetOk c_spec_l01In c_spec_l07Near N, L38 c_spec_NetOk c_spec_l01In c_spec_l07Near N, (K38 c_spec_NetOk c_spec_l01In c_spec_l07Near N a0 a1).trans hN⟩
theorem X38 : Contract Go.Proofs.Try.prog 38 ⟨[net, int], (.slice int), e_spec_WiresAt⟩ := C38 X68 X58 X78 fun _ _ _ h => ⟨N0, h⟩
-- laws_markWireS
def E81 : Env := ⟨tys, [], [], []⟩
def A81 (N : Nat) : List (Nat × Loop (Ty.den (.slice wire) × resDen (some int))) := [(0, ⟨[(0, .own (.slice (.pair (.num .i64) (.pair (.num .i64) (.num .i64))))), (1, .ro none (.num .i64)), (5, .ro none (.num .i64))], r_laws_markWireS_L0 N⟩)]
theorem K81 (m_laws_markWireS_ : ((List (Int × Int × Int)) → (Int × Unit) → Option ((List (Int × Int × Int)) × Int))) (N : Nat) (a0 : (List (Int × Int × Int))) (a1 : Int) : fnMut N (E81) Go.Proofs.Try.f81 ⟨(.slice wire), 0, [int], some int, m_laws_markWireS_⟩ (A81 N) a0 (a1, ()) = r_laws_markWireS N a0 a1 := by kernel_rfl
theorem L81 (m_laws_markWireS_ : ((List (Int × Int × Int)) → (Int × Unit) → Option ((List (Int × Int × Int)) × Int))) (N : Nat) : LoopsOk N (E81) (A81 N) Go.Proofs.Try.f81.ntmps (retM (E81) Go.Proofs.Try.f81 ⟨(.slice wire), 0, [int], some int, m_laws_markWireS_⟩) (loopsOf (Go.Proofs.Try.f81.body.getD .skip)) :=
  LoopsOk.of (l := [(0, lb Go.Proofs.Try.f81 0)]) (by kernel_rfl) (.cons (L := ⟨[(0, .own (.slice (.pair (.num .i64) (.pair (.num .i64) (.num .i64))))), (1, .ro none (.num .i64)), (5, .ro none (.num .i64))], r_laws_markWireS_L0 N⟩) (by kernel_rfl) (by intro s kc ke env; kernel_rfl) .nil)
theorem There81 : There Go.Proofs.Try.prog 81 := ⟨_, Go.Proofs.Try.func81, by kernel_rfl, by kernel_rfl⟩
theorem C81 {f : ((List (Int × Int × Int)) → (Int × Unit) → Option ((List (Int × Int × Int)) × Int))} (h : ∀ a0 a1 r, f a0 (a1, ()) = some r → ∃ N, r_laws_markWireS N a0 a1 = some r) : MutC Go.Proofs.Try.prog 81 ⟨(.slice wire), 0, [int], some int, f⟩ := by
  refine mutC (E := E81) (envOf table trivial trivial) mixed Go.Proofs.Try.func81 (c := Go.Proofs.Try.f81.body.getD .skip) (by kernel_rfl) (Nat.le_of_ble_eq_true (by kernel_rfl)) (Nat.le_of_ble_eq_true (by kernel_rfl)) (by kernel_rfl) fun a0 xs r hr => ?_
  obtain ⟨a1, _⟩ := xs
  obtain ⟨N, hN⟩ := h _ _ r hr
  exact ⟨N, A81 N, L81 f N, (K81 f N a0 a1).trans hN⟩
theorem X81 : MutC Go.Proofs.Try.prog 81 ⟨(.slice wire), 0, [int], some int, e_laws_markWireS⟩ := C81 fun _ _ _ h => ⟨N0, h⟩
-- laws_markNet
theorem There40 : There Go.Proofs.Try.prog 40 := ⟨_, Go.Proofs.Try.func40, by kernel_rfl, by kernel_rfl⟩
theorem X40 : MutC Go.Proofs.Try.prog 40 ⟨net, 0, [int], some int, e_laws_markNet⟩ :=
  mutC_net (envOf (mu := []) (sp := []) table trivial trivial) (D := 38) (S := 36) (by kernel_rfl) (by kernel_rfl) (by kernel_rfl) X81 There81 Go.Proofs.Try.func40 rfl rfl rfl

-- laws_markIntS
def E41 : Env := ⟨tys, [], [], []⟩
def A41 (N : Nat) : List (Nat × Loop (Ty.den (.slice int) × resDen (some int))) := [(0, ⟨[(0, .own (.slice (.num .i64))), (1, .ro none (.num .i64)), (5, .ro none (.num .i64))], r_laws_markIntS_L0 N⟩)]
theorem K41 (m_laws_markIntS_ : ((List Int) → (Int × Unit) → Option ((List Int) × Int))) (N : Nat) (a0 : (List Int)) (a1 : Int) : fnMut N (E41) Go.Proofs.Try.f41 ⟨(.slice int), 0, [int], some int, m_laws_markIntS_⟩ (A41 N) a0 (a1, ()) = r_laws_markIntS N a0 a1 := by kernel_rfl
theorem L41 (m_laws_markIntS_ : ((List Int) → (Int × Unit) → Option ((List Int) × Int))) (N : Nat) : LoopsOk N (E41) (A41 N) Go.Proofs.Try.f41.ntmps (retM (E41) Go.Proofs.Try.f41 ⟨(.slice int), 0, [int], some int, m_laws_markIntS_⟩) (loopsOf (Go.Proofs.Try.f41.body.getD .skip)) :=
  LoopsOk.of (l := [(0, lb Go.Proofs.Try.f41 0)]) (by kernel_rfl) (.cons (L := ⟨[(0, .own (.slice (.num .i64))), (1, .ro none (.num .i64)), (5, .ro none (.num .i64))], r_laws_markIntS_L0 N⟩) (by kernel_rfl) (by intro s kc ke env; kernel_rfl) .nil)
theorem There41 : There Go.Proofs.Try.prog 41 := ⟨_, Go.Proofs.Try.func41, by kernel_rfl, by kernel_rfl⟩
theorem C41 {f : ((List Int) → (Int × Unit) → Option ((List Int) × Int))} (h : ∀ a0 a1 r, f a0 (a1, ()) = some r → ∃ N, r_laws_markIntS N a0 a1 = some r) : MutC Go.Proofs.Try.prog 41 ⟨(.slice int), 0, [int], some int, f⟩ := by
  refine mutC (E := E41) (envOf table trivial trivial) mixed Go.Proofs.Try.func41 (c := Go.Proofs.Try.f41.body.getD .skip) (by kernel_rfl) (Nat.le_of_ble_eq_true (by kernel_rfl)) (Nat.le_of_ble_eq_true (by kernel_rfl)) (by kernel_rfl) fun a0 xs r hr => ?_
  obtain ⟨a1, _⟩ := xs
  obtain ⟨N, hN⟩ := h _ _ r hr
  exact ⟨N, A41 N, L41 f N, (K41 f N a0 a1).trans hN⟩
theorem X41 : MutC Go.Proofs.Try.prog 41 ⟨(.slice int), 0, [int], some int, e_laws_markIntS⟩ := C41 fun _ _ _ h => ⟨N0, h⟩
-- laws_heldIntS
def E42 : Env := ⟨tys, [], [], []⟩
def A42 (N : Nat) : List (Nat × Loop (Ty.den int)) := [(0, ⟨[(0, .ro none (.slice (.num .i64))), (1, .ro none (.num .i64)), (5, .ro none (.num .i64))], r_laws_heldIntS_L0 N⟩)]
theorem K42 (N : Nat) (a0 : (List Int)) (a1 : Int) : fnK N (E42) Go.Proofs.Try.f42 [(.slice int), int] int (A42 N) (a0, a1, ()) = r_laws_heldIntS N a0 a1 := by kernel_rfl
theorem L42 (N : Nat) : LoopsOk N (E42) (A42 N) Go.Proofs.Try.f42.ntmps (retOf (E42) Go.Proofs.Try.f42 int) (loopsOf (Go.Proofs.Try.f42.body.getD .skip)) :=
  LoopsOk.of (l := [(0, lb Go.Proofs.Try.f42 0)]) (by kernel_rfl) (.cons (L := ⟨[(0, .ro none (.slice (.num .i64))), (1, .ro none (.num .i64)), (5, .ro none (.num .i64))], r_laws_heldIntS_L0 N⟩) (by kernel_rfl) (by intro s kc ke env; kernel_rfl) .nil)
theorem There42 : There Go.Proofs.Try.prog 42 := ⟨_, Go.Proofs.Try.func42, by kernel_rfl, by kernel_rfl⟩
theorem C42 {f : ((List Int) × Int × Unit → Option Int)} (h : ∀ a0 a1 r, f (a0, a1, ()) = some r → ∃ N, r_laws_heldIntS N a0 a1 = some r) : Contract Go.Proofs.Try.prog 42 ⟨[(.slice int), int], int, f⟩ := by
  refine contract (E := E42) (envOf table trivial trivial) mixed Go.Proofs.Try.func42 (c := Go.Proofs.Try.f42.body.getD .skip) (by kernel_rfl) (Nat.le_of_ble_eq_true (by kernel_rfl)) fun xs r hr => ?_
  obtain ⟨a0, a1, _⟩ := xs
  obtain ⟨N, hN⟩ := h _ _ r hr
  exact ⟨N, A42 N, L42 N, (K42 N a0 a1).trans hN⟩
theorem X42 : Contract Go.Proofs.Try.prog 42 ⟨[(.slice int), int], int, e_laws_heldIntS⟩ := C42 fun _ _ _ h => ⟨N0, h⟩
-- laws_FnExactWiresAt
def E9 (c_laws_szNet : ((Int × Int × Int × List (Int × Int × Int)) × Int × Unit → Option Int)) (c_laws_toNet : ((Int × Int × Int × List (Int × Int × Int)) × Unit → Option (Int × Int × Int × List (Int × Int × Int)))) (c_spec_WiresAt : ((Int × Int × Int × List (Int × Int × Int)) × Int × Unit → Option (List Int))) (c_impl_WiresAt : ((Int × Int × Int × List (Int × Int × Int)) × Int × Unit → Option (List Int))) (c_laws_eqIntS : ((List Int) × (List Int) × Unit → Option Bool)) (c_laws_eqNet : ((Int × Int × Int × List (Int × Int × Int)) × (Int × Int × Int × List (Int × Int × Int)) × Unit → Option Bool)) (m_laws_markNet : ((Int × Int × Int × List (Int × Int × Int)) → (Int × Unit) → Option ((Int × Int × Int × List (Int × Int × Int)) × Int))) (m_laws_markIntS : ((List Int) → (Int × Unit) → Option ((List Int) × Int))) (c_laws_heldIntS : ((List Int) × Int × Unit → Option Int)) : Env := ⟨tys, [], [(24, ⟨[net, int], int, c_laws_szNet⟩), (26, ⟨[net], net, c_laws_toNet⟩), (38, ⟨[net, int], (.slice int), c_spec_WiresAt⟩), (39, ⟨[net, int], (.slice int), c_impl_WiresAt⟩), (18, ⟨[(.slice int), (.slice int)], .bool, c_laws_eqIntS⟩), (28, ⟨[net, net], .bool, c_laws_eqNet⟩), (42, ⟨[(.slice int), int], int, c_laws_heldIntS⟩)], [(40, ⟨net, 0, [int], some int, m_laws_markNet⟩), (41, ⟨(.slice int), 0, [int], some int, m_laws_markIntS⟩)]⟩
def A9 (_c_laws_szNet : ((Int × Int × Int × List (Int × Int × Int)) × Int × Unit → Option Int)) (_c_laws_toNet : ((Int × Int × Int × List (Int × Int × Int)) × Unit → Option (Int × Int × Int × List (Int × Int × Int)))) (_c_spec_WiresAt : ((Int × Int × Int × List (Int × Int × Int)) × Int × Unit → Option (List Int))) (_c_impl_WiresAt : ((Int × Int × Int × List (Int × Int × Int)) × Int × Unit → Option (List Int))) (_c_laws_eqIntS : ((List Int) × (List Int) × Unit → Option Bool)) (_c_laws_eqNet : ((Int × Int × Int × List (Int × Int × Int)) × (Int × Int × Int × List (Int × Int × Int)) × Unit → Option Bool)) (_m_laws_markNet : ((Int × Int × Int × List (Int × Int × Int)) → (Int × Unit) → Option ((Int × Int × Int × List (Int × Int × Int)) × Int))) (_m_laws_markIntS : ((List Int) → (Int × Unit) → Option ((List Int) × Int))) (_c_laws_heldIntS : ((List Int) × Int × Unit → Option Int)) (_N : Nat) : List (Nat × Loop (Ty.den .bool)) := []
theorem K9 (c_laws_szNet : ((Int × Int × Int × List (Int × Int × Int)) × Int × Unit → Option Int)) (c_laws_toNet : ((Int × Int × Int × List (Int × Int × Int)) × Unit → Option (Int × Int × Int × List (Int × Int × Int)))) (c_spec_WiresAt : ((Int × Int × Int × List (Int × Int × Int)) × Int × Unit → Option (List Int))) (c_impl_WiresAt : ((Int × Int × Int × List (Int × Int × Int)) × Int × Unit → Option (List Int))) (c_laws_eqIntS : ((List Int) × (List Int) × Unit → Option Bool)) (c_laws_eqNet : ((Int × Int × Int × List (Int × Int × Int)) × (Int × Int × Int × List (Int × Int × Int)) × Unit → Option Bool)) (m_laws_markNet : ((Int × Int × Int × List (Int × Int × Int)) → (Int × Unit) → Option ((Int × Int × Int × List (Int × Int × Int)) × Int))) (m_laws_markIntS : ((List Int) → (Int × Unit) → Option ((List Int) × Int))) (c_laws_heldIntS : ((List Int) × Int × Unit → Option Int)) (N : Nat) (a0 : (Int × Int × Int × List (Int × Int × Int))) (a1 : Int) : fnK N (E9 c_laws_szNet c_laws_toNet c_spec_WiresAt c_impl_WiresAt c_laws_eqIntS c_laws_eqNet m_laws_markNet m_laws_markIntS c_laws_heldIntS) Go.Proofs.Try.f9 [net, int] .bool (A9 c_laws_szNet c_laws_toNet c_spec_WiresAt c_impl_WiresAt c_laws_eqIntS c_laws_eqNet m_laws_markNet m_laws_markIntS c_laws_heldIntS N) (a0, a1, ()) = r_laws_FnExactWiresAt c_laws_szNet c_laws_toNet c_spec_WiresAt c_impl_WiresAt c_laws_eqIntS c_laws_eqNet m_laws_markNet m_laws_markIntS c_laws_heldIntS N a0 a1 := by kernel_rfl
theorem L9 (c_laws_szNet : ((Int × Int × Int × List (Int × Int × Int)) × Int × Unit → Option Int)) (c_laws_toNet : ((Int × Int × Int × List (Int × Int × Int)) × Unit → Option (Int × Int × Int × List (Int × Int × Int)))) (c_spec_WiresAt : ((Int × Int × Int × List (Int × Int × Int)) × Int × Unit → Option (List Int))) (c_impl_WiresAt : ((Int × Int × Int × List (Int × Int × Int)) × Int × Unit → Option (List Int))) (c_laws_eqIntS : ((List Int) × (List Int) × Unit → Option Bool)) (c_laws_eqNet : ((Int × Int × Int × List (Int × Int × Int)) × (Int × Int × Int × List (Int × Int × Int)) × Unit → Option Bool)) (m_laws_markNet : ((Int × Int × Int × List (Int × Int × Int)) → (Int × Unit) → Option ((Int × Int × Int × List (Int × Int × Int)) × Int))) (m_laws_markIntS : ((List Int) → (Int × Unit) → Option ((List Int) × Int))) (c_laws_heldIntS : ((List Int) × Int × Unit → Option Int)) (N : Nat) : LoopsOk N (E9 c_laws_szNet c_laws_toNet c_spec_WiresAt c_impl_WiresAt c_laws_eqIntS c_laws_eqNet m_laws_markNet m_laws_markIntS c_laws_heldIntS) (A9 c_laws_szNet c_laws_toNet c_spec_WiresAt c_impl_WiresAt c_laws_eqIntS c_laws_eqNet m_laws_markNet m_laws_markIntS c_laws_heldIntS N) Go.Proofs.Try.f9.ntmps (retOf (E9 c_laws_szNet c_laws_toNet c_spec_WiresAt c_impl_WiresAt c_laws_eqIntS c_laws_eqNet m_laws_markNet m_laws_markIntS c_laws_heldIntS) Go.Proofs.Try.f9 .bool) (loopsOf (Go.Proofs.Try.f9.body.getD .skip)) :=
  LoopsOk.of (l := []) (by kernel_rfl) .nil
theorem There9 : There Go.Proofs.Try.prog 9 := ⟨_, Go.Proofs.Try.func9, by kernel_rfl, by kernel_rfl⟩
theorem C9 {c_laws_szNet : ((Int × Int × Int × List (Int × Int × Int)) × Int × Unit → Option Int)} {c_laws_toNet : ((Int × Int × Int × List (Int × Int × Int)) × Unit → Option (Int × Int × Int × List (Int × Int × Int)))} {c_spec_WiresAt : ((Int × Int × Int × List (Int × Int × Int)) × Int × Unit → Option (List Int))} {c_impl_WiresAt : ((Int × Int × Int × List (Int × Int × Int)) × Int × Unit → Option (List Int))} {c_laws_eqIntS : ((List Int) × (List Int) × Unit → Option Bool)} {c_laws_eqNet : ((Int × Int × Int × List (Int × Int × Int)) × (Int × Int × Int × List (Int × Int × Int)) × Unit → Option Bool)} {m_laws_markNet : ((Int × Int × Int × List (Int × Int × Int)) → (Int × Unit) → Option ((Int × Int × Int × List (Int × Int × Int)) × Int))} {m_laws_markIntS : ((List Int) → (Int × Unit) → Option ((List Int) × Int))} {c_laws_heldIntS : ((List Int) × Int × Unit → Option Int)} (h_c_laws_szNet : Contract Go.Proofs.Try.prog 24 ⟨[net, int], int, c_laws_szNet⟩) (h_c_laws_toNet : Contract Go.Proofs.Try.prog 26 ⟨[net], net, c_laws_toNet⟩) (h_c_spec_WiresAt : Contract Go.Proofs.Try.prog 38 ⟨[net, int], (.slice int), c_spec_WiresAt⟩) (h_c_impl_WiresAt : Contract Go.Proofs.Try.prog 39 ⟨[net, int], (.slice int), c_impl_WiresAt⟩) (h_c_laws_eqIntS : Contract Go.Proofs.Try.prog 18 ⟨[(.slice int), (.slice int)], .bool, c_laws_eqIntS⟩) (h_c_laws_eqNet : Contract Go.Proofs.Try.prog 28 ⟨[net, net], .bool, c_laws_eqNet⟩) (h_m_laws_markNet : MutC Go.Proofs.Try.prog 40 ⟨net, 0, [int], some int, m_laws_markNet⟩) (h_m_laws_markIntS : MutC Go.Proofs.Try.prog 41 ⟨(.slice int), 0, [int], some int, m_laws_markIntS⟩) (h_c_laws_heldIntS : Contract Go.Proofs.Try.prog 42 ⟨[(.slice int), int], int, c_laws_heldIntS⟩) {f : ((Int × Int × Int × List (Int × Int × Int)) × Int × Unit → Option Bool)} (h : ∀ a0 a1 r, f (a0, a1, ()) = some r → ∃ N, r_laws_FnExactWiresAt c_laws_szNet c_laws_toNet c_spec_WiresAt c_impl_WiresAt c_laws_eqIntS c_laws_eqNet m_laws_markNet m_laws_markIntS c_laws_heldIntS N a0 a1 = some r) : Contract Go.Proofs.Try.prog 9 ⟨[net, int], .bool, f⟩ := by
  refine contract (E := E9 c_laws_szNet c_laws_toNet c_spec_WiresAt c_impl_WiresAt c_laws_eqIntS c_laws_eqNet m_laws_markNet m_laws_markIntS c_laws_heldIntS) (envOf table ⟨⟨h_c_laws_szNet, There24⟩, ⟨⟨h_c_laws_toNet, There26⟩, ⟨⟨h_c_spec_WiresAt, There38⟩, ⟨⟨h_c_impl_WiresAt, There39⟩, ⟨⟨h_c_laws_eqIntS, There18⟩, ⟨⟨h_c_laws_eqNet, There28⟩, ⟨⟨h_c_laws_heldIntS, There42⟩, trivial⟩⟩⟩⟩⟩⟩⟩ ⟨⟨h_m_laws_markNet, There40⟩, ⟨⟨h_m_laws_markIntS, There41⟩, trivial⟩⟩) mixed Go.Proofs.Try.func9 (c := Go.Proofs.Try.f9.body.getD .skip) (by kernel_rfl) (Nat.le_of_ble_eq_true (by kernel_rfl)) fun xs r hr => ?_
  obtain ⟨a0, a1, _⟩ := xs
  obtain ⟨N, hN⟩ := h _ _ r hr
  exact ⟨N, A9 c_laws_szNet c_laws_toNet c_spec_WiresAt c_impl_WiresAt c_laws_eqIntS c_laws_eqNet m_laws_markNet m_laws_markIntS c_laws_heldIntS N, L9 c_laws_szNet c_laws_toNet c_spec_WiresAt c_impl_WiresAt c_laws_eqIntS c_laws_eqNet m_laws_markNet m_laws_markIntS c_laws_heldIntS N, (K9 c_laws_szNet c_laws_toNet c_spec_WiresAt c_impl_WiresAt c_laws_eqIntS c_laws_eqNet m_laws_markNet m_laws_markIntS c_laws_heldIntS N a0 a1).trans hN⟩
theorem X9 : Contract Go.Proofs.Try.prog 9 ⟨[net, int], .bool, e_laws_FnExactWiresAt⟩ := C9 X24 X26 X38 X39 X18 X28 X40 X41 X42 fun _ _ _ h => ⟨N0, h⟩
-- laws_heldWireS
def E106 : Env := ⟨tys, [], [], []⟩
def A106 (N : Nat) : List (Nat × Loop (Ty.den int)) := [(0, ⟨[(0, .ro none (.slice (.pair (.num .i64) (.pair (.num .i64) (.num .i64))))), (1, .ro none (.num .i64)), (5, .ro none (.num .i64))], r_laws_heldWireS_L0 N⟩)]
theorem K106 (N : Nat) (a0 : (List (Int × Int × Int))) (a1 : Int) : fnK N (E106) Go.Proofs.Try.f106 [(.slice wire), int] int (A106 N) (a0, a1, ()) = r_laws_heldWireS N a0 a1 := by kernel_rfl
theorem L106 (N : Nat) : LoopsOk N (E106) (A106 N) Go.Proofs.Try.f106.ntmps (retOf (E106) Go.Proofs.Try.f106 int) (loopsOf (Go.Proofs.Try.f106.body.getD .skip)) :=
  LoopsOk.of (l := [(0, lb Go.Proofs.Try.f106 0)]) (by kernel_rfl) (.cons (L := ⟨[(0, .ro none (.slice (.pair (.num .i64) (.pair (.num .i64) (.num .i64))))), (1, .ro none (.num .i64)), (5, .ro none (.num .i64))], r_laws_heldWireS_L0 N⟩) (by kernel_rfl) (by intro s kc ke env; kernel_rfl) .nil)
theorem There106 : There Go.Proofs.Try.prog 106 := ⟨_, Go.Proofs.Try.func106, by kernel_rfl, by kernel_rfl⟩
theorem C106 {f : ((List (Int × Int × Int)) × Int × Unit → Option Int)} (h : ∀ a0 a1 r, f (a0, a1, ()) = some r → ∃ N, r_laws_heldWireS N a0 a1 = some r) : Contract Go.Proofs.Try.prog 106 ⟨[(.slice wire), int], int, f⟩ := by
  refine contract (E := E106) (envOf table trivial trivial) mixed Go.Proofs.Try.func106 (c := Go.Proofs.Try.f106.body.getD .skip) (by kernel_rfl) (Nat.le_of_ble_eq_true (by kernel_rfl)) fun xs r hr => ?_
  obtain ⟨a0, a1, _⟩ := xs
  obtain ⟨N, hN⟩ := h _ _ r hr
  exact ⟨N, A106 N, L106 N, (K106 N a0 a1).trans hN⟩
theorem X106 : Contract Go.Proofs.Try.prog 106 ⟨[(.slice wire), int], int, e_laws_heldWireS⟩ := C106 fun _ _ _ h => ⟨N0, h⟩
-- laws_heldNet
def E57 (c_laws_heldWireS : ((List (Int × Int × Int)) × Int × Unit → Option Int)) : Env := ⟨tys, [], [(106, ⟨[(.slice wire), int], int, c_laws_heldWireS⟩)], []⟩
def A57 (_c_laws_heldWireS : ((List (Int × Int × Int)) × Int × Unit → Option Int)) (_N : Nat) : List (Nat × Loop (Ty.den int)) := []
theorem K57 (c_laws_heldWireS : ((List (Int × Int × Int)) × Int × Unit → Option Int)) (N : Nat) (a0 : (Int × Int × Int × List (Int × Int × Int))) (a1 : Int) : fnK N (E57 c_laws_heldWireS) Go.Proofs.Try.f57 [net, int] int (A57 c_laws_heldWireS N) (a0, a1, ()) = r_laws_heldNet c_laws_heldWireS N a0 a1 := by kernel_rfl
theorem L57 (c_laws_heldWireS : ((List (Int × Int × Int)) × Int × Unit → Option Int)) (N : Nat) : LoopsOk N (E57 c_laws_heldWireS) (A57 c_laws_heldWireS N) Go.Proofs.Try.f57.ntmps (retOf (E57 c_laws_heldWireS) Go.Proofs.Try.f57 int) (loopsOf (Go.Proofs.Try.f57.body.getD .skip)) :=
  LoopsOk.of (l := []) (by kernel_rfl) .nil
theorem There57 : There Go.Proofs.Try.prog 57 := ⟨_, Go.Proofs.Try.func57, by kernel_rfl, by kernel_rfl⟩
theorem C57 {c_laws_heldWireS : ((List (Int × Int × Int)) × Int × Unit → Option Int)} (h_c_laws_heldWireS : Contract Go.Proofs.Try.prog 106 ⟨[(.slice wire), int], int, c_laws_heldWireS⟩) {f : ((Int × Int × Int × List (Int × Int × Int)) × Int × Unit → Option Int)} (h : ∀ a0 a1 r, f (a0, a1, ()) = some r → ∃ N, r_laws_heldNet c_laws_heldWireS N a0 a1 = some r) : Contract Go.Proofs.Try.prog 57 ⟨[net, int], int, f⟩ := by
  refine contract (E := E57 c_laws_heldWireS) (envOf table ⟨⟨h_c_laws_heldWireS, There106⟩, trivial⟩ trivial) mixed Go.Proofs.Try.func57 (c := Go.Proofs.Try.f57.body.getD .skip) (by kernel_rfl) (Nat.le_of_ble_eq_true (by kernel_rfl)) fun xs r hr => ?_
  obtain ⟨a0, a1, _⟩ := xs
  obtain ⟨N, hN⟩ := h _ _ r hr
  exact ⟨N, A57 c_laws_heldWireS N, L57 c_laws_heldWireS N, (K57 c_laws_heldWireS N a0 a1).trans hN⟩
theorem X57 : Contract Go.Proofs.Try.prog 57 ⟨[net, int], int, e_laws_heldNet⟩ := C57 X106 fun _ _ _ h => ⟨N0, h⟩
end Go.Sx.S
