/- The functions keep their contracts. Conditions: none. -/
import Derived.Test.YtpdafmbedgkccaaRes
import Derived.Deep.RegionWith
import Derived.Shelf.Slices.Empties
import Derived.Shelf.Slices.Delete
import Derived.Shelf.Slices.Reverse
import Derived.Test.YtpdafmbedgkccaaProg
/- The functions of the program compute what was printed. Conditions: none. -/
namespace Go.Sx.S
open Go Go.Sx Go.Sx.R
def int : Ty := .num .i64
def wire : Ty := .pair int (.pair int int)
def net : Ty := .pair int (.pair int (.pair int (.slice wire)))
def ratio : Ty := .pair int int
def fault : Ty := .pair int int

def tys : List (Nat × Ty) := [(3, int), (4, .bool), (5, (.num .u8)), (21, (.num .i32)), (22, (.slice wire)), (24, net), (27, ratio), (30, (.slice wire)), (32, net), (38, (.slice int)), (46, (.slice (.slice ratio))), (48, (.slice fault)), (50, (.slice (.slice ratio))), (61, fault), (62, fault), (70, (.slice (.slice int))), (75, (.slice (.num .u8))), (79, (.slice ratio)), (84, wire), (104, (.slice ratio)), (116, (.slice (.slice (.slice int)))), (137, wire), (139, (.slice .bool)), (141, (.num .u64)), (149, ratio), (180, (.num .u32))]
theorem table (sp : List (Nat × FnSpec)) (mu : List (Nat × MutSpec)) : tableB Go.Proofs.Try.prog ⟨tys, [], sp, mu⟩ tys = true := by kernel_rfl
theorem mixed : Go.Proofs.Try.prog.follows .mixedOrders = true := by kernel_rfl
-- laws_szIntS
def E107 : Env := ⟨tys, [], [], []⟩
def A107 (_N : Nat) : List (Nat × Loop (Ty.den int)) := []
theorem K107 (N : Nat) (a0 : (List Int)) (a1 : Int) : fnK N (E107) Go.Proofs.Try.f107 [(.slice int), int] int (A107 N) (a0, a1, ()) = r_laws_szIntS N a0 a1 := by kernel_rfl
theorem L107 (N : Nat) : LoopsOk N (E107) (A107 N) Go.Proofs.Try.f107.ntmps (retOf (E107) Go.Proofs.Try.f107 int) (loopsOf (Go.Proofs.Try.f107.body.getD .skip)) :=
  LoopsOk.of (l := []) (by kernel_rfl) .nil
theorem There107 : There Go.Proofs.Try.prog 107 := ⟨_, Go.Proofs.Try.func107, by kernel_rfl, by kernel_rfl⟩
theorem C107 {f : ((List Int) × Int × Unit → Option Int)} (h : ∀ a0 a1 r, f (a0, a1, ()) = some r → ∃ N, r_laws_szIntS N a0 a1 = some r) : Contract Go.Proofs.Try.prog 107 ⟨[(.slice int), int], int, f⟩ := by
  refine contract (E := E107) (envOf table trivial trivial) mixed Go.Proofs.Try.func107 (c := Go.Proofs.Try.f107.body.getD .skip) (by kernel_rfl) (Nat.le_of_ble_eq_true (by kernel_rfl)) fun xs r hr => ?_
  obtain ⟨a0, a1, _⟩ := xs
  obtain ⟨N, hN⟩ := h _ _ r hr
  exact ⟨N, A107 N, L107 N, (K107 N a0 a1).trans hN⟩
theorem X107 : Contract Go.Proofs.Try.prog 107 ⟨[(.slice int), int], int, e_laws_szIntS⟩ := C107 fun _ _ _ h => ⟨N0, h⟩
-- laws_szIntSS
def E47 (c_laws_szIntS : ((List Int) × Int × Unit → Option Int)) : Env := ⟨tys, [], [(107, ⟨[(.slice int), int], int, c_laws_szIntS⟩)], []⟩
def A47 (c_laws_szIntS : ((List Int) × Int × Unit → Option Int)) (N : Nat) : List (Nat × Loop (Ty.den int)) := [(0, ⟨[(0, .ro none (.slice (.slice (.num .i64)))), (1, .ro none (.num .i64)), (5, .ro none (.num .i64))], r_laws_szIntSS_L0 c_laws_szIntS N⟩)]
theorem K47 (c_laws_szIntS : ((List Int) × Int × Unit → Option Int)) (N : Nat) (a0 : (List (List Int))) (a1 : Int) : fnK N (E47 c_laws_szIntS) Go.Proofs.Try.f47 [(.slice (.slice int)), int] int (A47 c_laws_szIntS N) (a0, a1, ()) = r_laws_szIntSS c_laws_szIntS N a0 a1 := by kernel_rfl
theorem L47 (c_laws_szIntS : ((List Int) × Int × Unit → Option Int)) (N : Nat) : LoopsOk N (E47 c_laws_szIntS) (A47 c_laws_szIntS N) Go.Proofs.Try.f47.ntmps (retOf (E47 c_laws_szIntS) Go.Proofs.Try.f47 int) (loopsOf (Go.Proofs.Try.f47.body.getD .skip)) :=
  LoopsOk.of (l := [(0, lb Go.Proofs.Try.f47 0)]) (by kernel_rfl) (.cons (L := ⟨[(0, .ro none (.slice (.slice (.num .i64)))), (1, .ro none (.num .i64)), (5, .ro none (.num .i64))], r_laws_szIntSS_L0 c_laws_szIntS N⟩) (by kernel_rfl) (by intro s kc ke env; kernel_rfl) .nil)
theorem There47 : There Go.Proofs.Try.prog 47 := ⟨_, Go.Proofs.Try.func47, by kernel_rfl, by kernel_rfl⟩
theorem C47 {c_laws_szIntS : ((List Int) × Int × Unit → Option Int)} (h_c_laws_szIntS : Contract Go.Proofs.Try.prog 107 ⟨[(.slice int), int], int, c_laws_szIntS⟩) {f : ((List (List Int)) × Int × Unit → Option Int)} (h : ∀ a0 a1 r, f (a0, a1, ()) = some r → ∃ N, r_laws_szIntSS c_laws_szIntS N a0 a1 = some r) : Contract Go.Proofs.Try.prog 47 ⟨[(.slice (.slice int)), int], int, f⟩ := by
  refine contract (E := E47 c_laws_szIntS) (envOf table ⟨⟨h_c_laws_szIntS, There107⟩, trivial⟩ trivial) mixed Go.Proofs.Try.func47 (c := Go.Proofs.Try.f47.body.getD .skip) (by kernel_rfl) (Nat.le_of_ble_eq_true (by kernel_rfl)) fun xs r hr => ?_
  obtain ⟨a0, a1, _⟩ := xs
  obtain ⟨N, hN⟩ := h _ _ r hr
  exact ⟨N, A47 c_laws_szIntS N, L47 c_laws_szIntS N, (K47 c_laws_szIntS N a0 a1).trans hN⟩
theorem X47 : Contract Go.Proofs.Try.prog 47 ⟨[(.slice (.slice int)), int], int, e_laws_szIntSS⟩ := C47 X107 fun _ _ _ h => ⟨N0, h⟩
-- laws_toIntS
def E24 : Env := ⟨tys, [], [], []⟩
def A24 (N : Nat) : List (Nat × Loop (Ty.den (.slice int))) := [(0, ⟨[(0, .ro none (.slice (.num .i64))), (3, .own (.slice (.num .i64))), (4, .ro none (.num .i64))], r_laws_toIntS_L0 N⟩)]
theorem K24 (N : Nat) (a0 : (List Int)) : fnK N (E24) Go.Proofs.Try.f24 [(.slice int)] (.slice int) (A24 N) (a0, ()) = r_laws_toIntS N a0 := by kernel_rfl
theorem L24 (N : Nat) : LoopsOk N (E24) (A24 N) Go.Proofs.Try.f24.ntmps (retOf (E24) Go.Proofs.Try.f24 (.slice int)) (loopsOf (Go.Proofs.Try.f24.body.getD .skip)) :=
  LoopsOk.of (l := [(0, lb Go.Proofs.Try.f24 0)]) (by kernel_rfl) (.cons (L := ⟨[(0, .ro none (.slice (.num .i64))), (3, .own (.slice (.num .i64))), (4, .ro none (.num .i64))], r_laws_toIntS_L0 N⟩) (by kernel_rfl) (by intro s kc ke env; kernel_rfl) .nil)
theorem There24 : There Go.Proofs.Try.prog 24 := ⟨_, Go.Proofs.Try.func24, by kernel_rfl, by kernel_rfl⟩
theorem C24 {f : ((List Int) × Unit → Option (List Int))} (h : ∀ a0 r, f (a0, ()) = some r → ∃ N, r_laws_toIntS N a0 = some r) : Contract Go.Proofs.Try.prog 24 ⟨[(.slice int)], (.slice int), f⟩ := by
  refine contract (E := E24) (envOf table trivial trivial) mixed Go.Proofs.Try.func24 (c := Go.Proofs.Try.f24.body.getD .skip) (by kernel_rfl) (Nat.le_of_ble_eq_true (by kernel_rfl)) fun xs r hr => ?_
  obtain ⟨a0, _⟩ := xs
  obtain ⟨N, hN⟩ := h _ r hr
  exact ⟨N, A24 N, L24 N, (K24 N a0).trans hN⟩
theorem X24 : Contract Go.Proofs.Try.prog 24 ⟨[(.slice int)], (.slice int), e_laws_toIntS⟩ := C24 fun _ _ h => ⟨N0, h⟩
-- laws_toIntSS
def E49 (c_laws_toIntS : ((List Int) × Unit → Option (List Int))) : Env := ⟨tys, [], [(24, ⟨[(.slice int)], (.slice int), c_laws_toIntS⟩)], []⟩
def A49 (c_laws_toIntS : ((List Int) × Unit → Option (List Int))) (N : Nat) : List (Nat × Loop (Ty.den (.slice (.slice int)))) := [(0, ⟨[(0, .ro none (.slice (.slice (.num .i64)))), (3, .own (.slice (.slice (.num .i64)))), (4, .ro none (.num .i64))], r_laws_toIntSS_L0 c_laws_toIntS N⟩)]
theorem K49 (c_laws_toIntS : ((List Int) × Unit → Option (List Int))) (N : Nat) (a0 : (List (List Int))) : fnK N (E49 c_laws_toIntS) Go.Proofs.Try.f49 [(.slice (.slice int))] (.slice (.slice int)) (A49 c_laws_toIntS N) (a0, ()) = r_laws_toIntSS c_laws_toIntS N a0 := by kernel_rfl
theorem L49 (c_laws_toIntS : ((List Int) × Unit → Option (List Int))) (N : Nat) : LoopsOk N (E49 c_laws_toIntS) (A49 c_laws_toIntS N) Go.Proofs.Try.f49.ntmps (retOf (E49 c_laws_toIntS) Go.Proofs.Try.f49 (.slice (.slice int))) (loopsOf (Go.Proofs.Try.f49.body.getD .skip)) :=
  LoopsOk.of (l := [(0, lb Go.Proofs.Try.f49 0)]) (by kernel_rfl) (.cons (L := ⟨[(0, .ro none (.slice (.slice (.num .i64)))), (3, .own (.slice (.slice (.num .i64)))), (4, .ro none (.num .i64))], r_laws_toIntSS_L0 c_laws_toIntS N⟩) (by kernel_rfl) (by intro s kc ke env; kernel_rfl) .nil)
theorem There49 : There Go.Proofs.Try.prog 49 := ⟨_, Go.Proofs.Try.func49, by kernel_rfl, by kernel_rfl⟩
theorem C49 {c_laws_toIntS : ((List Int) × Unit → Option (List Int))} (h_c_laws_toIntS : Contract Go.Proofs.Try.prog 24 ⟨[(.slice int)], (.slice int), c_laws_toIntS⟩) {f : ((List (List Int)) × Unit → Option (List (List Int)))} (h : ∀ a0 r, f (a0, ()) = some r → ∃ N, r_laws_toIntSS c_laws_toIntS N a0 = some r) : Contract Go.Proofs.Try.prog 49 ⟨[(.slice (.slice int))], (.slice (.slice int)), f⟩ := by
  refine contract (E := E49 c_laws_toIntS) (envOf table ⟨⟨h_c_laws_toIntS, There24⟩, trivial⟩ trivial) mixed Go.Proofs.Try.func49 (c := Go.Proofs.Try.f49.body.getD .skip) (by kernel_rfl) (Nat.le_of_ble_eq_true (by kernel_rfl)) fun xs r hr => ?_
  obtain ⟨a0, _⟩ := xs
  obtain ⟨N, hN⟩ := h _ r hr
  exact ⟨N, A49 c_laws_toIntS N, L49 c_laws_toIntS N, (K49 c_laws_toIntS N a0).trans hN⟩
theorem X49 : Contract Go.Proofs.Try.prog 49 ⟨[(.slice (.slice int))], (.slice (.slice int)), e_laws_toIntSS⟩ := C49 X24 fun _ _ h => ⟨N0, h⟩
-- spec_l01In
def E70 : Env := ⟨tys, [], [], []⟩
def A70 (_N : Nat) : List (Nat × Loop (Ty.den .bool)) := []
theorem K70 (N : Nat) (a0 : Int) (a1 : Int) (a2 : Int) : fnK N (E70) Go.Proofs.Try.f70 [int, int, int] .bool (A70 N) (a0, a1, a2, ()) = r_spec_l01In N a0 a1 a2 := by kernel_rfl
theorem L70 (N : Nat) : LoopsOk N (E70) (A70 N) Go.Proofs.Try.f70.ntmps (retOf (E70) Go.Proofs.Try.f70 .bool) (loopsOf (Go.Proofs.Try.f70.body.getD .skip)) :=
  LoopsOk.of (l := []) (by kernel_rfl) .nil
theorem There70 : There Go.Proofs.Try.prog 70 := ⟨_, Go.Proofs.Try.func70, by kernel_rfl, by kernel_rfl⟩
theorem C70 {f : (Int × Int × Int × Unit → Option Bool)} (h : ∀ a0 a1 a2 r, f (a0, a1, a2, ()) = some r → ∃ N, r_spec_l01In N a0 a1 a2 = some r) : Contract Go.Proofs.Try.prog 70 ⟨[int, int, int], .bool, f⟩ := by
  refine contract (E := E70) (envOf table trivial trivial) mixed Go.Proofs.Try.func70 (c := Go.Proofs.Try.f70.body.getD .skip) (by kernel_rfl) (Nat.le_of_ble_eq_true (by kernel_rfl)) fun xs r hr => ?_
  obtain ⟨a0, a1, a2, _⟩ := xs
  obtain ⟨N, hN⟩ := h _ _ _ r hr
  exact ⟨N, A70 N, L70 N, (K70 N a0 a1 a2).trans hN⟩
theorem X70 : Contract Go.Proofs.Try.prog 70 ⟨[int, int, int], .bool, e_spec_l01In⟩ := C70 fun _ _ _ _ h => ⟨N0, h⟩
-- spec_l04Matrix
def E155 (c_spec_l01In : (Int × Int × Int × Unit → Option Bool)) : Env := ⟨tys, [], [(70, ⟨[int, int, int], .bool, c_spec_l01In⟩)], []⟩
def A155 (c_spec_l01In : (Int × Int × Int × Unit → Option Bool)) (N : Nat) : List (Nat × Loop (Ty.den .bool)) := [(0, ⟨[(0, .ro none (.slice (.slice (.num .i64)))), (10, .ro none (.slice (.slice (.num .i64)))), (11, .ro none (.num .i64)), (12, .ro none (.num .i64))], r_spec_l04Matrix_L0 c_spec_l01In N⟩), (2, ⟨[(0, .ro none (.slice (.slice (.num .i64)))), (10, .ro none (.slice (.slice (.num .i64)))), (11, .ro none (.num .i64)), (12, .ro none (.num .i64)), (21, .ro none (.slice (.num .i64))), (22, .ro none (.num .i64)), (23, .ro none (.num .i64))], r_spec_l04Matrix_L2 c_spec_l01In N⟩)]
theorem K155 (c_spec_l01In : (Int × Int × Int × Unit → Option Bool)) (N : Nat) (a0 : (List (List Int))) : fnK N (E155 c_spec_l01In) Go.Proofs.Try.f155 [(.slice (.slice int))] .bool (A155 c_spec_l01In N) (a0, ()) = r_spec_l04Matrix c_spec_l01In N a0 := by kernel_rfl
theorem L155 (c_spec_l01In : (Int × Int × Int × Unit → Option Bool)) (N : Nat) : LoopsOk N (E155 c_spec_l01In) (A155 c_spec_l01In N) Go.Proofs.Try.f155.ntmps (retOf (E155 c_spec_l01In) Go.Proofs.Try.f155 .bool) (loopsOf (Go.Proofs.Try.f155.body.getD .skip)) :=
  LoopsOk.of (l := [(0, lb Go.Proofs.Try.f155 0), (2, lb Go.Proofs.Try.f155 1)]) (by kernel_rfl) (.cons (L := ⟨[(0, .ro none (.slice (.slice (.num .i64)))), (10, .ro none (.slice (.slice (.num .i64)))), (11, .ro none (.num .i64)), (12, .ro none (.num .i64))], r_spec_l04Matrix_L0 c_spec_l01In N⟩) (by kernel_rfl) (by intro s kc ke env; kernel_rfl) (.cons (L := ⟨[(0, .ro none (.slice (.slice (.num .i64)))), (10, .ro none (.slice (.slice (.num .i64)))), (11, .ro none (.num .i64)), (12, .ro none (.num .i64)), (21, .ro none (.slice (.num .i64))), (22, .ro none (.num .i64)), (23, .ro none (.num .i64))], r_spec_l04Matrix_L2 c_spec_l01In N⟩) (by kernel_rfl) (by intro s kc ke env; kernel_rfl) .nil))
theorem There155 : There Go.Proofs.Try.prog 155 := ⟨_, Go.Proofs.Try.func155, by kernel_rfl, by kernel_rfl⟩
theorem C155 {c_spec_l01In : (Int × Int × Int × Unit → Option Bool)} (h_c_spec_l01In : Contract Go.Proofs.Try.prog 70 ⟨[int, int, int], .bool, c_spec_l01In⟩) {f : ((List (List Int)) × Unit → Option Bool)} (h : ∀ a0 r, f (a0, ()) = some r → ∃ N, r_spec_l04Matrix c_spec_l01In N a0 = some r) : Contract Go.Proofs.Try.prog 155 ⟨[(.slice (.slice int))], .bool, f⟩ := by
  refine contract (E := E155 c_spec_l01In) (envOf table ⟨⟨h_c_spec_l01In, There70⟩, trivial⟩ trivial) mixed Go.Proofs.Try.func155 (c := Go.Proofs.Try.f155.body.getD .skip) (by kernel_rfl) (Nat.le_of_ble_eq_true (by kernel_rfl)) fun xs r hr => ?_
  obtain ⟨a0, _⟩ := xs
  obtain ⟨N, hN⟩ := h _ r hr
  exact ⟨N, A155 c_spec_l01In N, L155 c_spec_l01In N, (K155 c_spec_l01In N a0).trans hN⟩
theorem X155 : Contract Go.Proofs.Try.prog 155 ⟨[(.slice (.slice int))], .bool, e_spec_l04Matrix⟩ := C155 X70 fun _ _ h => ⟨N0, h⟩
-- spec_IsWeightMatrix
def E108 (c_spec_l01In : (Int × Int × Int × Unit → Option Bool)) (c_spec_l04Matrix : ((List (List Int)) × Unit → Option Bool)) : Env := ⟨tys, [], [(70, ⟨[int, int, int], .bool, c_spec_l01In⟩), (155, ⟨[(.slice (.slice int))], .bool, c_spec_l04Matrix⟩)], []⟩
def A108 (c_spec_l01In : (Int × Int × Int × Unit → Option Bool)) (c_spec_l04Matrix : ((List (List Int)) × Unit → Option Bool)) (N : Nat) : List (Nat × Loop (Ty.den .bool)) := [(0, ⟨[(0, .ro none (.slice (.slice (.num .i64)))), (17, .ro none (.slice (.slice (.num .i64)))), (18, .ro none (.num .i64)), (19, .ro none (.num .i64))], r_spec_IsWeightMatrix_L0 c_spec_l01In c_spec_l04Matrix N⟩), (2, ⟨[(0, .ro none (.slice (.slice (.num .i64)))), (3, .ro none (.num .i64)), (5, .ro none (.num .i64)), (17, .ro none (.slice (.slice (.num .i64)))), (18, .ro none (.num .i64)), (19, .ro none (.num .i64)), (24, .ro none (.slice (.num .i64))), (25, .ro none (.num .i64)), (26, .ro none (.num .i64))], r_spec_IsWeightMatrix_L2 c_spec_l01In c_spec_l04Matrix N⟩)]
theorem K108 (c_spec_l01In : (Int × Int × Int × Unit → Option Bool)) (c_spec_l04Matrix : ((List (List Int)) × Unit → Option Bool)) (N : Nat) (a0 : (List (List Int))) : fnK N (E108 c_spec_l01In c_spec_l04Matrix) Go.Proofs.Try.f108 [(.slice (.slice int))] .bool (A108 c_spec_l01In c_spec_l04Matrix N) (a0, ()) = r_spec_IsWeightMatrix c_spec_l01In c_spec_l04Matrix N a0 := by kernel_rfl
theorem L108 (c_spec_l01In : (Int × Int × Int × Unit → Option Bool)) (c_spec_l04Matrix : ((List (List Int)) × Unit → Option Bool)) (N : Nat) : LoopsOk N (E108 c_spec_l01In c_spec_l04Matrix) (A108 c_spec_l01In c_spec_l04Matrix N) Go.Proofs.Try.f108.ntmps (retOf (E108 c_spec_l01In c_spec_l04Matrix) Go.Proofs.Try.f108 .bool) (loopsOf (Go.Proofs.Try.f108.body.getD .skip)) :=
  LoopsOk.of (l := [(0, lb Go.Proofs.Try.f108 0), (2, lb Go.Proofs.Try.f108 1)]) (by kernel_rfl) (.cons (L := ⟨[(0, .ro none (.slice (.slice (.num .i64)))), (17, .ro none (.slice (.slice (.num .i64)))), (18, .ro none (.num .i64)), (19, .ro none (.num .i64))], r_spec_IsWeightMatrix_L0 c_spec_l01In c_spec_l04Matrix N⟩) (by kernel_rfl) (by intro s kc ke env; kernel_rfl) (.cons (L := ⟨[(0, .ro none (.slice (.slice (.num .i64)))), (3, .ro none (.num .i64)), (5, .ro none (.num .i64)), (17, .ro none (.slice (.slice (.num .i64)))), (18, .ro none (.num .i64)), (19, .ro none (.num .i64)), (24, .ro none (.slice (.num .i64))), (25, .ro none (.num .i64)), (26, .ro none (.num .i64))], r_spec_IsWeightMatrix_L2 c_spec_l01In c_spec_l04Matrix N⟩) (by kernel_rfl) (by intro s kc ke env; kernel_rfl) .nil))
theorem There108 : There Go.Proofs.Try.prog 108 := ⟨_, Go.Proofs.Try.func108, by kernel_rfl, by kernel_rfl⟩
theorem C108 {c_spec_l01In : (Int × Int × Int × Unit → Option Bool)} {c_spec_l04Matrix : ((List (List Int)) × Unit → Option Bool)} (h_c_spec_l01In : Contract Go.Proofs.Try.prog 70 ⟨[int, int, int], .bool, c_spec_l01In⟩) (h_c_spec_l04Matrix : Contract Go.Proofs.Try.prog 155 ⟨[(.slice (.slice int))], .bool, c_spec_l04Matrix⟩) {f : ((List (List Int)) × Unit → Option Bool)} (h : ∀ a0 r, f (a0, ()) = some r → ∃ N, r_spec_IsWeightMatrix c_spec_l01In c_spec_l04Matrix N a0 = some r) : Contract Go.Proofs.Try.prog 108 ⟨[(.slice (.slice int))], .bool, f⟩ := by
  refine contract (E := E108 c_spec_l01In c_spec_l04Matrix) (envOf table ⟨⟨h_c_spec_l01In, There70⟩, ⟨⟨h_c_spec_l04Matrix, There155⟩, trivial⟩⟩ trivial) mixed Go.Proofs.Try.func108 (c := Go.Proofs.Try.f108.body.getD .skip) (by kernel_rfl) (Nat.le_of_ble_eq_true (by kernel_rfl)) fun xs r hr => ?_
  obtain ⟨a0, _⟩ := xs
  obtain ⟨N, hN⟩ := h _ r hr
  exact ⟨N, A108 c_spec_l01In c_spec_l04Matrix N, L108 c_spec_l01In c_spec_l04Matrix N, (K108 c_spec_l01In c_spec_l04Matrix N a0).trans hN⟩
theorem X108 : Contract Go.Proofs.Try.prog 108 ⟨[(.slice (.slice int))], .bool, e_spec_IsWeightMatrix⟩ := C108 X70 X155 fun _ _ h => ⟨N0, h⟩
-- spec_l03Has
def E171 : Env := ⟨tys, [], [], []⟩
def A171 (N : Nat) : List (Nat × Loop (Ty.den .bool)) := [(0, ⟨[(1, .ro none (.num .i64)), (7, .ro none (.slice (.num .i64))), (8, .ro none (.num .i64)), (9, .ro none (.num .i64))], r_spec_l03Has_L0 N⟩)]
theorem K171 (N : Nat) (a0 : (List Int)) (a1 : Int) : fnK N (E171) Go.Proofs.Try.f171 [(.slice int), int] .bool (A171 N) (a0, a1, ()) = r_spec_l03Has N a0 a1 := by kernel_rfl
theorem L171 (N : Nat) : LoopsOk N (E171) (A171 N) Go.Proofs.Try.f171.ntmps (retOf (E171) Go.Proofs.Try.f171 .bool) (loopsOf (Go.Proofs.Try.f171.body.getD .skip)) :=
  LoopsOk.of (l := [(0, lb Go.Proofs.Try.f171 0)]) (by kernel_rfl) (.cons (L := ⟨[(1, .ro none (.num .i64)), (7, .ro none (.slice (.num .i64))), (8, .ro none (.num .i64)), (9, .ro none (.num .i64))], r_spec_l03Has_L0 N⟩) (by kernel_rfl) (by intro s kc ke env; kernel_rfl) .nil)
theorem There171 : There Go.Proofs.Try.prog 171 := ⟨_, Go.Proofs.Try.func171, by kernel_rfl, by kernel_rfl⟩
theorem C171 {f : ((List Int) × Int × Unit → Option Bool)} (h : ∀ a0 a1 r, f (a0, a1, ()) = some r → ∃ N, r_spec_l03Has N a0 a1 = some r) : Contract Go.Proofs.Try.prog 171 ⟨[(.slice int), int], .bool, f⟩ := by
  refine contract (E := E171) (envOf table trivial trivial) mixed Go.Proofs.Try.func171 (c := Go.Proofs.Try.f171.body.getD .skip) (by kernel_rfl) (Nat.le_of_ble_eq_true (by kernel_rfl)) fun xs r hr => ?_
  obtain ⟨a0, a1, _⟩ := xs
  obtain ⟨N, hN⟩ := h _ _ r hr
  exact ⟨N, A171 N, L171 N, (K171 N a0 a1).trans hN⟩
theorem X171 : Contract Go.Proofs.Try.prog 171 ⟨[(.slice int), int], .bool, e_spec_l03Has⟩ := C171 fun _ _ _ h => ⟨N0, h⟩
-- spec_l09Lists
def E156 (c_spec_l03Has : ((List Int) × Int × Unit → Option Bool)) : Env := ⟨tys, [], [(171, ⟨[(.slice int), int], .bool, c_spec_l03Has⟩)], []⟩
def A156 (c_spec_l03Has : ((List Int) × Int × Unit → Option Bool)) (N : Nat) : List (Nat × Loop (Ty.den (.slice (.slice int)))) := [(0, ⟨[(0, .ro none (.num .i64)), (1, .ro none (.num .i64)), (5, .own (.slice (.slice (.num .i64)))), (6, .ro none (.num .i64))], r_spec_l09Lists_L0 c_spec_l03Has N⟩), (2, ⟨[(0, .ro none (.num .i64)), (1, .ro none (.num .i64)), (6, .ro none (.num .i64)), (7, .own (.slice (.slice (.num .i64)))), (19, .ro (some 5) (.slice (.slice (.num .i64)))), (20, .ro none (.num .i64)), (21, .ro none (.num .i64))], r_spec_l09Lists_L2 c_spec_l03Has N⟩), (4, ⟨[(0, .ro none (.num .i64)), (1, .ro none (.num .i64)), (6, .ro none (.num .i64)), (7, .own (.slice (.slice (.num .i64)))), (9, .ro (some 5) (.slice (.num .i64))), (10, .ro none (.num .i64)), (19, .ro (some 5) (.slice (.slice (.num .i64)))), (20, .ro none (.num .i64)), (21, .ro none (.num .i64))], r_spec_l09Lists_L4 c_spec_l03Has N⟩)]
theorem K156 (c_spec_l03Has : ((List Int) × Int × Unit → Option Bool)) (N : Nat) (a0 : Int) (a1 : Int) : fnK N (E156 c_spec_l03Has) Go.Proofs.Try.f156 [int, int] (.slice (.slice int)) (A156 c_spec_l03Has N) (a0, a1, ()) = r_spec_l09Lists c_spec_l03Has N a0 a1 := by kernel_rfl
theorem L156 (c_spec_l03Has : ((List Int) × Int × Unit → Option Bool)) (N : Nat) : LoopsOk N (E156 c_spec_l03Has) (A156 c_spec_l03Has N) Go.Proofs.Try.f156.ntmps (retOf (E156 c_spec_l03Has) Go.Proofs.Try.f156 (.slice (.slice int))) (loopsOf (Go.Proofs.Try.f156.body.getD .skip)) :=
  LoopsOk.of (l := [(0, lb Go.Proofs.Try.f156 0), (2, lb Go.Proofs.Try.f156 1), (4, lb Go.Proofs.Try.f156 2)]) (by kernel_rfl) (.cons (L := ⟨[(0, .ro none (.num .i64)), (1, .ro none (.num .i64)), (5, .own (.slice (.slice (.num .i64)))), (6, .ro none (.num .i64))], r_spec_l09Lists_L0 c_spec_l03Has N⟩) (by kernel_rfl) (by intro s kc ke env; kernel_rfl) (.cons (L := ⟨[(0, .ro none (.num .i64)), (1, .ro none (.num .i64)), (6, .ro none (.num .i64)), (7, .own (.slice (.slice (.num .i64)))), (19, .ro (some 5) (.slice (.slice (.num .i64)))), (20, .ro none (.num .i64)), (21, .ro none (.num .i64))], r_spec_l09Lists_L2 c_spec_l03Has N⟩) (by kernel_rfl) (by intro s kc ke env; kernel_rfl) (.cons (L := ⟨[(0, .ro none (.num .i64)), (1, .ro none (.num .i64)), (6, .ro none (.num .i64)), (7, .own (.slice (.slice (.num .i64)))), (9, .ro (some 5) (.slice (.num .i64))), (10, .ro none (.num .i64)), (19, .ro (some 5) (.slice (.slice (.num .i64)))), (20, .ro none (.num .i64)), (21, .ro none (.num .i64))], r_spec_l09Lists_L4 c_spec_l03Has N⟩) (by kernel_rfl) (by intro s kc ke env; kernel_rfl) .nil)))
theorem There156 : There Go.Proofs.Try.prog 156 := ⟨_, Go.Proofs.Try.func156, by kernel_rfl, by kernel_rfl⟩
theorem C156 {c_spec_l03Has : ((List Int) × Int × Unit → Option Bool)} (h_c_spec_l03Has : Contract Go.Proofs.Try.prog 171 ⟨[(.slice int), int], .bool, c_spec_l03Has⟩) {f : (Int × Int × Unit → Option (List (List Int)))} (h : ∀ a0 a1 r, f (a0, a1, ()) = some r → ∃ N, r_spec_l09Lists c_spec_l03Has N a0 a1 = some r) : Contract Go.Proofs.Try.prog 156 ⟨[int, int], (.slice (.slice int)), f⟩ := by
  refine contract (E := E156 c_spec_l03Has) (envOf table ⟨⟨h_c_spec_l03Has, There171⟩, trivial⟩ trivial) mixed Go.Proofs.Try.func156 (c := Go.Proofs.Try.f156.body.getD .skip) (by kernel_rfl) (Nat.le_of_ble_eq_true (by kernel_rfl)) fun xs r hr => ?_
  obtain ⟨a0, a1, _⟩ := xs
  obtain ⟨N, hN⟩ := h _ _ r hr
  exact ⟨N, A156 c_spec_l03Has N, L156 c_spec_l03Has N, (K156 c_spec_l03Has N a0 a1).trans hN⟩
theorem X156 : Contract Go.Proofs.Try.prog 156 ⟨[int, int], (.slice (.slice int)), e_spec_l09Lists⟩ := C156 X171 fun _ _ _ h => ⟨N0, h⟩
-- spec_l09Rim
def E181 : Env := ⟨tys, [], [], []⟩
def A181 (N : Nat) : List (Nat × Loop (Ty.den (.slice int))) := [(0, ⟨[(1, .ro none (.slice (.num .i64))), (5, .own (.slice (.num .i64))), (6, .ro none (.num .i64))], r_spec_l09Rim_L0 N⟩)]
theorem K181 (N : Nat) (a0 : (List Int)) (a1 : (List Int)) : fnK N (E181) Go.Proofs.Try.f181 [(.slice int), (.slice int)] (.slice int) (A181 N) (a0, a1, ()) = r_spec_l09Rim N a0 a1 := by kernel_rfl
theorem L181 (N : Nat) : LoopsOk N (E181) (A181 N) Go.Proofs.Try.f181.ntmps (retOf (E181) Go.Proofs.Try.f181 (.slice int)) (loopsOf (Go.Proofs.Try.f181.body.getD .skip)) :=
  LoopsOk.of (l := [(0, lb Go.Proofs.Try.f181 0)]) (by kernel_rfl) (.cons (L := ⟨[(1, .ro none (.slice (.num .i64))), (5, .own (.slice (.num .i64))), (6, .ro none (.num .i64))], r_spec_l09Rim_L0 N⟩) (by kernel_rfl) (by intro s kc ke env; kernel_rfl) .nil)
theorem There181 : There Go.Proofs.Try.prog 181 := ⟨_, Go.Proofs.Try.func181, by kernel_rfl, by kernel_rfl⟩
theorem C181 {f : ((List Int) × (List Int) × Unit → Option (List Int))} (h : ∀ a0 a1 r, f (a0, a1, ()) = some r → ∃ N, r_spec_l09Rim N a0 a1 = some r) : Contract Go.Proofs.Try.prog 181 ⟨[(.slice int), (.slice int)], (.slice int), f⟩ := by
  refine contract (E := E181) (envOf table trivial trivial) mixed Go.Proofs.Try.func181 (c := Go.Proofs.Try.f181.body.getD .skip) (by kernel_rfl) (Nat.le_of_ble_eq_true (by kernel_rfl)) fun xs r hr => ?_
  obtain ⟨a0, a1, _⟩ := xs
  obtain ⟨N, hN⟩ := h _ _ r hr
  exact ⟨N, A181 N, L181 N, (K181 N a0 a1).trans hN⟩
theorem X181 : Contract Go.Proofs.Try.prog 181 ⟨[(.slice int), (.slice int)], (.slice int), e_spec_l09Rim⟩ := C181 fun _ _ _ h => ⟨N0, h⟩
-- spec_IsCircular
def E157 (c_spec_l01In : (Int × Int × Int × Unit → Option Bool)) (c_spec_l09Rim : ((List Int) × (List Int) × Unit → Option (List Int))) (c_spec_l03Has : ((List Int) × Int × Unit → Option Bool)) : Env := ⟨tys, [], [(70, ⟨[int, int, int], .bool, c_spec_l01In⟩), (181, ⟨[(.slice int), (.slice int)], (.slice int), c_spec_l09Rim⟩), (171, ⟨[(.slice int), int], .bool, c_spec_l03Has⟩)], []⟩
def A157 (c_spec_l01In : (Int × Int × Int × Unit → Option Bool)) (c_spec_l09Rim : ((List Int) × (List Int) × Unit → Option (List Int))) (c_spec_l03Has : ((List Int) × Int × Unit → Option Bool)) (N : Nat) : List (Nat × Loop (Ty.den .bool)) := [(0, ⟨[(0, .ro none (.num .i64)), (7, .own (.slice (.num .i64))), (8, .ro none (.num .i64)), (29, .ro (some 7) (.slice (.num .i64))), (30, .ro none (.num .i64)), (31, .ro none (.num .i64))], r_spec_IsCircular_L0 c_spec_l01In c_spec_l09Rim c_spec_l03Has N⟩)]
theorem K157 (c_spec_l01In : (Int × Int × Int × Unit → Option Bool)) (c_spec_l09Rim : ((List Int) × (List Int) × Unit → Option (List Int))) (c_spec_l03Has : ((List Int) × Int × Unit → Option Bool)) (N : Nat) (a0 : Int) (a1 : (List Int)) (a2 : (List Int)) : fnK N (E157 c_spec_l01In c_spec_l09Rim c_spec_l03Has) Go.Proofs.Try.f157 [int, (.slice int), (.slice int)] .bool (A157 c_spec_l01In c_spec_l09Rim c_spec_l03Has N) (a0, a1, a2, ()) = r_spec_IsCircular c_spec_l01In c_spec_l09Rim c_spec_l03Has N a0 a1 a2 := by kernel_rfl
theorem L157 (c_spec_l01In : (Int × Int × Int × Unit → Option Bool)) (c_spec_l09Rim : ((List Int) × (List Int) × Unit → Option (List Int))) (c_spec_l03Has : ((List Int) × Int × Unit → Option Bool)) (N : Nat) : LoopsOk N (E157 c_spec_l01In c_spec_l09Rim c_spec_l03Has) (A157 c_spec_l01In c_spec_l09Rim c_spec_l03Has N) Go.Proofs.Try.f157.ntmps (retOf (E157 c_spec_l01In c_spec_l09Rim c_spec_l03Has) Go.Proofs.Try.f157 .bool) (loopsOf (Go.Proofs.Try.f157.body.getD .skip)) :=
  LoopsOk.of (l := [(0, lb Go.Proofs.Try.f157 0)]) (by kernel_rfl) (.cons (L := ⟨[(0, .ro none (.num .i64)), (7, .own (.slice (.num .i64))), (8, .ro none (.num .i64)), (29, .ro (some 7) (.slice (.num .i64))), (30, .ro none (.num .i64)), (31, .ro none (.num .i64))], r_spec_IsCircular_L0 c_spec_l01In c_spec_l09Rim c_spec_l03Has N⟩) (by kernel_rfl) (by intro s kc ke env; kernel_rfl) .nil)
theorem There157 : There Go.Proofs.Try.prog 157 := ⟨_, Go.Proofs.Try.func157, by kernel_rfl, by kernel_rfl⟩
theorem C157 {c_spec_l01In : (Int × Int × Int × Unit → Option Bool)} {c_spec_l09Rim : ((List Int) × (List Int) × Unit → Option (List Int))} {c_spec_l03Has : ((List Int) × Int × Unit → Option Bool)} (h_c_spec_l01In : Contract Go.Proofs.Try.prog 70 ⟨[int, int, int], .bool, c_spec_l01In⟩) (h_c_spec_l09Rim : Contract Go.Proofs.Try.prog 181 ⟨[(.slice int), (.slice int)], (.slice int), c_spec_l09Rim⟩) (h_c_spec_l03Has : Contract Go.Proofs.Try.prog 171 ⟨[(.slice int), int], .bool, c_spec_l03Has⟩) {f : (Int × (List Int) × (List Int) × Unit → Option Bool)} (h : ∀ a0 a1 a2 r, f (a0, a1, a2, ()) = some r → ∃ N, r_spec_IsCircular c_spec_l01In c_spec_l09Rim c_spec_l03Has N a0 a1 a2 = some r) : Contract Go.Proofs.Try.prog 157 ⟨[int, (.slice int), (.slice int)], .bool, f⟩ := by
  refine contract (E := E157 c_spec_l01In c_spec_l09Rim c_spec_l03Has) (envOf table ⟨⟨h_c_spec_l01In, There70⟩, ⟨⟨h_c_spec_l09Rim, There181⟩, ⟨⟨h_c_spec_l03Has, There171⟩, trivial⟩⟩⟩ trivial) mixed Go.Proofs.Try.func157 (c := Go.Proofs.Try.f157.body.getD .skip) (by kernel_rfl) (Nat.le_of_ble_eq_true (by kernel_rfl)) fun xs r hr => ?_
  obtain ⟨a0, a1, a2, _⟩ := xs
  obtain ⟨N, hN⟩ := h _ _ _ r hr
  exact ⟨N, A157 c_spec_l01In c_spec_l09Rim c_spec_l03Has N, L157 c_spec_l01In c_spec_l09Rim c_spec_l03Has N, (K157 c_spec_l01In c_spec_l09Rim c_spec_l03Has N a0 a1 a2).trans hN⟩
theorem X157 : Contract Go.Proofs.Try.prog 157 ⟨[int, (.slice int), (.slice int)], .bool, e_spec_IsCircular⟩ := C157 X70 X181 X171 fun _ _ _ _ h => ⟨N0, h⟩
-- spec_CircularPairs
def E110 (c_spec_l01In : (Int × Int × Int × Unit → Option Bool)) (c_spec_l09Lists : (Int × Int × Unit → Option (List (List Int)))) (c_spec_IsCircular : (Int × (List Int) × (List Int) × Unit → Option Bool)) : Env := ⟨tys, [], [(70, ⟨[int, int, int], .bool, c_spec_l01In⟩), (156, ⟨[int, int], (.slice (.slice int)), c_spec_l09Lists⟩), (157, ⟨[int, (.slice int), (.slice int)], .bool, c_spec_IsCircular⟩)], []⟩
def A110 (c_spec_l01In : (Int × Int × Int × Unit → Option Bool)) (c_spec_l09Lists : (Int × Int × Unit → Option (List (List Int)))) (c_spec_IsCircular : (Int × (List Int) × (List Int) × Unit → Option Bool)) (N : Nat) : List (Nat × Loop (Ty.den (.slice (.slice (.slice int))))) := [(0, ⟨[(0, .ro none (.num .i64)), (3, .own (.slice (.slice (.slice (.num .i64))))), (4, .ro none (.num .i64))], r_spec_CircularPairs_L0 c_spec_l01In c_spec_l09Lists c_spec_IsCircular N⟩), (2, ⟨[(0, .ro none (.num .i64)), (3, .own (.slice (.slice (.slice (.num .i64))))), (4, .ro none (.num .i64)), (5, .own (.slice (.slice (.num .i64)))), (23, .ro (some 5) (.slice (.slice (.num .i64)))), (24, .ro none (.num .i64)), (25, .ro none (.num .i64))], r_spec_CircularPairs_L2 c_spec_l01In c_spec_l09Lists c_spec_IsCircular N⟩), (4, ⟨[(0, .ro none (.num .i64)), (3, .own (.slice (.slice (.slice (.num .i64))))), (4, .ro none (.num .i64)), (5, .own (.slice (.slice (.num .i64)))), (7, .ro (some 5) (.slice (.num .i64))), (23, .ro (some 5) (.slice (.slice (.num .i64)))), (24, .ro none (.num .i64)), (25, .ro none (.num .i64)), (29, .ro (some 5) (.slice (.slice (.num .i64)))), (30, .ro none (.num .i64)), (31, .ro none (.num .i64))], r_spec_CircularPairs_L4 c_spec_l01In c_spec_l09Lists c_spec_IsCircular N⟩)]
theorem K110 (c_spec_l01In : (Int × Int × Int × Unit → Option Bool)) (c_spec_l09Lists : (Int × Int × Unit → Option (List (List Int)))) (c_spec_IsCircular : (Int × (List Int) × (List Int) × Unit → Option Bool)) (N : Nat) (a0 : Int) : fnK N (E110 c_spec_l01In c_spec_l09Lists c_spec_IsCircular) Go.Proofs.Try.f110 [int] (.slice (.slice (.slice int))) (A110 c_spec_l01In c_spec_l09Lists c_spec_IsCircular N) (a0, ()) = r_spec_CircularPairs c_spec_l01In c_spec_l09Lists c_spec_IsCircular N a0 := by kernel_rfl
theorem L110 (c_spec_l01In : (Int × Int × Int × Unit → Option Bool)) (c_spec_l09Lists : (Int × Int × Unit → Option (List (List Int)))) (c_spec_IsCircular : (Int × (List Int) × (List Int) × Unit → Option Bool)) (N : Nat) : LoopsOk N (E110 c_spec_l01In c_spec_l09Lists c_spec_IsCircular) (A110 c_spec_l01In c_spec_l09Lists c_spec_IsCircular N) Go.Proofs.Try.f110.ntmps (retOf (E110 c_spec_l01In c_spec_l09Lists c_spec_IsCircular) Go.Proofs.Try.f110 (.slice (.slice (.slice int)))) (loopsOf (Go.Proofs.Try.f110.body.getD .skip)) :=
  LoopsOk.of (l := [(0, lb Go.Proofs.Try.f110 0), (2, lb Go.Proofs.Try.f110 1), (4, lb Go.Proofs.Try.f110 2)]) (by kernel_rfl) (.cons (L := ⟨[(0, .ro none (.num .i64)), (3, .own (.slice (.slice (.slice (.num .i64))))), (4, .ro none (.num .i64))], r_spec_CircularPairs_L0 c_spec_l01In c_spec_l09Lists c_spec_IsCircular N⟩) (by kernel_rfl) (by intro s kc ke env; kernel_rfl) (.cons (L := ⟨[(0, .ro none (.num .i64)), (3, .own (.slice (.slice (.slice (.num .i64))))), (4, .ro none (.num .i64)), (5, .own (.slice (.slice (.num .i64)))), (23, .ro (some 5) (.slice (.slice (.num .i64)))), (24, .ro none (.num .i64)), (25, .ro none (.num .i64))], r_spec_CircularPairs_L2 c_spec_l01In c_spec_l09Lists c_spec_IsCircular N⟩) (by kernel_rfl) (by intro s kc ke env; kernel_rfl) (.cons (L := ⟨[(0, .ro none (.num .i64)), (3, .own (.slice (.slice (.slice (.num .i64))))), (4, .ro none (.num .i64)), (5, .own (.slice (.slice (.num .i64)))), (7, .ro (some 5) (.slice (.num .i64))), (23, .ro (some 5) (.slice (.slice (.num .i64)))), (24, .ro none (.num .i64)), (25, .ro none (.num .i64)), (29, .ro (some 5) (.slice (.slice (.num .i64)))), (30, .ro none (.num .i64)), (31, .ro none (.num .i64))], r_spec_CircularPairs_L4 c_spec_l01In c_spec_l09Lists c_spec_IsCircular N⟩) (by kernel_rfl) (by intro s kc ke env; kernel_rfl) .nil)))
theorem There110 : There Go.Proofs.Try.prog 110 := ⟨_, Go.Proofs.Try.func110, by kernel_rfl, by kernel_rfl⟩
theorem C110 {c_spec_l01In : (Int × Int × Int × Unit → Option Bool)} {c_spec_l09Lists : (Int × Int × Unit → Option (List (List Int)))} {c_spec_IsCircular : (Int × (List Int) × (List Int) × Unit → Option Bool)} (h_c_spec_l01In : Contract Go.Proofs.Try.prog 70 ⟨[int, int, int], .bool, c_spec_l01In⟩) (h_c_spec_l09Lists : Contract Go.Proofs.Try.prog 156 ⟨[int, int], (.slice (.slice int)), c_spec_l09Lists⟩) (h_c_spec_IsCircular : Contract Go.Proofs.Try.prog 157 ⟨[int, (.slice int), (.slice int)], .bool, c_spec_IsCircular⟩) {f : (Int × Unit → Option (List (List (List Int))))} (h : ∀ a0 r, f (a0, ()) = some r → ∃ N, r_spec_CircularPairs c_spec_l01In c_spec_l09Lists c_spec_IsCircular N a0 = some r) : Contract Go.Proofs.Try.prog 110 ⟨[int], (.slice (.slice (.slice int))), f⟩ := by
  refine contract (E := E110 c_spec_l01In c_spec_l09Lists c_spec_IsCircular) (envOf table ⟨⟨h_c_spec_l01In, There70⟩, ⟨⟨h_c_spec_l09Lists, There156⟩, ⟨⟨h_c_spec_IsCircular, There157⟩, trivial⟩⟩⟩ trivial) mixed Go.Proofs.Try.func110 (c := Go.Proofs.Try.f110.body.getD .skip) (by kernel_rfl) (Nat.le_of_ble_eq_true (by kernel_rfl)) fun xs r hr => ?_
  obtain ⟨a0, _⟩ := xs
  obtain ⟨N, hN⟩ := h _ r hr
  exact ⟨N, A110 c_spec_l01In c_spec_l09Lists c_spec_IsCircular N, L110 c_spec_l01In c_spec_l09Lists c_spec_IsCircular N, (K110 c_spec_l01In c_spec_l09Lists c_spec_IsCircular N a0).trans hN⟩
theorem X110 : Contract Go.Proofs.Try.prog 110 ⟨[int], (.slice (.slice (.slice int))), e_spec_CircularPairs⟩ := C110 X70 X156 X157 fun _ _ h => ⟨N0, h⟩
-- spec_l09Negative
def E112 : Env := ⟨tys, [], [], []⟩
def A112 (N : Nat) : List (Nat × Loop (Ty.den (.slice (.slice int)))) := [(0, ⟨[(0, .ro none (.slice (.slice (.num .i64)))), (2, .ro none (.slice (.num .i64))), (7, .own (.slice (.slice (.num .i64)))), (14, .ro none (.slice (.num .i64))), (15, .ro none (.num .i64)), (16, .ro none (.num .i64))], r_spec_l09Negative_L0 N⟩), (2, ⟨[(0, .ro none (.slice (.slice (.num .i64)))), (2, .ro none (.slice (.num .i64))), (7, .own (.slice (.slice (.num .i64)))), (9, .ro none (.num .i64)), (10, .own (.slice (.num .i64))), (14, .ro none (.slice (.num .i64))), (15, .ro none (.num .i64)), (16, .ro none (.num .i64)), (21, .ro none (.slice (.num .i64))), (22, .ro none (.num .i64)), (23, .ro none (.num .i64))], r_spec_l09Negative_L2 N⟩)]
theorem K112 (N : Nat) (a0 : (List (List Int))) (a1 : (List Int)) (a2 : (List Int)) : fnK N (E112) Go.Proofs.Try.f112 [(.slice (.slice int)), (.slice int), (.slice int)] (.slice (.slice int)) (A112 N) (a0, a1, a2, ()) = r_spec_l09Negative N a0 a1 a2 := by kernel_rfl
theorem L112 (N : Nat) : LoopsOk N (E112) (A112 N) Go.Proofs.Try.f112.ntmps (retOf (E112) Go.Proofs.Try.f112 (.slice (.slice int))) (loopsOf (Go.Proofs.Try.f112.body.getD .skip)) :=
  LoopsOk.of (l := [(0, lb Go.Proofs.Try.f112 0), (2, lb Go.Proofs.Try.f112 1)]) (by kernel_rfl) (.cons (L := ⟨[(0, .ro none (.slice (.slice (.num .i64)))), (2, .ro none (.slice (.num .i64))), (7, .own (.slice (.slice (.num .i64)))), (14, .ro none (.slice (.num .i64))), (15, .ro none (.num .i64)), (16, .ro none (.num .i64))], r_spec_l09Negative_L0 N⟩) (by kernel_rfl) (by intro s kc ke env; kernel_rfl) (.cons (L := ⟨[(0, .ro none (.slice (.slice (.num .i64)))), (2, .ro none (.slice (.num .i64))), (7, .own (.slice (.slice (.num .i64)))), (9, .ro none (.num .i64)), (10, .own (.slice (.num .i64))), (14, .ro none (.slice (.num .i64))), (15, .ro none (.num .i64)), (16, .ro none (.num .i64)), (21, .ro none (.slice (.num .i64))), (22, .ro none (.num .i64)), (23, .ro none (.num .i64))], r_spec_l09Negative_L2 N⟩) (by kernel_rfl) (by intro s kc ke env; kernel_rfl) .nil))
theorem There112 : There Go.Proofs.Try.prog 112 := ⟨_, Go.Proofs.Try.func112, by kernel_rfl, by kernel_rfl⟩
theorem C112 {f : ((List (List Int)) × (List Int) × (List Int) × Unit → Option (List (List Int)))} (h : ∀ a0 a1 a2 r, f (a0, a1, a2, ()) = some r → ∃ N, r_spec_l09Negative N a0 a1 a2 = some r) : Contract Go.Proofs.Try.prog 112 ⟨[(.slice (.slice int)), (.slice int), (.slice int)], (.slice (.slice int)), f⟩ := by
  refine contract (E := E112) (envOf table trivial trivial) mixed Go.Proofs.Try.func112 (c := Go.Proofs.Try.f112.body.getD .skip) (by kernel_rfl) (Nat.le_of_ble_eq_true (by kernel_rfl)) fun xs r hr => ?_
  obtain ⟨a0, a1, a2, _⟩ := xs
  obtain ⟨N, hN⟩ := h _ _ _ r hr
  exact ⟨N, A112 N, L112 N, (K112 N a0 a1 a2).trans hN⟩
theorem X112 : Contract Go.Proofs.Try.prog 112 ⟨[(.slice (.slice int)), (.slice int), (.slice int)], (.slice (.slice int)), e_spec_l09Negative⟩ := C112 fun _ _ _ _ h => ⟨N0, h⟩
-- spec_l04Det
def E158 (c_spec_l04Det : ((List (List Int)) × (List Int) × (List Int) × Unit → Option Int)) : Env := ⟨tys, [], [(158, ⟨[(.slice (.slice int)), (.slice int), (.slice int)], int, c_spec_l04Det⟩)], []⟩
def A158 (c_spec_l04Det : ((List (List Int)) × (List Int) × (List Int) × Unit → Option Int)) (N : Nat) : List (Nat × Loop (Ty.den int)) := [(0, ⟨[(0, .ro none (.slice (.slice (.num .i64)))), (1, .ro none (.slice (.num .i64))), (2, .ro none (.slice (.num .i64))), (7, .ro none (.num .i64)), (8, .ro none (.num .i64)), (16, .ro none (.slice (.num .i64))), (17, .ro none (.num .i64)), (18, .ro none (.num .i64))], r_spec_l04Det_L0 c_spec_l04Det N⟩)]
theorem K158 (c_spec_l04Det : ((List (List Int)) × (List Int) × (List Int) × Unit → Option Int)) (N : Nat) (a0 : (List (List Int))) (a1 : (List Int)) (a2 : (List Int)) : fnK N (E158 c_spec_l04Det) Go.Proofs.Try.f158 [(.slice (.slice int)), (.slice int), (.slice int)] int (A158 c_spec_l04Det N) (a0, a1, a2, ()) = r_spec_l04Det c_spec_l04Det N a0 a1 a2 := by kernel_rfl
theorem L158 (c_spec_l04Det : ((List (List Int)) × (List Int) × (List Int) × Unit → Option Int)) (N : Nat) : LoopsOk N (E158 c_spec_l04Det) (A158 c_spec_l04Det N) Go.Proofs.Try.f158.ntmps (retOf (E158 c_spec_l04Det) Go.Proofs.Try.f158 int) (loopsOf (Go.Proofs.Try.f158.body.getD .skip)) :=
  LoopsOk.of (l := [(0, lb Go.Proofs.Try.f158 0)]) (by kernel_rfl) (.cons (L := ⟨[(0, .ro none (.slice (.slice (.num .i64)))), (1, .ro none (.slice (.num .i64))), (2, .ro none (.slice (.num .i64))), (7, .ro none (.num .i64)), (8, .ro none (.num .i64)), (16, .ro none (.slice (.num .i64))), (17, .ro none (.num .i64)), (18, .ro none (.num .i64))], r_spec_l04Det_L0 c_spec_l04Det N⟩) (by kernel_rfl) (by intro s kc ke env; kernel_rfl) .nil)
theorem There158 : There Go.Proofs.Try.prog 158 := ⟨_, Go.Proofs.Try.func158, by kernel_rfl, by kernel_rfl⟩
theorem C158 {c_spec_l04Det : ((List (List Int)) × (List Int) × (List Int) × Unit → Option Int)} (h_c_spec_l04Det : Contract Go.Proofs.Try.prog 158 ⟨[(.slice (.slice int)), (.slice int), (.slice int)], int, c_spec_l04Det⟩) {f : ((List (List Int)) × (List Int) × (List Int) × Unit → Option Int)} (h : ∀ a0 a1 a2 r, f (a0, a1, a2, ()) = some r → ∃ N, r_spec_l04Det c_spec_l04Det N a0 a1 a2 = some r) : Contract Go.Proofs.Try.prog 158 ⟨[(.slice (.slice int)), (.slice int), (.slice int)], int, f⟩ := by
  refine contract (E := E158 c_spec_l04Det) (envOf table ⟨⟨h_c_spec_l04Det, There158⟩, trivial⟩ trivial) mixed Go.Proofs.Try.func158 (c := Go.Proofs.Try.f158.body.getD .skip) (by kernel_rfl) (Nat.le_of_ble_eq_true (by kernel_rfl)) fun xs r hr => ?_
  obtain ⟨a0, a1, a2, _⟩ := xs
  obtain ⟨N, hN⟩ := h _ _ _ r hr
  exact ⟨N, A158 c_spec_l04Det N, L158 c_spec_l04Det N, (K158 c_spec_l04Det N a0 a1 a2).trans hN⟩
theorem X158_n : ∀ n, Contract Go.Proofs.Try.prog 158 ⟨[(.slice (.slice int)), (.slice int), (.slice int)], int, e_spec_l04Det_n n⟩
  | 0 => fun xs r vs w h => by simp [e_spec_l04Det_n] at h
  | n + 1 => C158 (X158_n n) fun _ _ _ _ h => ⟨N0, h⟩
theorem X158 : Contract Go.Proofs.Try.prog 158 ⟨[(.slice (.slice int)), (.slice int), (.slice int)], int, e_spec_l04Det⟩ := X158_n N0
-- spec_l09Det
def E111 (c_spec_l04Det : ((List (List Int)) × (List Int) × (List Int) × Unit → Option Int)) : Env := ⟨tys, [], [(158, ⟨[(.slice (.slice int)), (.slice int), (.slice int)], int, c_spec_l04Det⟩)], []⟩
def A111 (c_spec_l04Det : ((List (List Int)) × (List Int) × (List Int) × Unit → Option Int)) (N : Nat) : List (Nat × Loop (Ty.den int)) := [(0, ⟨[(0, .ro none (.slice (.slice (.num .i64)))), (3, .own (.slice (.num .i64))), (7, .ro none (.num .i64)), (8, .ro none (.num .i64))], r_spec_l09Det_L0 c_spec_l04Det N⟩)]
theorem K111 (c_spec_l04Det : ((List (List Int)) × (List Int) × (List Int) × Unit → Option Int)) (N : Nat) (a0 : (List (List Int))) : fnK N (E111 c_spec_l04Det) Go.Proofs.Try.f111 [(.slice (.slice int))] int (A111 c_spec_l04Det N) (a0, ()) = r_spec_l09Det c_spec_l04Det N a0 := by kernel_rfl
theorem L111 (c_spec_l04Det : ((List (List Int)) × (List Int) × (List Int) × Unit → Option Int)) (N : Nat) : LoopsOk N (E111 c_spec_l04Det) (A111 c_spec_l04Det N) Go.Proofs.Try.f111.ntmps (retOf (E111 c_spec_l04Det) Go.Proofs.Try.f111 int) (loopsOf (Go.Proofs.Try.f111.body.getD .skip)) :=
  LoopsOk.of (l := [(0, lb Go.Proofs.Try.f111 0)]) (by kernel_rfl) (.cons (L := ⟨[(0, .ro none (.slice (.slice (.num .i64)))), (3, .own (.slice (.num .i64))), (7, .ro none (.num .i64)), (8, .ro none (.num .i64))], r_spec_l09Det_L0 c_spec_l04Det N⟩) (by kernel_rfl) (by intro s kc ke env; kernel_rfl) .nil)
theorem There111 : There Go.Proofs.Try.prog 111 := ⟨_, Go.Proofs.Try.func111, by kernel_rfl, by kernel_rfl⟩
theorem C111 {c_spec_l04Det : ((List (List Int)) × (List Int) × (List Int) × Unit → Option Int)} (h_c_spec_l04Det : Contract Go.Proofs.Try.prog 158 ⟨[(.slice (.slice int)), (.slice int), (.slice int)], int, c_spec_l04Det⟩) {f : ((List (List Int)) × Unit → Option Int)} (h : ∀ a0 r, f (a0, ()) = some r → ∃ N, r_spec_l09Det c_spec_l04Det N a0 = some r) : Contract Go.Proofs.Try.prog 111 ⟨[(.slice (.slice int))], int, f⟩ := by
  refine contract (E := E111 c_spec_l04Det) (envOf table ⟨⟨h_c_spec_l04Det, There158⟩, trivial⟩ trivial) mixed Go.Proofs.Try.func111 (c := Go.Proofs.Try.f111.body.getD .skip) (by kernel_rfl) (Nat.le_of_ble_eq_true (by kernel_rfl)) fun xs r hr => ?_
  obtain ⟨a0, _⟩ := xs
  obtain ⟨N, hN⟩ := h _ r hr
  exact ⟨N, A111 c_spec_l04Det N, L111 c_spec_l04Det N, (K111 c_spec_l04Det N a0).trans hN⟩
theorem X111 : Contract Go.Proofs.Try.prog 111 ⟨[(.slice (.slice int))], int, e_spec_l09Det⟩ := C111 X158 fun _ _ h => ⟨N0, h⟩
-- spec_PlanarReason
def E52 (c_spec_IsWeightMatrix : ((List (List Int)) × Unit → Option Bool)) (c_spec_CircularPairs : (Int × Unit → Option (List (List (List Int))))) (c_spec_l09Negative : ((List (List Int)) × (List Int) × (List Int) × Unit → Option (List (List Int)))) (c_spec_l09Det : ((List (List Int)) × Unit → Option Int)) : Env := ⟨tys, [], [(108, ⟨[(.slice (.slice int))], .bool, c_spec_IsWeightMatrix⟩), (110, ⟨[int], (.slice (.slice (.slice int))), c_spec_CircularPairs⟩), (112, ⟨[(.slice (.slice int)), (.slice int), (.slice int)], (.slice (.slice int)), c_spec_l09Negative⟩), (111, ⟨[(.slice (.slice int))], int, c_spec_l09Det⟩)], []⟩
def A52 (c_spec_IsWeightMatrix : ((List (List Int)) × Unit → Option Bool)) (c_spec_CircularPairs : (Int × Unit → Option (List (List (List Int))))) (c_spec_l09Negative : ((List (List Int)) × (List Int) × (List Int) × Unit → Option (List (List Int)))) (c_spec_l09Det : ((List (List Int)) × Unit → Option Int)) (N : Nat) : List (Nat × Loop (Ty.den (.slice (.slice int)))) := [(0, ⟨[(0, .ro none (.slice (.slice (.num .i64)))), (10, .own (.slice (.slice (.slice (.num .i64))))), (11, .ro none (.num .i64)), (12, .ro none (.num .i64))], r_spec_PlanarReason_L0 c_spec_IsWeightMatrix c_spec_CircularPairs c_spec_l09Negative c_spec_l09Det N⟩)]
theorem K52 (c_spec_IsWeightMatrix : ((List (List Int)) × Unit → Option Bool)) (c_spec_CircularPairs : (Int × Unit → Option (List (List (List Int))))) (c_spec_l09Negative : ((List (List Int)) × (List Int) × (List Int) × Unit → Option (List (List Int)))) (c_spec_l09Det : ((List (List Int)) × Unit → Option Int)) (N : Nat) (a0 : (List (List Int))) : fnK N (E52 c_spec_IsWeightMatrix c_spec_CircularPairs c_spec_l09Negative c_spec_l09Det) Go.Proofs.Try.f52 [(.slice (.slice int))] (.slice (.slice int)) (A52 c_spec_IsWeightMatrix c_spec_CircularPairs c_spec_l09Negative c_spec_l09Det N) (a0, ()) = r_spec_PlanarReason c_spec_IsWeightMatrix c_spec_CircularPairs c_spec_l09Negative c_spec_l09Det N a0 := by kernel_rfl
theorem L52 (c_spec_IsWeightMatrix : ((List (List Int)) × Unit → Option Bool)) (c_spec_CircularPairs : (Int × Unit → Option (List (List (List Int))))) (c_spec_l09Negative : ((List (List Int)) × (List Int) × (List Int) × Unit → Option (List (List Int)))) (c_spec_l09Det : ((List (List Int)) × Unit → Option Int)) (N : Nat) : LoopsOk N (E52 c_spec_IsWeightMatrix c_spec_CircularPairs c_spec_l09Negative c_spec_l09Det) (A52 c_spec_IsWeightMatrix c_spec_CircularPairs c_spec_l09Negative c_spec_l09Det N) Go.Proofs.Try.f52.ntmps (retOf (E52 c_spec_IsWeightMatrix c_spec_CircularPairs c_spec_l09Negative c_spec_l09Det) Go.Proofs.Try.f52 (.slice (.slice int))) (loopsOf (Go.Proofs.Try.f52.body.getD .skip)) :=
  LoopsOk.of (l := [(0, lb Go.Proofs.Try.f52 0)]) (by kernel_rfl) (.cons (L := ⟨[(0, .ro none (.slice (.slice (.num .i64)))), (10, .own (.slice (.slice (.slice (.num .i64))))), (11, .ro none (.num .i64)), (12, .ro none (.num .i64))], r_spec_PlanarReason_L0 c_spec_IsWeightMatrix c_spec_CircularPairs c_spec_l09Negative c_spec_l09Det N⟩) (by kernel_rfl) (by intro s kc ke env; kernel_rfl) .nil)
theorem There52 : There Go.Proofs.Try.prog 52 := ⟨_, Go.Proofs.Try.func52, by kernel_rfl, by kernel_rfl⟩
theorem C52 {c_spec_IsWeightMatrix : ((List (List Int)) × Unit → Option Bool)} {c_spec_CircularPairs : (Int × Unit → Option (List (List (List Int))))} {c_spec_l09Negative : ((List (List Int)) × (List Int) × (List Int) × Unit → Option (List (List Int)))} {c_spec_l09Det : ((List (List Int)) × Unit → Option Int)} (h_c_spec_IsWeightMatrix : Contract Go.Proofs.Try.prog 108 ⟨[(.slice (.slice int))], .bool, c_spec_IsWeightMatrix⟩) (h_c_spec_CircularPairs : Contract Go.Proofs.Try.prog 110 ⟨[int], (.slice (.slice (.slice int))), c_spec_CircularPairs⟩) (h_c_spec_l09Negative : Contract Go.Proofs.Try.prog 112 ⟨[(.slice (.slice int)), (.slice int), (.slice int)], (.slice (.slice int)), c_spec_l09Negative⟩) (h_c_spec_l09Det : Contract Go.Proofs.Try.prog 111 ⟨[(.slice (.slice int))], int, c_spec_l09Det⟩) {f : ((List (List Int)) × Unit → Option (List (List Int)))} (h : ∀ a0 r, f (a0, ()) = some r → ∃ N, r_spec_PlanarReason c_spec_IsWeightMatrix c_spec_CircularPairs c_spec_l09Negative c_spec_l09Det N a0 = some r) : Contract Go.Proofs.Try.prog 52 ⟨[(.slice (.slice int))], (.slice (.slice int)), f⟩ := by
  refine contract (E := E52 c_spec_IsWeightMatrix c_spec_CircularPairs c_spec_l09Negative c_spec_l09Det) (envOf table ⟨⟨h_c_spec_IsWeightMatrix, There108⟩, ⟨⟨h_c_spec_CircularPairs, There110⟩, ⟨⟨h_c_spec_l09Negative, There112⟩, ⟨⟨h_c_spec_l09Det, There111⟩, trivial⟩⟩⟩⟩ trivial) mixed Go.Proofs.Try.func52 (c := Go.Proofs.Try.f52.body.getD .skip) (by kernel_rfl) (Nat.le_of_ble_eq_true (by kernel_rfl)) fun xs r hr => ?_
  obtain ⟨a0, _⟩ := xs
  obtain ⟨N, hN⟩ := h _ r hr
  exact ⟨N, A52 c_spec_IsWeightMatrix c_spec_CircularPairs c_spec_l09Negative c_spec_l09Det N, L52 c_spec_IsWeightMatrix c_spec_CircularPairs c_spec_l09Negative c_spec_l09Det N, (K52 c_spec_IsWeightMatrix c_spec_CircularPairs c_spec_l09Negative c_spec_l09Det N a0).trans hN⟩
theorem X52 : Contract Go.Proofs.Try.prog 52 ⟨[(.slice (.slice int))], (.slice (.slice int)), e_spec_PlanarReason⟩ := C52 X108 X110 X112 X111 fun _ _ h => ⟨N0, h⟩
-- spec_IsPlanarMatrix
def E48 (c_spec_IsWeightMatrix : ((List (List Int)) × Unit → Option Bool)) (c_spec_PlanarReason : ((List (List Int)) × Unit → Option (List (List Int)))) : Env := ⟨tys, [], [(108, ⟨[(.slice (.slice int))], .bool, c_spec_IsWeightMatrix⟩), (52, ⟨[(.slice (.slice int))], (.slice (.slice int)), c_spec_PlanarReason⟩)], []⟩
def A48 (_c_spec_IsWeightMatrix : ((List (List Int)) × Unit → Option Bool)) (_c_spec_PlanarReason : ((List (List Int)) × Unit → Option (List (List Int)))) (_N : Nat) : List (Nat × Loop (Ty.den .bool)) := []
theorem K48 (c_spec_IsWeightMatrix : ((List (List Int)) × Unit → Option Bool)) (c_spec_PlanarReason : ((List (List Int)) × Unit → Option (List (List Int)))) (N : Nat) (a0 : (List (List Int))) : fnK N (E48 c_spec_IsWeightMatrix c_spec_PlanarReason) Go.Proofs.Try.f48 [(.slice (.slice int))] .bool (A48 c_spec_IsWeightMatrix c_spec_PlanarReason N) (a0, ()) = r_spec_IsPlanarMatrix c_spec_IsWeightMatrix c_spec_PlanarReason N a0 := by kernel_rfl
theorem L48 (c_spec_IsWeightMatrix : ((List (List Int)) × Unit → Option Bool)) (c_spec_PlanarReason : ((List (List Int)) × Unit → Option (List (List Int)))) (N : Nat) : LoopsOk N (E48 c_spec_IsWeightMatrix c_spec_PlanarReason) (A48 c_spec_IsWeightMatrix c_spec_PlanarReason N) Go.Proofs.Try.f48.ntmps (retOf (E48 c_spec_IsWeightMatrix c_spec_PlanarReason) Go.Proofs.Try.f48 .bool) (loopsOf (Go.Proofs.Try.f48.body.getD .skip)) :=
  LoopsOk.of (l := []) (by kernel_rfl) .nil
theorem There48 : There Go.Proofs.Try.prog 48 := ⟨_, Go.Proofs.Try.func48, by kernel_rfl, by kernel_rfl⟩
theorem C48 {c_spec_IsWeightMatrix : ((List (List Int)) × Unit → Option Bool)} {c_spec_PlanarReason : ((List (List Int)) × Unit → Option (List (List Int)))} (h_c_spec_IsWeightMatrix : Contract Go.Proofs.Try.prog 108 ⟨[(.slice (.slice int))], .bool, c_spec_IsWeightMatrix⟩) (h_c_spec_PlanarReason : Contract Go.Proofs.Try.prog 52 ⟨[(.slice (.slice int))], (.slice (.slice int)), c_spec_PlanarReason⟩) {f : ((List (List Int)) × Unit → Option Bool)} (h : ∀ a0 r, f (a0, ()) = some r → ∃ N, r_spec_IsPlanarMatrix c_spec_IsWeightMatrix c_spec_PlanarReason N a0 = some r) : Contract Go.Proofs.Try.prog 48 ⟨[(.slice (.slice int))], .bool, f⟩ := by
  refine contract (E := E48 c_spec_IsWeightMatrix c_spec_PlanarReason) (envOf table ⟨⟨h_c_spec_IsWeightMatrix, There108⟩, ⟨⟨h_c_spec_PlanarReason, There52⟩, trivial⟩⟩ trivial) mixed Go.Proofs.Try.func48 (c := Go.Proofs.Try.f48.body.getD .skip) (by kernel_rfl) (Nat.le_of_ble_eq_true (by kernel_rfl)) fun xs r hr => ?_
  obtain ⟨a0, _⟩ := xs
  obtain ⟨N, hN⟩ := h _ r hr
  exact ⟨N, A48 c_spec_IsWeightMatrix c_spec_PlanarReason N, L48 c_spec_IsWeightMatrix c_spec_PlanarReason N, (K48 c_spec_IsWeightMatrix c_spec_PlanarReason N a0).trans hN⟩
theorem X48 : Contract Go.Proofs.Try.prog 48 ⟨[(.slice (.slice int))], .bool, e_spec_IsPlanarMatrix⟩ := C48 X108 X52 fun _ _ h => ⟨N0, h⟩
-- impl_squareOk
def E128 : Env := ⟨tys, [], [], []⟩
def A128 (N : Nat) : List (Nat × Loop (Ty.den .bool)) := [(0, ⟨[(0, .ro none (.slice (.slice (.num .i64)))), (10, .ro none (.slice (.slice (.num .i64)))), (11, .ro none (.num .i64)), (12, .ro none (.num .i64))], r_impl_squareOk_L0 N⟩), (2, ⟨[(0, .ro none (.slice (.slice (.num .i64)))), (10, .ro none (.slice (.slice (.num .i64)))), (11, .ro none (.num .i64)), (12, .ro none (.num .i64)), (21, .ro none (.slice (.num .i64))), (22, .ro none (.num .i64)), (23, .ro none (.num .i64))], r_impl_squareOk_L2 N⟩)]
theorem K128 (N : Nat) (a0 : (List (List Int))) : fnK N (E128) Go.Proofs.Try.f128 [(.slice (.slice int))] .bool (A128 N) (a0, ()) = r_impl_squareOk N a0 := by kernel_rfl
theorem L128 (N : Nat) : LoopsOk N (E128) (A128 N) Go.Proofs.Try.f128.ntmps (retOf (E128) Go.Proofs.Try.f128 .bool) (loopsOf (Go.Proofs.Try.f128.body.getD .skip)) :=
  LoopsOk.of (l := [(0, lb Go.Proofs.Try.f128 0), (2, lb Go.Proofs.Try.f128 1)]) (by kernel_rfl) (.cons (L := ⟨[(0, .ro none (.slice (.slice (.num .i64)))), (10, .ro none (.slice (.slice (.num .i64)))), (11, .ro none (.num .i64)), (12, .ro none (.num .i64))], r_impl_squareOk_L0 N⟩) (by kernel_rfl) (by intro s kc ke env; kernel_rfl) (.cons (L := ⟨[(0, .ro none (.slice (.slice (.num .i64)))), (10, .ro none (.slice (.slice (.num .i64)))), (11, .ro none (.num .i64)), (12, .ro none (.num .i64)), (21, .ro none (.slice (.num .i64))), (22, .ro none (.num .i64)), (23, .ro none (.num .i64))], r_impl_squareOk_L2 N⟩) (by kernel_rfl) (by intro s kc ke env; kernel_rfl) .nil))
theorem There128 : There Go.Proofs.Try.prog 128 := ⟨_, Go.Proofs.Try.func128, by kernel_rfl, by kernel_rfl⟩
theorem C128 {f : ((List (List Int)) × Unit → Option Bool)} (h : ∀ a0 r, f (a0, ()) = some r → ∃ N, r_impl_squareOk N a0 = some r) : Contract Go.Proofs.Try.prog 128 ⟨[(.slice (.slice int))], .bool, f⟩ := by
  refine contract (E := E128) (envOf table trivial trivial) mixed Go.Proofs.Try.func128 (c := Go.Proofs.Try.f128.body.getD .skip) (by kernel_rfl) (Nat.le_of_ble_eq_true (by kernel_rfl)) fun xs r hr => ?_
  obtain ⟨a0, _⟩ := xs
  obtain ⟨N, hN⟩ := h _ r hr
  exact ⟨N, A128 N, L128 N, (K128 N a0).trans hN⟩
theorem X128 : Contract Go.Proofs.Try.prog 128 ⟨[(.slice (.slice int))], .bool, e_impl_squareOk⟩ := C128 fun _ _ h => ⟨N0, h⟩
-- impl_IsWeightMatrix
def E109 (c_impl_squareOk : ((List (List Int)) × Unit → Option Bool)) : Env := ⟨tys, [], [(128, ⟨[(.slice (.slice int))], .bool, c_impl_squareOk⟩)], []⟩
def A109 (c_impl_squareOk : ((List (List Int)) × Unit → Option Bool)) (N : Nat) : List (Nat × Loop (Ty.den .bool)) := [(0, ⟨[(0, .ro none (.slice (.slice (.num .i64)))), (16, .ro none (.slice (.slice (.num .i64)))), (17, .ro none (.num .i64)), (18, .ro none (.num .i64))], r_impl_IsWeightMatrix_L0 c_impl_squareOk N⟩), (2, ⟨[(0, .ro none (.slice (.slice (.num .i64)))), (3, .ro none (.num .i64)), (5, .ro none (.num .i64)), (16, .ro none (.slice (.slice (.num .i64)))), (17, .ro none (.num .i64)), (18, .ro none (.num .i64)), (23, .ro none (.slice (.num .i64))), (24, .ro none (.num .i64)), (25, .ro none (.num .i64))], r_impl_IsWeightMatrix_L2 c_impl_squareOk N⟩)]
theorem K109 (c_impl_squareOk : ((List (List Int)) × Unit → Option Bool)) (N : Nat) (a0 : (List (List Int))) : fnK N (E109 c_impl_squareOk) Go.Proofs.Try.f109 [(.slice (.slice int))] .bool (A109 c_impl_squareOk N) (a0, ()) = r_impl_IsWeightMatrix c_impl_squareOk N a0 := by kernel_rfl
theorem L109 (c_impl_squareOk : ((List (List Int)) × Unit → Option Bool)) (N : Nat) : LoopsOk N (E109 c_impl_squareOk) (A109 c_impl_squareOk N) Go.Proofs.Try.f109.ntmps (retOf (E109 c_impl_squareOk) Go.Proofs.Try.f109 .bool) (loopsOf (Go.Proofs.Try.f109.body.getD .skip)) :=
  LoopsOk.of (l := [(0, lb Go.Proofs.Try.f109 0), (2, lb Go.Proofs.Try.f109 1)]) (by kernel_rfl) (.cons (L := ⟨[(0, .ro none (.slice (.slice (.num .i64)))), (16, .ro none (.slice (.slice (.num .i64)))), (17, .ro none (.num .i64)), (18, .ro none (.num .i64))], r_impl_IsWeightMatrix_L0 c_impl_squareOk N⟩) (by kernel_rfl) (by intro s kc ke env; kernel_rfl) (.cons (L := ⟨[(0, .ro none (.slice (.slice (.num .i64)))), (3, .ro none (.num .i64)), (5, .ro none (.num .i64)), (16, .ro none (.slice (.slice (.num .i64)))), (17, .ro none (.num .i64)), (18, .ro none (.num .i64)), (23, .ro none (.slice (.num .i64))), (24, .ro none (.num .i64)), (25, .ro none (.num .i64))], r_impl_IsWeightMatrix_L2 c_impl_squareOk N⟩) (by kernel_rfl) (by intro s kc ke env; kernel_rfl) .nil))
theorem There109 : There Go.Proofs.Try.prog 109 := ⟨_, Go.Proofs.Try.func109, by kernel_rfl, by kernel_rfl⟩
theorem C109 {c_impl_squareOk : ((List (List Int)) × Unit → Option Bool)} (h_c_impl_squareOk : Contract Go.Proofs.Try.prog 128 ⟨[(.slice (.slice int))], .bool, c_impl_squareOk⟩) {f : ((List (List Int)) × Unit → Option Bool)} (h : ∀ a0 r, f (a0, ()) = some r → ∃ N, r_impl_IsWeightMatrix c_impl_squareOk N a0 = some r) : Contract Go.Proofs.Try.prog 109 ⟨[(.slice (.slice int))], .bool, f⟩ := by
  refine contract (E := E109 c_impl_squareOk) (envOf table ⟨⟨h_c_impl_squareOk, There128⟩, trivial⟩ trivial) mixed Go.Proofs.Try.func109 (c := Go.Proofs.Try.f109.body.getD .skip) (by kernel_rfl) (Nat.le_of_ble_eq_true (by kernel_rfl)) fun xs r hr => ?_
  obtain ⟨a0, _⟩ := xs
  obtain ⟨N, hN⟩ := h _ r hr
  exact ⟨N, A109 c_impl_squareOk N, L109 c_impl_squareOk N, (K109 c_impl_squareOk N a0).trans hN⟩
theorem X109 : Contract Go.Proofs.Try.prog 109 ⟨[(.slice (.slice int))], .bool, e_impl_IsWeightMatrix⟩ := C109 X128 fun _ _ h => ⟨N0, h⟩
-- slices_Index_int
def E183 : Env := ⟨tys, [], [], []⟩
def A183 (N : Nat) : List (Nat × Loop (Ty.den int)) := [(0, ⟨[(0, .ro none (.slice (.num .i64))), (1, .ro none (.num .i64)), (7, .ro none (.num .i64)), (8, .ro none (.num .i64))], r_slices_Index_int_L0 N⟩)]
theorem K183 (N : Nat) (a0 : (List Int)) (a1 : Int) : fnK N (E183) Go.Proofs.Try.f183 [(.slice int), int] int (A183 N) (a0, a1, ()) = r_slices_Index_int N a0 a1 := by kernel_rfl
theorem L183 (N : Nat) : LoopsOk N (E183) (A183 N) Go.Proofs.Try.f183.ntmps (retOf (E183) Go.Proofs.Try.f183 int) (loopsOf (Go.Proofs.Try.f183.body.getD .skip)) :=
  LoopsOk.of (l := [(0, lb Go.Proofs.Try.f183 0)]) (by kernel_rfl) (.cons (L := ⟨[(0, .ro none (.slice (.num .i64))), (1, .ro none (.num .i64)), (7, .ro none (.num .i64)), (8, .ro none (.num .i64))], r_slices_Index_int_L0 N⟩) (by kernel_rfl) (by intro s kc ke env; kernel_rfl) .nil)
theorem There183 : There Go.Proofs.Try.prog 183 := ⟨_, Go.Proofs.Try.func183, by kernel_rfl, by kernel_rfl⟩
theorem C183 {f : ((List Int) × Int × Unit → Option Int)} (h : ∀ a0 a1 r, f (a0, a1, ()) = some r → ∃ N, r_slices_Index_int N a0 a1 = some r) : Contract Go.Proofs.Try.prog 183 ⟨[(.slice int), int], int, f⟩ := by
  refine contract (E := E183) (envOf table trivial trivial) mixed Go.Proofs.Try.func183 (c := Go.Proofs.Try.f183.body.getD .skip) (by kernel_rfl) (Nat.le_of_ble_eq_true (by kernel_rfl)) fun xs r hr => ?_
  obtain ⟨a0, a1, _⟩ := xs
  obtain ⟨N, hN⟩ := h _ _ r hr
  exact ⟨N, A183 N, L183 N, (K183 N a0 a1).trans hN⟩
theorem X183 : Contract Go.Proofs.Try.prog 183 ⟨[(.slice int), int], int, e_slices_Index_int⟩ := C183 fun _ _ _ h => ⟨N0, h⟩
-- slices_Contains_int
def E170 (c_slices_Index_int : ((List Int) × Int × Unit → Option Int)) : Env := ⟨tys, [], [(183, ⟨[(.slice int), int], int, c_slices_Index_int⟩)], []⟩
def A170 (_c_slices_Index_int : ((List Int) × Int × Unit → Option Int)) (_N : Nat) : List (Nat × Loop (Ty.den .bool)) := []
theorem K170 (c_slices_Index_int : ((List Int) × Int × Unit → Option Int)) (N : Nat) (a0 : (List Int)) (a1 : Int) : fnK N (E170 c_slices_Index_int) Go.Proofs.Try.f170 [(.slice int), int] .bool (A170 c_slices_Index_int N) (a0, a1, ()) = r_slices_Contains_int c_slices_Index_int N a0 a1 := by kernel_rfl
theorem L170 (c_slices_Index_int : ((List Int) × Int × Unit → Option Int)) (N : Nat) : LoopsOk N (E170 c_slices_Index_int) (A170 c_slices_Index_int N) Go.Proofs.Try.f170.ntmps (retOf (E170 c_slices_Index_int) Go.Proofs.Try.f170 .bool) (loopsOf (Go.Proofs.Try.f170.body.getD .skip)) :=
  LoopsOk.of (l := []) (by kernel_rfl) .nil
theorem There170 : There Go.Proofs.Try.prog 170 := ⟨_, Go.Proofs.Try.func170, by kernel_rfl, by kernel_rfl⟩
theorem C170 {c_slices_Index_int : ((List Int) × Int × Unit → Option Int)} (h_c_slices_Index_int : Contract Go.Proofs.Try.prog 183 ⟨[(.slice int), int], int, c_slices_Index_int⟩) {f : ((List Int) × Int × Unit → Option Bool)} (h : ∀ a0 a1 r, f (a0, a1, ()) = some r → ∃ N, r_slices_Contains_int c_slices_Index_int N a0 a1 = some r) : Contract Go.Proofs.Try.prog 170 ⟨[(.slice int), int], .bool, f⟩ := by
  refine contract (E := E170 c_slices_Index_int) (envOf table ⟨⟨h_c_slices_Index_int, There183⟩, trivial⟩ trivial) mixed Go.Proofs.Try.func170 (c := Go.Proofs.Try.f170.body.getD .skip) (by kernel_rfl) (Nat.le_of_ble_eq_true (by kernel_rfl)) fun xs r hr => ?_
  obtain ⟨a0, a1, _⟩ := xs
  obtain ⟨N, hN⟩ := h _ _ r hr
  exact ⟨N, A170 c_slices_Index_int N, L170 c_slices_Index_int N, (K170 c_slices_Index_int N a0 a1).trans hN⟩
theorem X170 : Contract Go.Proofs.Try.prog 170 ⟨[(.slice int), int], .bool, e_slices_Contains_int⟩ := C170 X183 fun _ _ _ h => ⟨N0, h⟩
-- slices_Clone_int
def E161 : Env := ⟨tys, [], [], []⟩
def A161 (_N : Nat) : List (Nat × Loop (Ty.den (.slice int))) := []
theorem K161 (N : Nat) (a0 : (List Int)) : fnK N (E161) Go.Proofs.Try.f161 [(.slice int)] (.slice int) (A161 N) (a0, ()) = r_slices_Clone_int N a0 := by kernel_rfl
theorem L161 (N : Nat) : LoopsOk N (E161) (A161 N) Go.Proofs.Try.f161.ntmps (retOf (E161) Go.Proofs.Try.f161 (.slice int)) (loopsOf (Go.Proofs.Try.f161.body.getD .skip)) :=
  LoopsOk.of (l := []) (by kernel_rfl) .nil
theorem There161 : There Go.Proofs.Try.prog 161 := ⟨_, Go.Proofs.Try.func161, by kernel_rfl, by kernel_rfl⟩
theorem C161 {f : ((List Int) × Unit → Option (List Int))} (h : ∀ a0 r, f (a0, ()) = some r → ∃ N, r_slices_Clone_int N a0 = some r) : Contract Go.Proofs.Try.prog 161 ⟨[(.slice int)], (.slice int), f⟩ := by
  refine contract (E := E161) (envOf table trivial trivial) mixed Go.Proofs.Try.func161 (c := Go.Proofs.Try.f161.body.getD .skip) (by kernel_rfl) (Nat.le_of_ble_eq_true (by kernel_rfl)) fun xs r hr => ?_
  obtain ⟨a0, _⟩ := xs
  obtain ⟨N, hN⟩ := h _ r hr
  exact ⟨N, A161 N, L161 N, (K161 N a0).trans hN⟩
theorem X161 : Contract Go.Proofs.Try.prog 161 ⟨[(.slice int)], (.slice int), e_slices_Clone_int⟩ := C161 fun _ _ h => ⟨N0, h⟩
-- impl_choices
def E159 (c_slices_Contains_int : ((List Int) × Int × Unit → Option Bool)) (c_slices_Clone_int : ((List Int) × Unit → Option (List Int))) : Env := ⟨tys, [], [(170, ⟨[(.slice int), int], .bool, c_slices_Contains_int⟩), (161, ⟨[(.slice int)], (.slice int), c_slices_Clone_int⟩)], []⟩
def A159 (c_slices_Contains_int : ((List Int) × Int × Unit → Option Bool)) (c_slices_Clone_int : ((List Int) × Unit → Option (List Int))) (N : Nat) : List (Nat × Loop (Ty.den (.slice (.slice int)))) := [(0, ⟨[(0, .ro none (.num .i64)), (5, .own (.slice (.slice (.num .i64)))), (12, .ro none (.num .i64)), (13, .ro none (.num .i64))], r_impl_choices_L0 c_slices_Contains_int c_slices_Clone_int N⟩), (2, ⟨[(0, .ro none (.num .i64)), (6, .own (.slice (.slice (.num .i64)))), (12, .ro none (.num .i64)), (13, .ro none (.num .i64)), (16, .ro (some 5) (.slice (.slice (.num .i64)))), (17, .ro none (.num .i64)), (18, .ro none (.num .i64))], r_impl_choices_L2 c_slices_Contains_int c_slices_Clone_int N⟩), (4, ⟨[(0, .ro none (.num .i64)), (6, .own (.slice (.slice (.num .i64)))), (8, .ro (some 5) (.slice (.num .i64))), (12, .ro none (.num .i64)), (13, .ro none (.num .i64)), (16, .ro (some 5) (.slice (.slice (.num .i64)))), (17, .ro none (.num .i64)), (18, .ro none (.num .i64)), (22, .ro none (.num .i64)), (23, .ro none (.num .i64))], r_impl_choices_L4 c_slices_Contains_int c_slices_Clone_int N⟩)]
theorem K159 (c_slices_Contains_int : ((List Int) × Int × Unit → Option Bool)) (c_slices_Clone_int : ((List Int) × Unit → Option (List Int))) (N : Nat) (a0 : Int) (a1 : Int) : fnK N (E159 c_slices_Contains_int c_slices_Clone_int) Go.Proofs.Try.f159 [int, int] (.slice (.slice int)) (A159 c_slices_Contains_int c_slices_Clone_int N) (a0, a1, ()) = r_impl_choices c_slices_Contains_int c_slices_Clone_int N a0 a1 := by kernel_rfl
theorem L159 (c_slices_Contains_int : ((List Int) × Int × Unit → Option Bool)) (c_slices_Clone_int : ((List Int) × Unit → Option (List Int))) (N : Nat) : LoopsOk N (E159 c_slices_Contains_int c_slices_Clone_int) (A159 c_slices_Contains_int c_slices_Clone_int N) Go.Proofs.Try.f159.ntmps (retOf (E159 c_slices_Contains_int c_slices_Clone_int) Go.Proofs.Try.f159 (.slice (.slice int))) (loopsOf (Go.Proofs.Try.f159.body.getD .skip)) :=
  LoopsOk.of (l := [(0, lb Go.Proofs.Try.f159 0), (2, lb Go.Proofs.Try.f159 1), (4, lb Go.Proofs.Try.f159 2)]) (by kernel_rfl) (.cons (L := ⟨[(0, .ro none (.num .i64)), (5, .own (.slice (.slice (.num .i64)))), (12, .ro none (.num .i64)), (13, .ro none (.num .i64))], r_impl_choices_L0 c_slices_Contains_int c_slices_Clone_int N⟩) (by kernel_rfl) (by intro s kc ke env; kernel_rfl) (.cons (L := ⟨[(0, .ro none (.num .i64)), (6, .own (.slice (.slice (.num .i64)))), (12, .ro none (.num .i64)), (13, .ro none (.num .i64)), (16, .ro (some 5) (.slice (.slice (.num .i64)))), (17, .ro none (.num .i64)), (18, .ro none (.num .i64))], r_impl_choices_L2 c_slices_Contains_int c_slices_Clone_int N⟩) (by kernel_rfl) (by intro s kc ke env; kernel_rfl) (.cons (L := ⟨[(0, .ro none (.num .i64)), (6, .own (.slice (.slice (.num .i64)))), (8, .ro (some 5) (.slice (.num .i64))), (12, .ro none (.num .i64)), (13, .ro none (.num .i64)), (16, .ro (some 5) (.slice (.slice (.num .i64)))), (17, .ro none (.num .i64)), (18, .ro none (.num .i64)), (22, .ro none (.num .i64)), (23, .ro none (.num .i64))], r_impl_choices_L4 c_slices_Contains_int c_slices_Clone_int N⟩) (by kernel_rfl) (by intro s kc ke env; kernel_rfl) .nil)))
theorem There159 : There Go.Proofs.Try.prog 159 := ⟨_, Go.Proofs.Try.func159, by kernel_rfl, by kernel_rfl⟩
theorem C159 {c_slices_Contains_int : ((List Int) × Int × Unit → Option Bool)} {c_slices_Clone_int : ((List Int) × Unit → Option (List Int))} (h_c_slices_Contains_int : Contract Go.Proofs.Try.prog 170 ⟨[(.slice int), int], .bool, c_slices_Contains_int⟩) (h_c_slices_Clone_int : Contract Go.Proofs.Try.prog 161 ⟨[(.slice int)], (.slice int), c_slices_Clone_int⟩) {f : (Int × Int × Unit → Option (List (List Int)))} (h : ∀ a0 a1 r, f (a0, a1, ()) = some r → ∃ N, r_impl_choices c_slices_Contains_int c_slices_Clone_int N a0 a1 = some r) : Contract Go.Proofs.Try.prog 159 ⟨[int, int], (.slice (.slice int)), f⟩ := by
  refine contract (E := E159 c_slices_Contains_int c_slices_Clone_int) (envOf table ⟨⟨h_c_slices_Contains_int, There170⟩, ⟨⟨h_c_slices_Clone_int, There161⟩, trivial⟩⟩ trivial) mixed Go.Proofs.Try.func159 (c := Go.Proofs.Try.f159.body.getD .skip) (by kernel_rfl) (Nat.le_of_ble_eq_true (by kernel_rfl)) fun xs r hr => ?_
  obtain ⟨a0, a1, _⟩ := xs
  obtain ⟨N, hN⟩ := h _ _ r hr
  exact ⟨N, A159 c_slices_Contains_int c_slices_Clone_int N, L159 c_slices_Contains_int c_slices_Clone_int N, (K159 c_slices_Contains_int c_slices_Clone_int N a0 a1).trans hN⟩
theorem X159 : Contract Go.Proofs.Try.prog 159 ⟨[int, int], (.slice (.slice int)), e_impl_choices⟩ := C159 X170 X161 fun _ _ _ h => ⟨N0, h⟩
-- slices_Reverse_int
theorem There182 : There Go.Proofs.Try.prog 182 := ⟨_, Go.Proofs.Try.func182, by kernel_rfl, by kernel_rfl⟩
end Go.Sx.S
namespace Go.Proofs
open Go.Shelf
def Try.laysReverse_ren : Go.Shelf.Ren := ⟨fun | 112 => 182 | n => n, fun | 28 => 38 | 3 => 3 | 4 => 4 | 0 => 0 | n => n, fun | n => n⟩
theorem Try.laysReverse : Go.Proofs.Lays.n112 Try.prog Try.laysReverse_ren := {
  mixed := by kernel_rfl
  f112 := Try.func182.trans (congrArg some (by kernel_rfl))
  t0 := Try.underlying0
  a0 := Try.isAgg0
  z0 := Try.sizeOf0
  v0 := Try.zeroValue0
  t3 := Try.underlying3
  a3 := Try.isAgg3
  z3 := Try.sizeOf3
  v3 := Try.zeroValue3
  t4 := Try.underlying4
  a4 := Try.isAgg4
  z4 := Try.sizeOf4
  v4 := Try.zeroValue4
  t28 := Try.underlying38
  a28 := Try.isAgg38
  z28 := Try.sizeOf38
  v28 := Try.zeroValue38 }
end Go.Proofs
namespace Go.Sx.S
open Go Go.Sx Go.Sx.R
theorem X182 : MutC Go.Proofs.Try.prog 182 ⟨(.slice int), 0, [], none, e_slices_Reverse_int⟩ :=
  mutC_reverse (fun blk off cap zs w hH hl => Go.Proofs.Any.slices_Reverse_int Go.Proofs.Try.laysReverse blk off cap zs w hH hl) (fun a cap w => Go.Proofs.Any.slices_Reverse_int_empty Go.Proofs.Try.laysReverse a cap w)

-- impl_indicesOk
def E129 (c_slices_Contains_int : ((List Int) × Int × Unit → Option Bool)) : Env := ⟨tys, [], [(170, ⟨[(.slice int), int], .bool, c_slices_Contains_int⟩)], []⟩
def A129 (c_slices_Contains_int : ((List Int) × Int × Unit → Option Bool)) (N : Nat) : List (Nat × Loop (Ty.den .bool)) := [(0, ⟨[(0, .ro none (.slice (.num .i64))), (1, .ro none (.num .i64)), (7, .ro none (.slice (.num .i64))), (8, .ro none (.num .i64)), (9, .ro none (.num .i64))], r_impl_indicesOk_L0 c_slices_Contains_int N⟩)]
theorem K129 (c_slices_Contains_int : ((List Int) × Int × Unit → Option Bool)) (N : Nat) (a0 : (List Int)) (a1 : Int) : fnK N (E129 c_slices_Contains_int) Go.Proofs.Try.f129 [(.slice int), int] .bool (A129 c_slices_Contains_int N) (a0, a1, ()) = r_impl_indicesOk c_slices_Contains_int N a0 a1 := by kernel_rfl
theorem L129 (c_slices_Contains_int : ((List Int) × Int × Unit → Option Bool)) (N : Nat) : LoopsOk N (E129 c_slices_Contains_int) (A129 c_slices_Contains_int N) Go.Proofs.Try.f129.ntmps (retOf (E129 c_slices_Contains_int) Go.Proofs.Try.f129 .bool) (loopsOf (Go.Proofs.Try.f129.body.getD .skip)) :=
  LoopsOk.of (l := [(0, lb Go.Proofs.Try.f129 0)]) (by kernel_rfl) (.cons (L := ⟨[(0, .ro none (.slice (.num .i64))), (1, .ro none (.num .i64)), (7, .ro none (.slice (.num .i64))), (8, .ro none (.num .i64)), (9, .ro none (.num .i64))], r_impl_indicesOk_L0 c_slices_Contains_int N⟩) (by kernel_rfl) (by intro s kc ke env; kernel_rfl) .nil)
theorem There129 : There Go.Proofs.Try.prog 129 := ⟨_, Go.Proofs.Try.func129, by kernel_rfl, by kernel_rfl⟩
theorem C129 {c_slices_Contains_int : ((List Int) × Int × Unit → Option Bool)} (h_c_slices_Contains_int : Contract Go.Proofs.Try.prog 170 ⟨[(.slice int), int], .bool, c_slices_Contains_int⟩) {f : ((List Int) × Int × Unit → Option Bool)} (h : ∀ a0 a1 r, f (a0, a1, ()) = some r → ∃ N, r_impl_indicesOk c_slices_Contains_int N a0 a1 = some r) : Contract Go.Proofs.Try.prog 129 ⟨[(.slice int), int], .bool, f⟩ := by
  refine contract (E := E129 c_slices_Contains_int) (envOf table ⟨⟨h_c_slices_Contains_int, There170⟩, trivial⟩ trivial) mixed Go.Proofs.Try.func129 (c := Go.Proofs.Try.f129.body.getD .skip) (by kernel_rfl) (Nat.le_of_ble_eq_true (by kernel_rfl)) fun xs r hr => ?_
  obtain ⟨a0, a1, _⟩ := xs
  obtain ⟨N, hN⟩ := h _ _ r hr
  exact ⟨N, A129 c_slices_Contains_int N, L129 c_slices_Contains_int N, (K129 c_slices_Contains_int N a0 a1).trans hN⟩
theorem X129 : Contract Go.Proofs.Try.prog 129 ⟨[(.slice int), int], .bool, e_impl_indicesOk⟩ := C129 X170 fun _ _ _ h => ⟨N0, h⟩
-- impl_IsCircular
def E160 (c_slices_Clone_int : ((List Int) × Unit → Option (List Int))) (m_slices_Reverse_int : ((List Int) → (Unit) → Option ((List Int) × Unit))) (c_impl_indicesOk : ((List Int) × Int × Unit → Option Bool)) : Env := ⟨tys, [], [(161, ⟨[(.slice int)], (.slice int), c_slices_Clone_int⟩), (129, ⟨[(.slice int), int], .bool, c_impl_indicesOk⟩)], [(182, ⟨(.slice int), 0, [], none, m_slices_Reverse_int⟩)]⟩
def A160 (c_slices_Clone_int : ((List Int) × Unit → Option (List Int))) (m_slices_Reverse_int : ((List Int) → (Unit) → Option ((List Int) × Unit))) (c_impl_indicesOk : ((List Int) × Int × Unit → Option Bool)) (N : Nat) : List (Nat × Loop (Ty.den .bool)) := [(0, ⟨[(7, .own (.slice (.num .i64))), (8, .ro none (.num .i64)), (41, .ro (some 7) (.slice (.num .i64))), (42, .ro none (.num .i64)), (43, .ro none (.num .i64))], r_impl_IsCircular_L0 c_slices_Clone_int m_slices_Reverse_int c_impl_indicesOk N⟩)]
theorem K160 (c_slices_Clone_int : ((List Int) × Unit → Option (List Int))) (m_slices_Reverse_int : ((List Int) → (Unit) → Option ((List Int) × Unit))) (c_impl_indicesOk : ((List Int) × Int × Unit → Option Bool)) (N : Nat) (a0 : Int) (a1 : (List Int)) (a2 : (List Int)) : fnK N (E160 c_slices_Clone_int m_slices_Reverse_int c_impl_indicesOk) Go.Proofs.Try.f160 [int, (.slice int), (.slice int)] .bool (A160 c_slices_Clone_int m_slices_Reverse_int c_impl_indicesOk N) (a0, a1, a2, ()) = r_impl_IsCircular c_slices_Clone_int m_slices_Reverse_int c_impl_indicesOk N a0 a1 a2 := by kernel_rfl
theorem L160 (c_slices_Clone_int : ((List Int) × Unit → Option (List Int))) (m_slices_Reverse_int : ((List Int) → (Unit) → Option ((List Int) × Unit))) (c_impl_indicesOk : ((List Int) × Int × Unit → Option Bool)) (N : Nat) : LoopsOk N (E160 c_slices_Clone_int m_slices_Reverse_int c_impl_indicesOk) (A160 c_slices_Clone_int m_slices_Reverse_int c_impl_indicesOk N) Go.Proofs.Try.f160.ntmps (retOf (E160 c_slices_Clone_int m_slices_Reverse_int c_impl_indicesOk) Go.Proofs.Try.f160 .bool) (loopsOf (Go.Proofs.Try.f160.body.getD .skip)) :=
  LoopsOk.of (l := [(0, lb Go.Proofs.Try.f160 0)]) (by kernel_rfl) (.cons (L := ⟨[(7, .own (.slice (.num .i64))), (8, .ro none (.num .i64)), (41, .ro (some 7) (.slice (.num .i64))), (42, .ro none (.num .i64)), (43, .ro none (.num .i64))], r_impl_IsCircular_L0 c_slices_Clone_int m_slices_Reverse_int c_impl_indicesOk N⟩) (by kernel_rfl) (by intro s kc ke env; kernel_rfl) .nil)
theorem There160 : There Go.Proofs.Try.prog 160 := ⟨_, Go.Proofs.Try.func160, by kernel_rfl, by kernel_rfl⟩
theorem C160 {c_slices_Clone_int : ((List Int) × Unit → Option (List Int))} {m_slices_Reverse_int : ((List Int) → (Unit) → Option ((List Int) × Unit))} {c_impl_indicesOk : ((List Int) × Int × Unit → Option Bool)} (h_c_slices_Clone_int : Contract Go.Proofs.Try.prog 161 ⟨[(.slice int)], (.slice int), c_slices_Clone_int⟩) (h_m_slices_Reverse_int : MutC Go.Proofs.Try.prog 182 ⟨(.slice int), 0, [], none, m_slices_Reverse_int⟩) (h_c_impl_indicesOk : Contract Go.Proofs.Try.prog 129 ⟨[(.slice int), int], .bool, c_impl_indicesOk⟩) {f : (Int × (List Int) × (List Int) × Unit → Option Bool)} (h : ∀ a0 a1 a2 r, f (a0, a1, a2, ()) = some r → ∃ N, r_impl_IsCircular c_slices_Clone_int m_slices_Reverse_int c_impl_indicesOk N a0 a1 a2 = some r) : Contract Go.Proofs.Try.prog 160 ⟨[int, (.slice int), (.slice int)], .bool, f⟩ := by
  refine contract (E := E160 c_slices_Clone_int m_slices_Reverse_int c_impl_indicesOk) (envOf table ⟨⟨h_c_slices_Clone_int, There161⟩, ⟨⟨h_c_impl_indicesOk, There129⟩, trivial⟩⟩ ⟨⟨h_m_slices_Reverse_int, There182⟩, trivial⟩) mixed Go.Proofs.Try.func160 (c := Go.Proofs.Try.f160.body.getD .skip) (by kernel_rfl) (Nat.le_of_ble_eq_true (by kernel_rfl)) fun xs r hr => ?_
  obtain ⟨a0, a1, a2, _⟩ := xs
  obtain ⟨N, hN⟩ := h _ _ _ r hr
  exact ⟨N, A160 c_slices_Clone_int m_slices_Reverse_int c_impl_indicesOk N, L160 c_slices_Clone_int m_slices_Reverse_int c_impl_indicesOk N, (K160 c_slices_Clone_int m_slices_Reverse_int c_impl_indicesOk N a0 a1 a2).trans hN⟩
theorem X160 : Contract Go.Proofs.Try.prog 160 ⟨[int, (.slice int), (.slice int)], .bool, e_impl_IsCircular⟩ := C160 X161 X182 X129 fun _ _ _ _ h => ⟨N0, h⟩
-- impl_CircularPairs
theorem There113 : There Go.Proofs.Try.prog 113 := ⟨_, Go.Proofs.Try.func113, by kernel_rfl, by kernel_rfl⟩
open Go.Proofs Go.RowKit
theorem cpRow_len (k : Int) (p : List Int) (Q : List (List Int)) : (cpRow k p Q).length ≤ Q.length := by
  simp only [cpRow, List.length_map]; exact List.length_filter_le _ _
theorem flatMap_len {α β : Type} (f : α → List β) (n : Nat) : ∀ (l : List α), (∀ x ∈ l, (f x).length ≤ n) → (l.flatMap f).length ≤ l.length * n
  | [], _ => by simp
  | x :: l, h => by
    have := flatMap_len f n l fun y hy => h y (by simp [hy])
    have hx := h x (by simp)
    simp only [List.flatMap_cons, List.length_append, List.length_cons, Nat.add_mul, Nat.one_mul]
    omega
theorem cpSize_len (k : Int) (P Q : List (List Int)) (h : P.length ≤ 1000) (h2 : Q.length ≤ 1000) : (cpSize k P Q).length ≤ 1000000 := by
  have := flatMap_len (fun p => cpRow k p Q) 1000 P fun p _ => Nat.le_trans (cpRow_len k p Q) h2
  have : P.length * 1000 ≤ 1000 * 1000 := Nat.mul_le_mul_right _ h
  simp only [cpSize]; omega
theorem cpAll_len {k : Int} {n : Nat} (h : cpOk k n) (hn : n ≤ 2) : (cpAll k n).length ≤ 2000000 := by
  have := flatMap_len (fun i => cpSize k (cpL k (i + 1)) (cpL k (i + 1))) 1000000 (List.range n) fun i hi => by
    have := h i (List.mem_range.1 hi)
    exact cpSize_len k _ _ this.2.1 this.2.1
  have h2 : (List.range n).length * 1000000 ≤ 2 * 1000000 := Nat.mul_le_mul_right _ (by simpa using hn)
  simp only [cpAll]; omega
theorem cpAll_succ (k : Int) (n : Nat) : cpAll k (n + 1) = cpAll k n ++ cpSize k (cpL k (n + 1)) (cpL k (n + 1)) := by
  simp [cpAll, List.range_succ]
theorem cpSize_succ (k : Int) {P : List (List Int)} {i : Nat} {p : List Int} (hp : P[i]? = some p) (Q : List (List Int)) : cpSize k (P.take (i + 1)) Q = cpSize k (P.take i) Q ++ cpRow k p Q := by
  simp only [cpSize]
  rw [List.take_add_one, hp]; simp
theorem cpRow_succ (k : Int) (p : List Int) {Q : List (List Int)} {j : Nat} {q : List Int} (hq : Q[j]? = some q) : cpRow k p (Q.take (j + 1)) = cpRow k p (Q.take j) ++ (if circB k p q then [[p, q]] else []) := by
  simp only [cpRow]
  rw [List.take_add_one, hq, List.filter_append, List.map_append]
  cases h : circB k p q <;> simp [h]

theorem choicesC {k m : Int} {L : List (List Int)} (h : e_impl_choices (k, m, ()) = some L) (w : World) : Calls Go.Proofs.Try.prog 159 #[.int .i64 k, .int .i64 m] w fun e w' =>
    ∃ p c, e = .returned (.slice p L.length c) ∧ Grow w w' ∧ Rep true w' T2 [.slice p L.length c] L (fun c => w.heap.size ≤ c ∧ c < w'.heap.size) := by
  refine (X159 (k, m, ()) L [.int .i64 k, .int .i64 m] w h ⟨_, _, rfl, ⟨[.int .i64 k], rfl, rfl⟩, _, _, rfl, ⟨[.int .i64 m], rfl, rfl⟩, rfl⟩).mono fun e w' ⟨v, cs, h1, h2, h3, h4⟩ => ?_
  obtain ⟨p, c, hcs, _⟩ := id h4
  have hcs : cs = [.slice p L.length c] := hcs
  subst hcs
  have hv : v = .slice p L.length c := (List.cons.inj h3).1.symm
  subst hv
  exact ⟨p, c, h1, h2, h4⟩

theorem circC {k : Int} {p q : List Int} {b : Bool} (h : e_impl_IsCircular (k, p, q, ()) = some b) {w : World} {vp vq : Value} (hp : Rep false w T1 [vp] p (fun c => c < w.heap.size)) (hq : Rep false w T1 [vq] q (fun c => c < w.heap.size)) :
    Calls Go.Proofs.Try.prog 160 #[.int .i64 k, vp, vq] w fun e w' => e = .returned (.bool b) ∧ Grow w w' := by
  refine (X160 (k, p, q, ()) b [.int .i64 k, vp, vq] w h ⟨_, _, rfl, ⟨[.int .i64 k], rfl, rfl⟩, _, _, rfl, ⟨[vp], rfl, hp⟩, _, _, rfl, ⟨[vq], rfl, hq⟩, rfl⟩).mono fun e w' ⟨v, cs, h1, h2, h3, h4⟩ => ?_
  simp only [Rep] at h4
  subst h4
  simp only [Shape, Shape1, List.cons.injEq, and_true] at h3
  exact ⟨by rw [h1, h3], h2⟩

theorem cloneC {p : List Int} (h : e_slices_Clone_int (p, ()) = some p) {w : World} {vp : Value} (hp : Rep false w T1 [vp] p (fun c => c < w.heap.size)) :
    Calls Go.Proofs.Try.prog 161 #[vp] w fun e w' => ∃ pc cc, e = .returned (.slice pc p.length cc) ∧ Grow w w' ∧ Rep true w' T1 [.slice pc p.length cc] p (fun c => w.heap.size ≤ c ∧ c < w'.heap.size) := by
  refine (X161 (p, ()) p [vp] w h ⟨_, _, rfl, ⟨[vp], rfl, hp⟩, rfl⟩).mono fun e w' ⟨v, cs, h1, h2, h3, h4⟩ => ?_
  have h3 : cs = [v] := h3
  subst h3
  obtain ⟨pc, cc, hv, _⟩ := id h4
  have hv : v = .slice pc p.length cc := (List.cons.inj hv).1
  subst hv
  exact ⟨pc, cc, h1, h2, h4⟩

theorem cpEnv : EnvOk Go.Proofs.Try.prog ⟨tys, [], [], []⟩ := envOf table trivial trivial
theorem cpT : (⟨tys, [], [], []⟩ : Env).tyOf 116 = some T3 := by kernel_rfl

set_option maxHeartbeats 2000000 in
theorem cpBad (k : Int) (hk : k < 1 ∨ 5 < k) (w : World) : Calls Go.Proofs.Try.prog 113 #[.int .i64 k] w fun e w' => ∃ v, e = .returned v ∧ Gath0 w w' v [] := by
  by_cases h1 : k < 1
  · go_enter Go.Proofs.Try.func113, Go.Proofs.Try.ntmps113
    go_wp2
    go_ret
    exact ⟨_, rfl, Grow.alloc _ _ _, fun _ => False, ⟨_, 0, rfl, Nat.le_refl _, .inl rfl⟩, fun _ h => h.elim⟩
  · have h5 : (5 : Int) < k := by omega
    go_enter Go.Proofs.Try.func113, Go.Proofs.Try.ntmps113
    go_wp2
    go_ret
    exact ⟨_, rfl, Grow.alloc _ _ _, fun _ => False, ⟨_, 0, rfl, Nat.le_refl _, .inl rfl⟩, fun _ h => h.elim⟩

set_option maxRecDepth 1000000 in
set_option maxHeartbeats 4000000 in
theorem cpWalk (k : Int) (hk : ¬ (k < 1 ∨ 5 < k)) (hok : cpOk k (k.toNat / 2)) (w : World) :
    Calls Go.Proofs.Try.prog 113 #[.int .i64 k] w fun e w' => ∃ v, e = .returned v ∧ Gath0 w w' v (cpAll k (k.toNat / 2)) := by
  obtain ⟨K, rfl⟩ : ∃ K : Nat, k = K := ⟨k.toNat, by omega⟩
  have h1 : 1 ≤ K := by omega
  have h5 : K ≤ 5 := by omega
  have hk1 : ¬ (K : Int) < 1 := by omega
  have hk5 : ¬ (5 : Int) < K := by omega
  clear hk
  simp only [Int.toNat_natCast] at hok ⊢
  have HO : Aside _ := hok
  clear hok
  go_enter Go.Proofs.Try.func113, Go.Proofs.Try.ntmps113
  go_wp2_with fail
  go_loopg [3, 4] 10 (fun gg s3 s4 wr => ∃ m : Nat, s4 = .int .i64 ((m : Int) + 1) ∧ m ≤ 2 ∧ m ≤ K / 2 ∧ 2 - m ≤ gg ∧ Aside (Gath0 w wr s3 (cpAll K m)))
  case atStart =>
    exact ⟨0, rfl, by omega, by omega, by omega, (show Aside _ from ⟨Grow.alloc _ _ _, fun _ => False, ⟨_, 0, rfl, Nat.le_refl _, .inl rfl⟩, fun _ h => h.elim⟩)⟩
  case round =>
    obtain ⟨m, rfl, hm2, hmK, hgg, R⟩ := hrel
    by_cases hlt : m < K / 2
    · have hle : (2 : Int) * ((m : Int) + 1) ≤ K := by omega
      obtain ⟨o1, oL, o3⟩ := HO.out m hlt
      have o1 : e_impl_choices (K, (m : Int) + 1, ()) = some (cpL K (m + 1)) := o1
      generalize hL : cpL K (m + 1) = L at o1 oL o3
      have HX := choicesC o1
      have HC : Aside _ := o3
      have HL : Aside _ := hL
      have HX : Aside _ := HX
      clear o1 o3 hL
      go_wp2_with fail
      refine Calls.mono (HX.out wr) ?_
      rintro e w1 ⟨pP, cP, rfl, g1, r1⟩
      have R1 : Aside (Gath1 w w1 u3 (cpAll K m) (.slice pP L.length cP) L) := R.out.with g1 r1
      clear g1 r1
      go_wp2_with fail
      go_loopg [3, 27] L.length (fun gg s3 s27 wr => ∃ i : Nat, s27 = .int .i64 i ∧ i ≤ L.length ∧ L.length - i ≤ gg ∧ Aside (Gath1 w wr s3 (cpAll K m ++ cpSize K (L.take i) L) (.slice pP L.length cP) L))
      case atStart => exact ⟨0, rfl, by omega, by omega, (show Aside _ by simpa [cpSize, Aside] using R1.out)⟩
      case round =>
        obtain ⟨i, rfl, hi, hgi, R2⟩ := hrel
        by_cases hlt2 : i < L.length
        · have hlt2z : (i : Int) < (L.length : Int) := by omega
          obtain ⟨p, hp⟩ : ∃ p, L[i]? = some p := ⟨_, List.getElem?_eq_getElem hlt2⟩
          obtain ⟨b, o, vp, hpP, hcell, R3⟩ := R2.out.elem hp
          subst hpP
          obtain ⟨hclone, hcirc⟩ := HC.out p (List.mem_of_getElem? hp)
          have HP : Aside _ := hp
          have HK : Aside _ := hclone
          have HQ : Aside _ := hcirc
          have R3 : Aside _ := R3
          clear hp hclone hcirc
          go_wp2_with fail
          refine Calls.mono (HX.out wr) ?_
          rintro e w2 ⟨pQ, cQ, rfl, g2, r2⟩
          have R4 : Aside _ := R3.out.fresh g2 r2
          clear g2 r2
          go_wp2_with fail
          go_loopg [3, 35] L.length (fun gg s3 s35 wr => ∃ j : Nat, s35 = .int .i64 j ∧ j ≤ L.length ∧ L.length - j ≤ gg ∧ Aside (Gath w wr s3 (cpAll K m ++ cpSize K (L.take i) L ++ cpRow K p (L.take j)) vp p (.slice (some ⟨b, o, none⟩) L.length cP) L pQ cQ L j))
          case atStart => exact ⟨0, rfl, by omega, by omega, (show Aside _ by simpa [cpRow, Aside] using R4.out)⟩
          case round =>
            obtain ⟨j, rfl, hj, hgj, R5⟩ := hrel
            by_cases hlt3 : j < L.length
            · have hlt3z : (j : Int) < (L.length : Int) := by omega
              obtain ⟨q, hq⟩ : ∃ q, L[j]? = some q := ⟨_, List.getElem?_eq_getElem hlt3⟩
              obtain ⟨b2, o2, pu, cu, hpQ, hcell2, ru⟩ := R5.out.elem hq
              subst hpQ
              generalize hout : cpAll (K : Int) m ++ cpSize (K : Int) (L.take i) L ++ cpRow (K : Int) p (L.take j) = out at R5
              obtain ⟨po, co, hvo⟩ := R5.out.head
              subst hvo
              have HOUT : Aside _ := hout
              have HI := circC (HQ.out q (List.mem_of_getElem? hq)) R5.out.argp ru
              have HQ2 : Aside _ := hq
              have HU : Aside _ := hcell2
              generalize hcb : circB (K : Int) p q = bb at HI
              have HI : Aside _ := HI
              have HCB : Aside _ := hcb
              clear hq ru hcb hout
              cases bb with
              | false =>
                go_wp2_with fail
                refine Calls.mono HI.out ?_
                rintro e w3 ⟨rfl, g3⟩
                have G3 : Aside (Grow wr w3) := g3
                clear g3 hcell2
                go_wp2_with fail
                go_roundg (L.length - (j + 1))
                case measure => omega
                case rel =>
                  refine ⟨j + 1, by go_num, by omega, Nat.le_refl _, (show Aside _ from ?_)⟩
                  rw [cpRow_succ _ _ HQ2.out, HCB.out, ← List.append_assoc, HOUT.out]
                  have := (R5.out.later G3.out).skip HQ2.out
                  simpa [Aside] using this
              | true =>
                go_wp2_with fail
                refine Calls.mono HI.out ?_
                rintro e w3 ⟨rfl, g3⟩
                have R6 : Aside _ := R5.out.later g3
                have HU3 : Aside _ := And.intro (HU.out) g3
                clear g3 hcell2
                go_wp2_with fail
                refine Calls.mono (cloneC HK.out R6.out.argp) ?_
                rintro e w4 ⟨pc, cc, rfl, g4, r4⟩
                have hlen : out.length ≤ 17179869183 := by
                  have k1 : (cpAll (K : Int) m).length ≤ 2000000 := cpAll_len (fun i hi => HO.out i (by omega)) hm2
                  have k2 : (cpSize (K : Int) (L.take i) L).length ≤ 1000000 := cpSize_len _ _ _ (by rw [List.length_take]; omega) oL
                  have k3 : (cpRow (K : Int) p (L.take j)).length ≤ 1000 := Nat.le_trans (cpRow_len _ _ _) (by rw [List.length_take]; omega)
                  rw [← HOUT.out]
                  simp only [List.length_append]
                  omega
                have HR : Aside _ := R6.out.push cpEnv cpT HQ2.out rfl (show w3.cell? ⟨b2, o2 + j, none⟩ = some (.slice pu q.length cu) by rw [← HU3.out.1]; simp only [World.cell?, HU3.out.2.same b2 (by
                  rcases Nat.lt_or_ge b2 wr.heap.size with h | h
                  · exact h
                  · have := HU3.out.1; simp [World.cell?, Array.getElem?_eq_none h] at this)]) g4 r4 hlen 116 (A := 38) (B := 70)
                clear g4 r4 hlen
                obtain ⟨v', w', hrun, R7⟩ := HR.out
                have R7 : Aside _ := R7
                have HRUN : Aside _ := hrun
                clear hrun HR
                go_wp2_with (at_builtin; refine wpList_append_run rfl rfl rfl rfl HRUN.out ?_)
                go_roundg (L.length - (j + 1))
                case measure => omega
                case rel =>
                  refine ⟨j + 1, by go_num, by omega, Nat.le_refl _, (show Aside _ from ?_)⟩
                  rw [cpRow_succ _ _ HQ2.out, HCB.out, ← List.append_assoc, HOUT.out]
                  exact R7.out
            · obtain rfl : j = L.length := by omega
              have hlt3z : ¬ (L.length : Int) < (L.length : Int) := by omega
              go_wp2_with fail
              go_roundg (L.length - (i + 1))
              case measure => omega
              case rel =>
                refine ⟨i + 1, by go_num, by omega, Nat.le_refl _, (show Aside _ from ?_)⟩
                have := R5.out.drop
                rw [List.take_length, List.append_assoc, ← cpSize_succ _ HP.out] at this
                exact this
        · obtain rfl : i = L.length := by omega
          have hlt2z : ¬ (L.length : Int) < (L.length : Int) := by omega
          go_wp2_with fail
          go_roundg (2 - (m + 1))
          case measure => omega
          case rel =>
            refine ⟨m + 1, by go_num, by omega, by omega, Nat.le_refl _, (show Aside _ from ?_)⟩
            have := R2.out.drop
            rw [List.take_length] at this
            rw [cpAll_succ, HL.out]
            exact this
    · obtain rfl : m = K / 2 := by omega
      have hle : ¬ (2 : Int) * (((K / 2 : Nat) : Int) + 1) ≤ K := by omega
      go_wp2_with fail
      go_ret
      exact ⟨_, rfl, R.out⟩

theorem cpContract {k : Int} {u : Unit} {r : List (List (List Int))} (h : e_impl_CircularPairs (k, u) = some r) (w : World) : Calls Go.Proofs.Try.prog 113 #[.int .i64 k] w fun e w' => ∃ v cs, e = .returned v ∧ Grow w w' ∧ Shape T3 v cs ∧ Rep true w' T3 cs r (fun c => w.heap.size ≤ c ∧ c < w'.heap.size) := by
  have key : Calls Go.Proofs.Try.prog 113 #[.int .i64 k] w fun e w' => ∃ v, e = .returned v ∧ Gath0 w w' v r := by
    unfold e_impl_CircularPairs at h
    split at h
    · rename_i hk
      simp only [Option.some.injEq] at h
      subst h
      exact cpBad k hk w
    · rename_i hk
      split at h
      · rename_i hok
        simp only [Option.some.injEq] at h
        subst h
        exact cpWalk k hk hok w
      · simp at h
  refine key.mono fun e w' ⟨v, h1, h2⟩ => ?_
  obtain ⟨So, h3, h4⟩ := h2.ex
  exact ⟨v, [v], h1, h2.grow, rfl, h3.mono h4⟩

theorem X113 : Contract Go.Proofs.Try.prog 113 ⟨[int], .slice (.slice (.slice int)), e_impl_CircularPairs⟩ := by
  intro xs r vs w hr hargs
  obtain ⟨k, u⟩ := xs
  obtain ⟨v1, vr, rfl, ⟨cs1, sh1, rp1⟩, rfl⟩ := hargs
  have rp1 : cs1 = [.int .i64 k] := rp1
  subst rp1
  have e1 : v1 = .int .i64 k := (List.cons.inj sh1).1.symm
  subst e1
  exact cpContract hr w


-- slices_Delete_int
theorem There167 : There Go.Proofs.Try.prog 167 := ⟨_, Go.Proofs.Try.func167, by kernel_rfl, by kernel_rfl⟩
end Go.Sx.S
namespace Go.Proofs
open Go.Shelf
def Try.laysDelete_ren : Go.Shelf.Ren := ⟨fun | 23 => 167 | n => n, fun | 22 => 38 | 3 => 3 | 4 => 4 | 0 => 0 | n => n, fun | n => n⟩
theorem Try.laysDelete : Go.Proofs.Lays2.n23 Try.prog Try.laysDelete_ren := {
  mixed := by kernel_rfl
  f23 := Try.func167.trans (congrArg some (by kernel_rfl))
  t0 := Try.underlying0
  a0 := Try.isAgg0
  z0 := Try.sizeOf0
  v0 := Try.zeroValue0
  t3 := Try.underlying3
  a3 := Try.isAgg3
  z3 := Try.sizeOf3
  v3 := Try.zeroValue3
  t4 := Try.underlying4
  a4 := Try.isAgg4
  z4 := Try.sizeOf4
  v4 := Try.zeroValue4
  t22 := Try.underlying38
  a22 := Try.isAgg38
  z22 := Try.sizeOf38
  v22 := Try.zeroValue38
  i3 := by kernel_rfl }
end Go.Proofs
namespace Go.Sx.S
open Go Go.Sx Go.Sx.R
theorem X167 : TakeC Go.Proofs.Try.prog 167 ⟨(.slice int), 0, [int, int], some (.slice int), e_slices_Delete_int⟩ :=
  takeC_delete (fun blk off cap i j zs w hH h1 h2 h3 h4 => Go.Proofs.Any.slices_Delete_int Go.Proofs.Try.laysDelete blk off cap i j zs w hH h1 h2 h3 h4) (fun a cap w => Go.Proofs.Any.slices_Delete_int_empty Go.Proofs.Try.laysDelete a cap w)

-- impl_det
def E130 (c_slices_Clone_int : ((List Int) × Unit → Option (List Int))) (m_slices_Delete_int : ((List Int) → (Int × Int × Unit) → Option ((List Int) × (List Int)))) (c_impl_det : ((List (List Int)) × (List Int) × (List Int) × Unit → Option Int)) : Env := ⟨tys, [], [(161, ⟨[(.slice int)], (.slice int), c_slices_Clone_int⟩), (130, ⟨[(.slice (.slice int)), (.slice int), (.slice int)], int, c_impl_det⟩)], [(167, ⟨(.slice int), 0, [int, int], some (.slice int), m_slices_Delete_int⟩)]⟩
def A130 (c_slices_Clone_int : ((List Int) × Unit → Option (List Int))) (m_slices_Delete_int : ((List Int) → (Int × Int × Unit) → Option ((List Int) × (List Int)))) (c_impl_det : ((List (List Int)) × (List Int) × (List Int) × Unit → Option Int)) (N : Nat) : List (Nat × Loop (Ty.den int)) := [(0, ⟨[(0, .ro none (.slice (.slice (.num .i64)))), (1, .ro none (.slice (.num .i64))), (2, .ro none (.slice (.num .i64))), (7, .ro none (.num .i64)), (8, .ro none (.num .i64)), (15, .ro none (.slice (.num .i64))), (16, .ro none (.num .i64)), (17, .ro none (.num .i64))], r_impl_det_L0 c_slices_Clone_int m_slices_Delete_int c_impl_det N⟩)]
theorem K130 (c_slices_Clone_int : ((List Int) × Unit → Option (List Int))) (m_slices_Delete_int : ((List Int) → (Int × Int × Unit) → Option ((List Int) × (List Int)))) (c_impl_det : ((List (List Int)) × (List Int) × (List Int) × Unit → Option Int)) (N : Nat) (a0 : (List (List Int))) (a1 : (List Int)) (a2 : (List Int)) : fnK N (E130 c_slices_Clone_int m_slices_Delete_int c_impl_det) Go.Proofs.Try.f130 [(.slice (.slice int)), (.slice int), (.slice int)] int (A130 c_slices_Clone_int m_slices_Delete_int c_impl_det N) (a0, a1, a2, ()) = r_impl_det c_slices_Clone_int m_slices_Delete_int c_impl_det N a0 a1 a2 := by kernel_rfl
theorem L130 (c_slices_Clone_int : ((List Int) × Unit → Option (List Int))) (m_slices_Delete_int : ((List Int) → (Int × Int × Unit) → Option ((List Int) × (List Int)))) (c_impl_det : ((List (List Int)) × (List Int) × (List Int) × Unit → Option Int)) (N : Nat) : LoopsOk N (E130 c_slices_Clone_int m_slices_Delete_int c_impl_det) (A130 c_slices_Clone_int m_slices_Delete_int c_impl_det N) Go.Proofs.Try.f130.ntmps (retOf (E130 c_slices_Clone_int m_slices_Delete_int c_impl_det) Go.Proofs.Try.f130 int) (loopsOf (Go.Proofs.Try.f130.body.getD .skip)) :=
  LoopsOk.of (l := [(0, lb Go.Proofs.Try.f130 0)]) (by kernel_rfl) (.cons (L := ⟨[(0, .ro none (.slice (.slice (.num .i64)))), (1, .ro none (.slice (.num .i64))), (2, .ro none (.slice (.num .i64))), (7, .ro none (.num .i64)), (8, .ro none (.num .i64)), (15, .ro none (.slice (.num .i64))), (16, .ro none (.num .i64)), (17, .ro none (.num .i64))], r_impl_det_L0 c_slices_Clone_int m_slices_Delete_int c_impl_det N⟩) (by kernel_rfl) (by intro s kc ke env; kernel_rfl) .nil)
theorem There130 : There Go.Proofs.Try.prog 130 := ⟨_, Go.Proofs.Try.func130, by kernel_rfl, by kernel_rfl⟩
theorem C130 {c_slices_Clone_int : ((List Int) × Unit → Option (List Int))} {m_slices_Delete_int : ((List Int) → (Int × Int × Unit) → Option ((List Int) × (List Int)))} {c_impl_det : ((List (List Int)) × (List Int) × (List Int) × Unit → Option Int)} (h_c_slices_Clone_int : Contract Go.Proofs.Try.prog 161 ⟨[(.slice int)], (.slice int), c_slices_Clone_int⟩) (h_m_slices_Delete_int : TakeC Go.Proofs.Try.prog 167 ⟨(.slice int), 0, [int, int], some (.slice int), m_slices_Delete_int⟩) (h_c_impl_det : Contract Go.Proofs.Try.prog 130 ⟨[(.slice (.slice int)), (.slice int), (.slice int)], int, c_impl_det⟩) {f : ((List (List Int)) × (List Int) × (List Int) × Unit → Option Int)} (h : ∀ a0 a1 a2 r, f (a0, a1, a2, ()) = some r → ∃ N, r_impl_det c_slices_Clone_int m_slices_Delete_int c_impl_det N a0 a1 a2 = some r) : Contract Go.Proofs.Try.prog 130 ⟨[(.slice (.slice int)), (.slice int), (.slice int)], int, f⟩ := by
  refine contract (E := E130 c_slices_Clone_int m_slices_Delete_int c_impl_det) (envOf table ⟨⟨h_c_slices_Clone_int, There161⟩, ⟨⟨h_c_impl_det, There130⟩, trivial⟩⟩ ⟨⟨h_m_slices_Delete_int, There167⟩, trivial⟩) mixed Go.Proofs.Try.func130 (c := Go.Proofs.Try.f130.body.getD .skip) (by kernel_rfl) (Nat.le_of_ble_eq_true (by kernel_rfl)) fun xs r hr => ?_
  obtain ⟨a0, a1, a2, _⟩ := xs
  obtain ⟨N, hN⟩ := h _ _ _ r hr
  exact ⟨N, A130 c_slices_Clone_int m_slices_Delete_int c_impl_det N, L130 c_slices_Clone_int m_slices_Delete_int c_impl_det N, (K130 c_slices_Clone_int m_slices_Delete_int c_impl_det N a0 a1 a2).trans hN⟩
theorem X130_n : ∀ n, Contract Go.Proofs.Try.prog 130 ⟨[(.slice (.slice int)), (.slice int), (.slice int)], int, e_impl_det_n n⟩
  | 0 => fun xs r vs w h => by simp [e_impl_det_n] at h
  | n + 1 => C130 X161 X167 (X130_n n) fun _ _ _ _ h => ⟨N0, h⟩
theorem X130 : Contract Go.Proofs.Try.prog 130 ⟨[(.slice (.slice int)), (.slice int), (.slice int)], int, e_impl_det⟩ := X130_n N0
-- impl_circular
def E162 (c_impl_det : ((List (List Int)) × (List Int) × (List Int) × Unit → Option Int)) : Env := ⟨tys, [], [(130, ⟨[(.slice (.slice int)), (.slice int), (.slice int)], int, c_impl_det⟩)], []⟩
def A162 (_c_impl_det : ((List (List Int)) × (List Int) × (List Int) × Unit → Option Int)) (_N : Nat) : List (Nat × Loop (Ty.den int)) := []
theorem K162 (c_impl_det : ((List (List Int)) × (List Int) × (List Int) × Unit → Option Int)) (N : Nat) (a0 : (List (List Int))) (a1 : (List Int)) (a2 : (List Int)) : fnK N (E162 c_impl_det) Go.Proofs.Try.f162 [(.slice (.slice int)), (.slice int), (.slice int)] int (A162 c_impl_det N) (a0, a1, a2, ()) = r_impl_circular c_impl_det N a0 a1 a2 := by kernel_rfl
theorem L162 (c_impl_det : ((List (List Int)) × (List Int) × (List Int) × Unit → Option Int)) (N : Nat) : LoopsOk N (E162 c_impl_det) (A162 c_impl_det N) Go.Proofs.Try.f162.ntmps (retOf (E162 c_impl_det) Go.Proofs.Try.f162 int) (loopsOf (Go.Proofs.Try.f162.body.getD .skip)) :=
  LoopsOk.of (l := []) (by kernel_rfl) .nil
theorem There162 : There Go.Proofs.Try.prog 162 := ⟨_, Go.Proofs.Try.func162, by kernel_rfl, by kernel_rfl⟩
theorem C162 {c_impl_det : ((List (List Int)) × (List Int) × (List Int) × Unit → Option Int)} (h_c_impl_det : Contract Go.Proofs.Try.prog 130 ⟨[(.slice (.slice int)), (.slice int), (.slice int)], int, c_impl_det⟩) {f : ((List (List Int)) × (List Int) × (List Int) × Unit → Option Int)} (h : ∀ a0 a1 a2 r, f (a0, a1, a2, ()) = some r → ∃ N, r_impl_circular c_impl_det N a0 a1 a2 = some r) : Contract Go.Proofs.Try.prog 162 ⟨[(.slice (.slice int)), (.slice int), (.slice int)], int, f⟩ := by
  refine contract (E := E162 c_impl_det) (envOf table ⟨⟨h_c_impl_det, There130⟩, trivial⟩ trivial) mixed Go.Proofs.Try.func162 (c := Go.Proofs.Try.f162.body.getD .skip) (by kernel_rfl) (Nat.le_of_ble_eq_true (by kernel_rfl)) fun xs r hr => ?_
  obtain ⟨a0, a1, a2, _⟩ := xs
  obtain ⟨N, hN⟩ := h _ _ _ r hr
  exact ⟨N, A162 c_impl_det N, L162 c_impl_det N, (K162 c_impl_det N a0 a1 a2).trans hN⟩
theorem X162 : Contract Go.Proofs.Try.prog 162 ⟨[(.slice (.slice int)), (.slice int), (.slice int)], int, e_impl_circular⟩ := C162 X130 fun _ _ _ _ h => ⟨N0, h⟩
-- impl_MinorMatrix
def E114 (c_impl_IsWeightMatrix : ((List (List Int)) × Unit → Option Bool)) (c_impl_IsCircular : (Int × (List Int) × (List Int) × Unit → Option Bool)) (c_impl_circular : ((List (List Int)) × (List Int) × (List Int) × Unit → Option Int)) : Env := ⟨tys, [], [(109, ⟨[(.slice (.slice int))], .bool, c_impl_IsWeightMatrix⟩), (160, ⟨[int, (.slice int), (.slice int)], .bool, c_impl_IsCircular⟩), (162, ⟨[(.slice (.slice int)), (.slice int), (.slice int)], int, c_impl_circular⟩)], []⟩
def A114 (_c_impl_IsWeightMatrix : ((List (List Int)) × Unit → Option Bool)) (_c_impl_IsCircular : (Int × (List Int) × (List Int) × Unit → Option Bool)) (_c_impl_circular : ((List (List Int)) × (List Int) × (List Int) × Unit → Option Int)) (_N : Nat) : List (Nat × Loop (Ty.den (.tup int .bool))) := []
theorem K114 (c_impl_IsWeightMatrix : ((List (List Int)) × Unit → Option Bool)) (c_impl_IsCircular : (Int × (List Int) × (List Int) × Unit → Option Bool)) (c_impl_circular : ((List (List Int)) × (List Int) × (List Int) × Unit → Option Int)) (N : Nat) (a0 : (List (List Int))) (a1 : (List Int)) (a2 : (List Int)) : fnK N (E114 c_impl_IsWeightMatrix c_impl_IsCircular c_impl_circular) Go.Proofs.Try.f114 [(.slice (.slice int)), (.slice int), (.slice int)] (.tup int .bool) (A114 c_impl_IsWeightMatrix c_impl_IsCircular c_impl_circular N) (a0, a1, a2, ()) = r_impl_MinorMatrix c_impl_IsWeightMatrix c_impl_IsCircular c_impl_circular N a0 a1 a2 := by kernel_rfl
theorem L114 (c_impl_IsWeightMatrix : ((List (List Int)) × Unit → Option Bool)) (c_impl_IsCircular : (Int × (List Int) × (List Int) × Unit → Option Bool)) (c_impl_circular : ((List (List Int)) × (List Int) × (List Int) × Unit → Option Int)) (N : Nat) : LoopsOk N (E114 c_impl_IsWeightMatrix c_impl_IsCircular c_impl_circular) (A114 c_impl_IsWeightMatrix c_impl_IsCircular c_impl_circular N) Go.Proofs.Try.f114.ntmps (retOf (E114 c_impl_IsWeightMatrix c_impl_IsCircular c_impl_circular) Go.Proofs.Try.f114 (.tup int .bool)) (loopsOf (Go.Proofs.Try.f114.body.getD .skip)) :=
  LoopsOk.of (l := []) (by kernel_rfl) .nil
theorem There114 : There Go.Proofs.Try.prog 114 := ⟨_, Go.Proofs.Try.func114, by kernel_rfl, by kernel_rfl⟩
theorem C114 {c_impl_IsWeightMatrix : ((List (List Int)) × Unit → Option Bool)} {c_impl_IsCircular : (Int × (List Int) × (List Int) × Unit → Option Bool)} {c_impl_circular : ((List (List Int)) × (List Int) × (List Int) × Unit → Option Int)} (h_c_impl_IsWeightMatrix : Contract Go.Proofs.Try.prog 109 ⟨[(.slice (.slice int))], .bool, c_impl_IsWeightMatrix⟩) (h_c_impl_IsCircular : Contract Go.Proofs.Try.prog 160 ⟨[int, (.slice int), (.slice int)], .bool, c_impl_IsCircular⟩) (h_c_impl_circular : Contract Go.Proofs.Try.prog 162 ⟨[(.slice (.slice int)), (.slice int), (.slice int)], int, c_impl_circular⟩) {f : ((List (List Int)) × (List Int) × (List Int) × Unit → Option (Int × Bool))} (h : ∀ a0 a1 a2 r, f (a0, a1, a2, ()) = some r → ∃ N, r_impl_MinorMatrix c_impl_IsWeightMatrix c_impl_IsCircular c_impl_circular N a0 a1 a2 = some r) : Contract Go.Proofs.Try.prog 114 ⟨[(.slice (.slice int)), (.slice int), (.slice int)], (.tup int .bool), f⟩ := by
  refine contract (E := E114 c_impl_IsWeightMatrix c_impl_IsCircular c_impl_circular) (envOf table ⟨⟨h_c_impl_IsWeightMatrix, There109⟩, ⟨⟨h_c_impl_IsCircular, There160⟩, ⟨⟨h_c_impl_circular, There162⟩, trivial⟩⟩⟩ trivial) mixed Go.Proofs.Try.func114 (c := Go.Proofs.Try.f114.body.getD .skip) (by kernel_rfl) (Nat.le_of_ble_eq_true (by kernel_rfl)) fun xs r hr => ?_
  obtain ⟨a0, a1, a2, _⟩ := xs
  obtain ⟨N, hN⟩ := h _ _ _ r hr
  exact ⟨N, A114 c_impl_IsWeightMatrix c_impl_IsCircular c_impl_circular N, L114 c_impl_IsWeightMatrix c_impl_IsCircular c_impl_circular N, (K114 c_impl_IsWeightMatrix c_impl_IsCircular c_impl_circular N a0 a1 a2).trans hN⟩
theorem X114 : Contract Go.Proofs.Try.prog 114 ⟨[(.slice (.slice int)), (.slice int), (.slice int)], (.tup int .bool), e_impl_MinorMatrix⟩ := C114 X109 X160 X162 fun _ _ _ _ h => ⟨N0, h⟩
-- impl_PlanarReason
theorem There53 : There Go.Proofs.Try.prog 53 := ⟨_, Go.Proofs.Try.func53, by kernel_rfl, by kernel_rfl⟩
open Go.Proofs Go.RowKit
theorem weightC {m : List (List Int)} {b : Bool} (h : e_impl_IsWeightMatrix (m, ()) = some b) {w : World} {vm : Value} (hm : Rep false w T2 [vm] m (fun c => c < w.heap.size)) :
    Calls Go.Proofs.Try.prog 109 #[vm] w fun e w' => e = .returned (.bool b) ∧ Grow w w' := by
  refine (X109 (m, ()) b [vm] w h ⟨_, _, rfl, ⟨[vm], rfl, hm⟩, rfl⟩).mono fun e w' ⟨v, cs, h1, h2, h3, h4⟩ => ?_
  simp only [Rep] at h4
  subst h4
  simp only [Shape, Shape1, List.cons.injEq, and_true] at h3
  exact ⟨by rw [h1, h3], h2⟩

theorem minorC {m : List (List Int)} {p q : List Int} {d : Int × Bool} (h : e_impl_MinorMatrix (m, p, q, ()) = some d) {w : World} {vm vp vq : Value} (hm : Rep false w T2 [vm] m (fun c => c < w.heap.size)) (hp : Rep false w T1 [vp] p (fun c => c < w.heap.size)) (hq : Rep false w T1 [vq] q (fun c => c < w.heap.size)) :
    Calls Go.Proofs.Try.prog 114 #[vm, vp, vq] w fun e w' => e = .returned (.tuple #[.int .i64 d.1, .bool d.2]) ∧ Grow w w' := by
  refine (X114 (m, p, q, ()) d [vm, vp, vq] w h ⟨_, _, rfl, ⟨[vm], rfl, hm⟩, _, _, rfl, ⟨[vp], rfl, hp⟩, _, _, rfl, ⟨[vq], rfl, hq⟩, rfl⟩).mono fun e w' ⟨v, cs, h1, h2, h3, h4⟩ => ⟨?_, h2⟩
  obtain ⟨c1, c2, _, _, rfl, k1, k2, _⟩ := h4
  have k1 : c1 = [.int .i64 d.1] := k1
  have k2 : c2 = [.bool d.2] := k2
  subst k1; subst k2
  obtain ⟨vs, rfl, v1, vr, d1, d2, rfl, hcc, s1, l1, v2, rfl, s2⟩ := h3
  have s1 : d1 = [v1] := s1
  have s2 : d2 = [v2] := s2
  subst s1; subst s2
  simp only [List.cons_append, List.nil_append, List.cons.injEq, and_true] at hcc
  rw [h1, ← hcc.1, ← hcc.2]

set_option maxRecDepth 1000000 in
set_option maxHeartbeats 4000000 in
theorem prWalk {m : List (List Int)} {r : List (List Int)} (h : e_impl_PlanarReason (m, ()) = some r) {w : World} {pm : Option Addr} {cm : Nat} (hm : Rep false w T2 [.slice pm m.length cm] m (fun c => c < w.heap.size)) :
    Calls Go.Proofs.Try.prog 53 #[.slice pm m.length cm] w fun e w' => ∃ p c, e = .returned (.slice p r.length c) ∧ (r = [] → p = none) ∧ Grow w w' ∧ Rep true w' T2 [.slice p r.length c] r (fun c => w.heap.size ≤ c ∧ c < w'.heap.size) := by
  unfold e_impl_PlanarReason at h
  obtain ⟨b, hb, h⟩ := Option.bind_eq_some_iff.1 h
  have HW : Aside _ := weightC hb hm
  have HM : Aside (Rep false w T2 [.slice pm m.length cm] m (fun c => c < w.heap.size)) := hm
  cases b with
  | false =>
    simp only [cond_false, Option.some.injEq] at h
    subst h
    clear hb hm
    go_enter Go.Proofs.Try.func53, Go.Proofs.Try.ntmps53
    go_wp2_with fail
    refine Calls.mono HW.out ?_
    rintro e w1 ⟨rfl, g1⟩
    have G1 : Aside (Grow w w1) := g1
    clear g1
    go_wp2_with fail
    go_ret
    exact ⟨none, 0, rfl, fun _ => rfl, G1.out, none, 0, rfl, Nat.le_refl _, .inl rfl⟩
  | true =>
    simp only [cond_true] at h
    obtain ⟨l, hl, h⟩ := Option.bind_eq_some_iff.1 h
    have HC : Aside (∀ w, _) := cpContract hl
    have HR : Aside _ := h
    clear hb hm hl h
    go_enter Go.Proofs.Try.func53, Go.Proofs.Try.ntmps53
    go_wp2_with fail
    refine Calls.mono HW.out ?_
    rintro e w1 ⟨rfl, g1⟩
    have G1 : Aside (Grow w w1) := g1
    clear g1
    go_wp2_with fail
    refine Calls.mono (HC.out w1) ?_
    rintro e w2 ⟨v, cs, rfl, g2, s2, r2⟩
    obtain ⟨pl, cl, hcs, hlen⟩ := id r2
    have hcs : cs = [.slice pl l.length cl] := hcs
    subst hcs
    have hv : v = .slice pl l.length cl := (List.cons.inj s2).1.symm
    subst hv
    have R2 : Aside (Rep true w2 T3 [.slice pl l.length cl] l (fun c => w1.heap.size ≤ c ∧ c < w2.heap.size)) := r2
    have G2 : Aside (Grow w w2) := G1.out.trans g2
    have GS : Aside _ := G1.out.size
    have hlb : l.length ≤ 9223372036854775807 := row_len r2
    clear g2 s2 r2 hlen
    go_wp2_with fail
    go_loopg [14] l.length (fun gg s14 wr => ∃ i : Nat, s14 = .int .i64 i ∧ i ≤ l.length ∧ l.length - i ≤ gg ∧ Aside (Grow w2 wr ∧ prFind m (l.drop i) = some r))
    case atStart => exact ⟨0, rfl, by omega, by omega, (show Aside _ from ⟨Grow.refl w2, HR.out⟩)⟩
    case round =>
      obtain ⟨i, rfl, hi, hgi, R⟩ := hrel
      by_cases hlt : i < l.length
      · have hltz : (i : Int) < (l.length : Int) := by omega
        obtain ⟨x, hx⟩ : ∃ x, l[i]? = some x := ⟨_, List.getElem?_eq_getElem hlt⟩
        obtain ⟨G3, hf⟩ := R.out
        have hdrop : l.drop i = x :: l.drop (i + 1) := by
          rw [List.drop_eq_getElem_cons hlt]
          rw [List.getElem?_eq_getElem hlt] at hx
          rw [Option.some.inj hx]
        rw [hdrop] at hf
        simp only [prFind] at hf
        obtain ⟨p, hp, hf⟩ := Option.bind_eq_some_iff.1 hf
        obtain ⟨q, hq, hf⟩ := Option.bind_eq_some_iff.1 hf
        obtain ⟨d, hd, hf⟩ := Option.bind_eq_some_iff.1 hf
        have hr3 : Rep true wr T3 [.slice pl l.length cl] l (fun c => w1.heap.size ≤ c ∧ c < w2.heap.size) := R2.out.agree fun c hc => G3.same c hc.2
        obtain ⟨bl, ol, px, cx, hpl, hcx, rx⟩ := row_elem hr3 hx
        subst hpl
        obtain ⟨bx, ox, pp, cp, hpx, hcp, rp⟩ := row_elem rx hp
        subst hpx
        obtain ⟨_, _, pq, cq, hpx, hcq, rq⟩ := row_elem rx hq
        simp only [Option.some.injEq, Addr.mk.injEq, and_true] at hpx
        obtain ⟨rfl, rfl⟩ := hpx
        have hx1 : (0 : Int) < (x.length : Int) := by have := (List.getElem?_eq_some_iff.1 hp).1; omega
        have hx2 : (1 : Int) < (x.length : Int) := by have := (List.getElem?_eq_some_iff.1 hq).1; omega
        simp only [Nat.add_zero] at hcp
        have hx3 : 0 < x.length := by omega
        have hx4 : 1 < x.length := by omega
        have g3 := G3.size
        have hmr : Rep false wr.drew T2 [.slice pm m.length cm] m (fun c => c < wr.drew.heap.size) := (Rep.agree (fun c hc => ((G2.out.trans G3).same c hc)) HM.out).mono fun c hc => Nat.lt_of_lt_of_le hc (G2.out.trans G3).size
        have hpr : Rep false wr.drew T1 [.slice pp p.length cp] p (fun c => c < wr.drew.heap.size) := (rp.weak.agree fun c hc => rfl).mono fun c hc => Nat.lt_of_lt_of_le hc.2 g3
        have hqr : Rep false wr.drew T1 [.slice pq q.length cq] q (fun c => c < wr.drew.heap.size) := (rq.weak.agree fun c hc => rfl).mono fun c hc => Nat.lt_of_lt_of_le hc.2 g3
        have HMin : Aside _ := minorC hd hmr hpr hqr
        have RX : Aside (Rep true wr T2 [.slice (some ⟨bx, ox, none⟩) x.length cx] x (fun c => w1.heap.size ≤ c ∧ c < w2.heap.size)) := rx
        have HF : Aside _ := hf
        have G3 : Aside (Grow w2 wr) := G3
        clear hx hf hdrop hp hq hd hr3 rx rp rq hmr hpr hqr g3
        go_wp2_with fail
        go_region_with (go_at_call 114; refine Calls.mono HMin.out ?_; rintro e w4 ⟨rfl, g4⟩)
        all_goals (
          have G4 : Aside (Grow wr w4) := (Grow.drew wr).trans g4
          clear g4
          by_cases hneg : d.1 < 0
          · have hf := HF.out
            rw [if_pos hneg] at hf
            have HX : Aside _ := Option.some.inj hf
            clear hf HF
            go_wp2_with fail
            go_ret
            have e := HX.out
            subst e
            have hg := (G2.out.trans G3.out).trans G4.out
            refine ⟨_, cx, rfl, fun h => ?_, hg, ?_⟩
            · rw [h] at hx3; simp at hx3
            · refine (Rep.agree (fun c hc => G4.out.same c (Nat.lt_of_lt_of_le hc.2 G3.out.size)) RX.out).mono fun c hc => ⟨Nat.le_trans GS.out hc.1, Nat.lt_of_lt_of_le hc.2 (G3.out.trans G4.out).size⟩
          · have hf := HF.out
            rw [if_neg hneg] at hf
            have HF2 : Aside _ := hf
            clear hf HF
            go_wp2_with fail
            go_roundg (l.length - (i + 1))
            case measure => omega
            case rel => exact ⟨i + 1, by go_num, by omega, Nat.le_refl _, (show Aside _ from ⟨G3.out.trans G4.out, HF2.out⟩)⟩)
      · obtain rfl : i = l.length := by omega
        have hltz : ¬ (l.length : Int) < (l.length : Int) := by omega
        go_wp2_with fail
        go_ret
        obtain ⟨G3, hf⟩ := R.out
        rw [List.drop_length] at hf
        have e := Option.some.inj hf
        subst e
        exact ⟨none, 0, rfl, fun _ => rfl, G2.out.trans G3, none, 0, rfl, Nat.le_refl _, .inl rfl⟩

theorem X53 : Contract Go.Proofs.Try.prog 53 ⟨[.slice (.slice int)], .slice (.slice int), e_impl_PlanarReason⟩ := by
  intro xs r vs w hr hargs
  obtain ⟨m, u⟩ := xs
  obtain ⟨v1, vr, rfl, ⟨cs1, sh1, rp1⟩, rfl⟩ := hargs
  obtain ⟨pm, cm, hcs, _⟩ := id rp1
  subst hcs
  have e1 : v1 = .slice pm (List.length m) cm := (List.cons.inj sh1).1.symm
  subst e1
  exact (prWalk hr rp1).mono fun e w' ⟨p, c, h1, _, h2, h3⟩ => ⟨_, _, h1, h2, rfl, h3⟩


-- impl_IsPlanarMatrix
theorem There50 : There Go.Proofs.Try.prog 50 := ⟨_, Go.Proofs.Try.func50, by kernel_rfl, by kernel_rfl⟩
open Go.Proofs Go.RowKit
set_option maxRecDepth 1000000 in
set_option maxHeartbeats 4000000 in
theorem ipWalk {m : List (List Int)} {r : Bool} (h : e_impl_IsPlanarMatrix (m, ()) = some r) {w : World} {pm : Option Addr} {cm : Nat} (hm : Rep false w T2 [.slice pm m.length cm] m (fun c => c < w.heap.size)) :
    Calls Go.Proofs.Try.prog 50 #[.slice pm m.length cm] w fun e w' => e = .returned (.bool r) ∧ Grow w w' := by
  unfold e_impl_IsPlanarMatrix at h
  obtain ⟨b, hb, h⟩ := Option.bind_eq_some_iff.1 h
  have HW : Aside _ := weightC hb hm
  cases b with
  | false =>
    simp only [cond_false, Option.some.injEq] at h
    subst h
    clear hb hm
    go_enter Go.Proofs.Try.func50, Go.Proofs.Try.ntmps50
    go_wp2_with fail
    refine Calls.mono HW.out ?_
    rintro e w1 ⟨rfl, g1⟩
    have G1 : Aside (Grow w w1) := g1
    clear g1
    go_wp2_with fail
    go_ret
    exact ⟨rfl, G1.out⟩
  | true =>
    simp only [cond_true] at h
    obtain ⟨l, hl, h⟩ := Option.bind_eq_some_iff.1 h
    have h := Option.some.inj h
    subst h
    have HP : Aside (∀ w1, Grow w w1 → _) := fun w1 (hg : Grow w w1) => prWalk hl ((Rep.agree (fun c hc => hg.same c hc) hm).mono fun c hc => Nat.lt_of_lt_of_le hc hg.size)
    clear hb hm hl
    go_enter Go.Proofs.Try.func50, Go.Proofs.Try.ntmps50
    go_wp2_with fail
    refine Calls.mono HW.out ?_
    rintro e w1 ⟨rfl, g1⟩
    have G1 : Aside (Grow w w1) := g1
    clear g1
    go_wp2_with fail
    refine Calls.mono (HP.out w1 G1.out) ?_
    rintro e w2 ⟨p, c, rfl, hnil, g2, r2⟩
    have G2 : Aside (Grow w w2) := G1.out.trans g2
    have hp : p.isNone = l.isEmpty := by
      cases l with
      | nil => rw [hnil rfl]; rfl
      | cons y l => have h9 := row_some r2 (List.cons_ne_nil y l); cases p with | none => cases h9 | some a => rfl
    have heq : (binOp BinOp.eql 70 (Value.slice p l.length c) (Value.slice none 0 0)).run Go.Proofs.Try.prog w2 = .ok (.bool l.isEmpty) w2 := by
      rw [← hp]
      exact Lib.run_eql_slice_nil w2 70 _ p l.length c 0 0 Go.Proofs.Try.underlying70
    clear hnil g2 r2 hp
    go_wp2_with fail
    go_ret
    exact ⟨rfl, G2.out⟩

theorem X50 : Contract Go.Proofs.Try.prog 50 ⟨[.slice (.slice int)], .bool, e_impl_IsPlanarMatrix⟩ := by
  intro xs r vs w hr hargs
  obtain ⟨m, u⟩ := xs
  obtain ⟨v1, vr, rfl, ⟨cs1, sh1, rp1⟩, rfl⟩ := hargs
  obtain ⟨pm, cm, hcs, _⟩ := id rp1
  subst hcs
  have e1 : v1 = .slice pm (List.length m) cm := (List.cons.inj sh1).1.symm
  subst e1
  exact (ipWalk hr rp1).mono fun e w' ⟨h1, h2⟩ => ⟨_, [.bool r], h1, h2, rfl, rfl⟩

-- laws_eqIntS
def E26 : Env := ⟨tys, [], [], []⟩
def A26 (N : Nat) : List (Nat × Loop (Ty.den .bool)) := [(0, ⟨[(0, .ro none (.slice (.num .i64))), (1, .ro none (.slice (.num .i64))), (5, .ro none (.num .i64))], r_laws_eqIntS_L0 N⟩)]
theorem K26 (N : Nat) (a0 : (List Int)) (a1 : (List Int)) : fnK N (E26) Go.Proofs.Try.f26 [(.slice int), (.slice int)] .bool (A26 N) (a0, a1, ()) = r_laws_eqIntS N a0 a1 := by kernel_rfl
theorem L26 (N : Nat) : LoopsOk N (E26) (A26 N) Go.Proofs.Try.f26.ntmps (retOf (E26) Go.Proofs.Try.f26 .bool) (loopsOf (Go.Proofs.Try.f26.body.getD .skip)) :=
  LoopsOk.of (l := [(0, lb Go.Proofs.Try.f26 0)]) (by kernel_rfl) (.cons (L := ⟨[(0, .ro none (.slice (.num .i64))), (1, .ro none (.slice (.num .i64))), (5, .ro none (.num .i64))], r_laws_eqIntS_L0 N⟩) (by kernel_rfl) (by intro s kc ke env; kernel_rfl) .nil)
theorem There26 : There Go.Proofs.Try.prog 26 := ⟨_, Go.Proofs.Try.func26, by kernel_rfl, by kernel_rfl⟩
theorem C26 {f : ((List Int) × (List Int) × Unit → Option Bool)} (h : ∀ a0 a1 r, f (a0, a1, ()) = some r → ∃ N, r_laws_eqIntS N a0 a1 = some r) : Contract Go.Proofs.Try.prog 26 ⟨[(.slice int), (.slice int)], .bool, f⟩ := by
  refine contract (E := E26) (envOf table trivial trivial) mixed Go.Proofs.Try.func26 (c := Go.Proofs.Try.f26.body.getD .skip) (by kernel_rfl) (Nat.le_of_ble_eq_true (by kernel_rfl)) fun xs r hr => ?_
  obtain ⟨a0, a1, _⟩ := xs
  obtain ⟨N, hN⟩ := h _ _ r hr
  exact ⟨N, A26 N, L26 N, (K26 N a0 a1).trans hN⟩
theorem X26 : Contract Go.Proofs.Try.prog 26 ⟨[(.slice int), (.slice int)], .bool, e_laws_eqIntS⟩ := C26 fun _ _ _ h => ⟨N0, h⟩
-- laws_eqIntSS
def E51 (c_laws_eqIntS : ((List Int) × (List Int) × Unit → Option Bool)) : Env := ⟨tys, [], [(26, ⟨[(.slice int), (.slice int)], .bool, c_laws_eqIntS⟩)], []⟩
def A51 (c_laws_eqIntS : ((List Int) × (List Int) × Unit → Option Bool)) (N : Nat) : List (Nat × Loop (Ty.den .bool)) := [(0, ⟨[(0, .ro none (.slice (.slice (.num .i64)))), (1, .ro none (.slice (.slice (.num .i64)))), (5, .ro none (.num .i64))], r_laws_eqIntSS_L0 c_laws_eqIntS N⟩)]
theorem K51 (c_laws_eqIntS : ((List Int) × (List Int) × Unit → Option Bool)) (N : Nat) (a0 : (List (List Int))) (a1 : (List (List Int))) : fnK N (E51 c_laws_eqIntS) Go.Proofs.Try.f51 [(.slice (.slice int)), (.slice (.slice int))] .bool (A51 c_laws_eqIntS N) (a0, a1, ()) = r_laws_eqIntSS c_laws_eqIntS N a0 a1 := by kernel_rfl
theorem L51 (c_laws_eqIntS : ((List Int) × (List Int) × Unit → Option Bool)) (N : Nat) : LoopsOk N (E51 c_laws_eqIntS) (A51 c_laws_eqIntS N) Go.Proofs.Try.f51.ntmps (retOf (E51 c_laws_eqIntS) Go.Proofs.Try.f51 .bool) (loopsOf (Go.Proofs.Try.f51.body.getD .skip)) :=
  LoopsOk.of (l := [(0, lb Go.Proofs.Try.f51 0)]) (by kernel_rfl) (.cons (L := ⟨[(0, .ro none (.slice (.slice (.num .i64)))), (1, .ro none (.slice (.slice (.num .i64)))), (5, .ro none (.num .i64))], r_laws_eqIntSS_L0 c_laws_eqIntS N⟩) (by kernel_rfl) (by intro s kc ke env; kernel_rfl) .nil)
theorem There51 : There Go.Proofs.Try.prog 51 := ⟨_, Go.Proofs.Try.func51, by kernel_rfl, by kernel_rfl⟩
theorem C51 {c_laws_eqIntS : ((List Int) × (List Int) × Unit → Option Bool)} (h_c_laws_eqIntS : Contract Go.Proofs.Try.prog 26 ⟨[(.slice int), (.slice int)], .bool, c_laws_eqIntS⟩) {f : ((List (List Int)) × (List (List Int)) × Unit → Option Bool)} (h : ∀ a0 a1 r, f (a0, a1, ()) = some r → ∃ N, r_laws_eqIntSS c_laws_eqIntS N a0 a1 = some r) : Contract Go.Proofs.Try.prog 51 ⟨[(.slice (.slice int)), (.slice (.slice int))], .bool, f⟩ := by
  refine contract (E := E51 c_laws_eqIntS) (envOf table ⟨⟨h_c_laws_eqIntS, There26⟩, trivial⟩ trivial) mixed Go.Proofs.Try.func51 (c := Go.Proofs.Try.f51.body.getD .skip) (by kernel_rfl) (Nat.le_of_ble_eq_true (by kernel_rfl)) fun xs r hr => ?_
  obtain ⟨a0, a1, _⟩ := xs
  obtain ⟨N, hN⟩ := h _ _ r hr
  exact ⟨N, A51 c_laws_eqIntS N, L51 c_laws_eqIntS N, (K51 c_laws_eqIntS N a0 a1).trans hN⟩
theorem X51 : Contract Go.Proofs.Try.prog 51 ⟨[(.slice (.slice int)), (.slice (.slice int))], .bool, e_laws_eqIntSS⟩ := C51 X26 fun _ _ _ h => ⟨N0, h⟩
-- laws_FnExactIsPlanarMatrix
def E11 (c_laws_szIntSS : ((List (List Int)) × Int × Unit → Option Int)) (c_laws_toIntSS : ((List (List Int)) × Unit → Option (List (List Int)))) (c_spec_IsPlanarMatrix : ((List (List Int)) × Unit → Option Bool)) (c_impl_IsPlanarMatrix : ((List (List Int)) × Unit → Option Bool)) (c_laws_eqIntSS : ((List (List Int)) × (List (List Int)) × Unit → Option Bool)) : Env := ⟨tys, [], [(47, ⟨[(.slice (.slice int)), int], int, c_laws_szIntSS⟩), (49, ⟨[(.slice (.slice int))], (.slice (.slice int)), c_laws_toIntSS⟩), (48, ⟨[(.slice (.slice int))], .bool, c_spec_IsPlanarMatrix⟩), (50, ⟨[(.slice (.slice int))], .bool, c_impl_IsPlanarMatrix⟩), (51, ⟨[(.slice (.slice int)), (.slice (.slice int))], .bool, c_laws_eqIntSS⟩)], []⟩
def A11 (_c_laws_szIntSS : ((List (List Int)) × Int × Unit → Option Int)) (_c_laws_toIntSS : ((List (List Int)) × Unit → Option (List (List Int)))) (_c_spec_IsPlanarMatrix : ((List (List Int)) × Unit → Option Bool)) (_c_impl_IsPlanarMatrix : ((List (List Int)) × Unit → Option Bool)) (_c_laws_eqIntSS : ((List (List Int)) × (List (List Int)) × Unit → Option Bool)) (_N : Nat) : List (Nat × Loop (Ty.den .bool)) := []
theorem K11 (c_laws_szIntSS : ((List (List Int)) × Int × Unit → Option Int)) (c_laws_toIntSS : ((List (List Int)) × Unit → Option (List (List Int)))) (c_spec_IsPlanarMatrix : ((List (List Int)) × Unit → Option Bool)) (c_impl_IsPlanarMatrix : ((List (List Int)) × Unit → Option Bool)) (c_laws_eqIntSS : ((List (List Int)) × (List (List Int)) × Unit → Option Bool)) (N : Nat) (a0 : (List (List Int))) : fnK N (E11 c_laws_szIntSS c_laws_toIntSS c_spec_IsPlanarMatrix c_impl_IsPlanarMatrix c_laws_eqIntSS) Go.Proofs.Try.f11 [(.slice (.slice int))] .bool (A11 c_laws_szIntSS c_laws_toIntSS c_spec_IsPlanarMatrix c_impl_IsPlanarMatrix c_laws_eqIntSS N) (a0, ()) = r_laws_FnExactIsPlanarMatrix c_laws_szIntSS c_laws_toIntSS c_spec_IsPlanarMatrix c_impl_IsPlanarMatrix c_laws_eqIntSS N a0 := by kernel_rfl
theorem L11 (c_laws_szIntSS : ((List (List Int)) × Int × Unit → Option Int)) (c_laws_toIntSS : ((List (List Int)) × Unit → Option (List (List Int)))) (c_spec_IsPlanarMatrix : ((List (List Int)) × Unit → Option Bool)) (c_impl_IsPlanarMatrix : ((List (List Int)) × Unit → Option Bool)) (c_laws_eqIntSS : ((List (List Int)) × (List (List Int)) × Unit → Option Bool)) (N : Nat) : LoopsOk N (E11 c_laws_szIntSS c_laws_toIntSS c_spec_IsPlanarMatrix c_impl_IsPlanarMatrix c_laws_eqIntSS) (A11 c_laws_szIntSS c_laws_toIntSS c_spec_IsPlanarMatrix c_impl_IsPlanarMatrix c_laws_eqIntSS N) Go.Proofs.Try.f11.ntmps (retOf (E11 c_laws_szIntSS c_laws_toIntSS c_spec_IsPlanarMatrix c_impl_IsPlanarMatrix c_laws_eqIntSS) Go.Proofs.Try.f11 .bool) (loopsOf (Go.Proofs.Try.f11.body.getD .skip)) :=
  LoopsOk.of (l := []) (by kernel_rfl) .nil
theorem There11 : There Go.Proofs.Try.prog 11 := ⟨_, Go.Proofs.Try.func11, by kernel_rfl, by kernel_rfl⟩
theorem C11 {c_laws_szIntSS : ((List (List Int)) × Int × Unit → Option Int)} {c_laws_toIntSS : ((List (List Int)) × Unit → Option (List (List Int)))} {c_spec_IsPlanarMatrix : ((List (List Int)) × Unit → Option Bool)} {c_impl_IsPlanarMatrix : ((List (List Int)) × Unit → Option Bool)} {c_laws_eqIntSS : ((List (List Int)) × (List (List Int)) × Unit → Option Bool)} (h_c_laws_szIntSS : Contract Go.Proofs.Try.prog 47 ⟨[(.slice (.slice int)), int], int, c_laws_szIntSS⟩) (h_c_laws_toIntSS : Contract Go.Proofs.Try.prog 49 ⟨[(.slice (.slice int))], (.slice (.slice int)), c_laws_toIntSS⟩) (h_c_spec_IsPlanarMatrix : Contract Go.Proofs.Try.prog 48 ⟨[(.slice (.slice int))], .bool, c_spec_IsPlanarMatrix⟩) (h_c_impl_IsPlanarMatrix : Contract Go.Proofs.Try.prog 50 ⟨[(.slice (.slice int))], .bool, c_impl_IsPlanarMatrix⟩) (h_c_laws_eqIntSS : Contract Go.Proofs.Try.prog 51 ⟨[(.slice (.slice int)), (.slice (.slice int))], .bool, c_laws_eqIntSS⟩) {f : ((List (List Int)) × Unit → Option Bool)} (h : ∀ a0 r, f (a0, ()) = some r → ∃ N, r_laws_FnExactIsPlanarMatrix c_laws_szIntSS c_laws_toIntSS c_spec_IsPlanarMatrix c_impl_IsPlanarMatrix c_laws_eqIntSS N a0 = some r) : Contract Go.Proofs.Try.prog 11 ⟨[(.slice (.slice int))], .bool, f⟩ := by
  refine contract (E := E11 c_laws_szIntSS c_laws_toIntSS c_spec_IsPlanarMatrix c_impl_IsPlanarMatrix c_laws_eqIntSS) (envOf table ⟨⟨h_c_laws_szIntSS, There47⟩, ⟨⟨h_c_laws_toIntSS, There49⟩, ⟨⟨h_c_spec_IsPlanarMatrix, There48⟩, ⟨⟨h_c_impl_IsPlanarMatrix, There50⟩, ⟨⟨h_c_laws_eqIntSS, There51⟩, trivial⟩⟩⟩⟩⟩ trivial) mixed Go.Proofs.Try.func11 (c := Go.Proofs.Try.f11.body.getD .skip) (by kernel_rfl) (Nat.le_of_ble_eq_true (by kernel_rfl)) fun xs r hr => ?_
  obtain ⟨a0, _⟩ := xs
  obtain ⟨N, hN⟩ := h _ r hr
  exact ⟨N, A11 c_laws_szIntSS c_laws_toIntSS c_spec_IsPlanarMatrix c_impl_IsPlanarMatrix c_laws_eqIntSS N, L11 c_laws_szIntSS c_laws_toIntSS c_spec_IsPlanarMatrix c_impl_IsPlanarMatrix c_laws_eqIntSS N, (K11 c_laws_szIntSS c_laws_toIntSS c_spec_IsPlanarMatrix c_impl_IsPlanarMatrix c_laws_eqIntSS N a0).trans hN⟩
theorem X11 : Contract Go.Proofs.Try.prog 11 ⟨[(.slice (.slice int))], .bool, e_laws_FnExactIsPlanarMatrix⟩ := C11 X47 X49 X48 X50 X51 fun _ _ h => ⟨N0, h⟩
-- laws_markIntS
def E115 : Env := ⟨tys, [], [], []⟩
def A115 (N : Nat) : List (Nat × Loop (Ty.den (.slice int) × resDen (some int))) := [(0, ⟨[(0, .own (.slice (.num .i64))), (1, .ro none (.num .i64)), (5, .ro none (.num .i64))], r_laws_markIntS_L0 N⟩)]
theorem K115 (m_laws_markIntS_ : ((List Int) → (Int × Unit) → Option ((List Int) × Int))) (N : Nat) (a0 : (List Int)) (a1 : Int) : fnMut N (E115) Go.Proofs.Try.f115 ⟨(.slice int), 0, [int], some int, m_laws_markIntS_⟩ (A115 N) a0 (a1, ()) = r_laws_markIntS N a0 a1 := by kernel_rfl
theorem L115 (m_laws_markIntS_ : ((List Int) → (Int × Unit) → Option ((List Int) × Int))) (N : Nat) : LoopsOk N (E115) (A115 N) Go.Proofs.Try.f115.ntmps (retM (E115) Go.Proofs.Try.f115 ⟨(.slice int), 0, [int], some int, m_laws_markIntS_⟩) (loopsOf (Go.Proofs.Try.f115.body.getD .skip)) :=
  LoopsOk.of (l := [(0, lb Go.Proofs.Try.f115 0)]) (by kernel_rfl) (.cons (L := ⟨[(0, .own (.slice (.num .i64))), (1, .ro none (.num .i64)), (5, .ro none (.num .i64))], r_laws_markIntS_L0 N⟩) (by kernel_rfl) (by intro s kc ke env; kernel_rfl) .nil)
theorem There115 : There Go.Proofs.Try.prog 115 := ⟨_, Go.Proofs.Try.func115, by kernel_rfl, by kernel_rfl⟩
theorem C115 {f : ((List Int) → (Int × Unit) → Option ((List Int) × Int))} (h : ∀ a0 a1 r, f a0 (a1, ()) = some r → ∃ N, r_laws_markIntS N a0 a1 = some r) : MutC Go.Proofs.Try.prog 115 ⟨(.slice int), 0, [int], some int, f⟩ := by
  refine mutC (E := E115) (envOf table trivial trivial) mixed Go.Proofs.Try.func115 (c := Go.Proofs.Try.f115.body.getD .skip) (by kernel_rfl) (Nat.le_of_ble_eq_true (by kernel_rfl)) (Nat.le_of_ble_eq_true (by kernel_rfl)) (by kernel_rfl) fun a0 xs r hr => ?_
  obtain ⟨a1, _⟩ := xs
  obtain ⟨N, hN⟩ := h _ _ r hr
  exact ⟨N, A115 N, L115 f N, (K115 f N a0 a1).trans hN⟩
theorem X115 : MutC Go.Proofs.Try.prog 115 ⟨(.slice int), 0, [int], some int, e_laws_markIntS⟩ := C115 fun _ _ _ h => ⟨N0, h⟩
-- laws_markIntSS
def E54 (m_laws_markIntS : ((List Int) → (Int × Unit) → Option ((List Int) × Int))) : Env := ⟨tys, [], [], [(115, ⟨(.slice int), 0, [int], some int, m_laws_markIntS⟩)]⟩
def A54 (m_laws_markIntS : ((List Int) → (Int × Unit) → Option ((List Int) × Int))) (N : Nat) : List (Nat × Loop (Ty.den (.slice (.slice int)) × resDen (some int))) := [(0, ⟨[(0, .own (.slice (.slice (.num .i64)))), (1, .ro none (.num .i64)), (5, .ro none (.num .i64))], r_laws_markIntSS_L0 m_laws_markIntS N⟩)]
theorem K54 (m_laws_markIntS : ((List Int) → (Int × Unit) → Option ((List Int) × Int))) (m_laws_markIntSS_ : ((List (List Int)) → (Int × Unit) → Option ((List (List Int)) × Int))) (N : Nat) (a0 : (List (List Int))) (a1 : Int) : fnMut N (E54 m_laws_markIntS) Go.Proofs.Try.f54 ⟨(.slice (.slice int)), 0, [int], some int, m_laws_markIntSS_⟩ (A54 m_laws_markIntS N) a0 (a1, ()) = r_laws_markIntSS m_laws_markIntS N a0 a1 := by kernel_rfl
theorem L54 (m_laws_markIntS : ((List Int) → (Int × Unit) → Option ((List Int) × Int))) (m_laws_markIntSS_ : ((List (List Int)) → (Int × Unit) → Option ((List (List Int)) × Int))) (N : Nat) : LoopsOk N (E54 m_laws_markIntS) (A54 m_laws_markIntS N) Go.Proofs.Try.f54.ntmps (retM (E54 m_laws_markIntS) Go.Proofs.Try.f54 ⟨(.slice (.slice int)), 0, [int], some int, m_laws_markIntSS_⟩) (loopsOf (Go.Proofs.Try.f54.body.getD .skip)) :=
  LoopsOk.of (l := [(0, lb Go.Proofs.Try.f54 0)]) (by kernel_rfl) (.cons (L := ⟨[(0, .own (.slice (.slice (.num .i64)))), (1, .ro none (.num .i64)), (5, .ro none (.num .i64))], r_laws_markIntSS_L0 m_laws_markIntS N⟩) (by kernel_rfl) (by intro s kc ke env; kernel_rfl) .nil)
theorem There54 : There Go.Proofs.Try.prog 54 := ⟨_, Go.Proofs.Try.func54, by kernel_rfl, by kernel_rfl⟩
theorem C54 {m_laws_markIntS : ((List Int) → (Int × Unit) → Option ((List Int) × Int))} (h_m_laws_markIntS : MutC Go.Proofs.Try.prog 115 ⟨(.slice int), 0, [int], some int, m_laws_markIntS⟩) {f : ((List (List Int)) → (Int × Unit) → Option ((List (List Int)) × Int))} (h : ∀ a0 a1 r, f a0 (a1, ()) = some r → ∃ N, r_laws_markIntSS m_laws_markIntS N a0 a1 = some r) : MutC Go.Proofs.Try.prog 54 ⟨(.slice (.slice int)), 0, [int], some int, f⟩ := by
  refine mutC (E := E54 m_laws_markIntS) (envOf table trivial ⟨⟨h_m_laws_markIntS, There115⟩, trivial⟩) mixed Go.Proofs.Try.func54 (c := Go.Proofs.Try.f54.body.getD .skip) (by kernel_rfl) (Nat.le_of_ble_eq_true (by kernel_rfl)) (Nat.le_of_ble_eq_true (by kernel_rfl)) (by kernel_rfl) fun a0 xs r hr => ?_
  obtain ⟨a1, _⟩ := xs
  obtain ⟨N, hN⟩ := h _ _ r hr
  exact ⟨N, A54 m_laws_markIntS N, L54 m_laws_markIntS f N, (K54 m_laws_markIntS f N a0 a1).trans hN⟩
theorem X54 : MutC Go.Proofs.Try.prog 54 ⟨(.slice (.slice int)), 0, [int], some int, e_laws_markIntSS⟩ := C54 X115 fun _ _ _ h => ⟨N0, h⟩
-- laws_heldIntS
def E116 : Env := ⟨tys, [], [], []⟩
def A116 (N : Nat) : List (Nat × Loop (Ty.den int)) := [(0, ⟨[(0, .ro none (.slice (.num .i64))), (1, .ro none (.num .i64)), (5, .ro none (.num .i64))], r_laws_heldIntS_L0 N⟩)]
theorem K116 (N : Nat) (a0 : (List Int)) (a1 : Int) : fnK N (E116) Go.Proofs.Try.f116 [(.slice int), int] int (A116 N) (a0, a1, ()) = r_laws_heldIntS N a0 a1 := by kernel_rfl
theorem L116 (N : Nat) : LoopsOk N (E116) (A116 N) Go.Proofs.Try.f116.ntmps (retOf (E116) Go.Proofs.Try.f116 int) (loopsOf (Go.Proofs.Try.f116.body.getD .skip)) :=
  LoopsOk.of (l := [(0, lb Go.Proofs.Try.f116 0)]) (by kernel_rfl) (.cons (L := ⟨[(0, .ro none (.slice (.num .i64))), (1, .ro none (.num .i64)), (5, .ro none (.num .i64))], r_laws_heldIntS_L0 N⟩) (by kernel_rfl) (by intro s kc ke env; kernel_rfl) .nil)
theorem There116 : There Go.Proofs.Try.prog 116 := ⟨_, Go.Proofs.Try.func116, by kernel_rfl, by kernel_rfl⟩
theorem C116 {f : ((List Int) × Int × Unit → Option Int)} (h : ∀ a0 a1 r, f (a0, a1, ()) = some r → ∃ N, r_laws_heldIntS N a0 a1 = some r) : Contract Go.Proofs.Try.prog 116 ⟨[(.slice int), int], int, f⟩ := by
  refine contract (E := E116) (envOf table trivial trivial) mixed Go.Proofs.Try.func116 (c := Go.Proofs.Try.f116.body.getD .skip) (by kernel_rfl) (Nat.le_of_ble_eq_true (by kernel_rfl)) fun xs r hr => ?_
  obtain ⟨a0, a1, _⟩ := xs
  obtain ⟨N, hN⟩ := h _ _ r hr
  exact ⟨N, A116 N, L116 N, (K116 N a0 a1).trans hN⟩
theorem X116 : Contract Go.Proofs.Try.prog 116 ⟨[(.slice int), int], int, e_laws_heldIntS⟩ := C116 fun _ _ _ h => ⟨N0, h⟩
-- laws_heldIntSS
def E55 (c_laws_heldIntS : ((List Int) × Int × Unit → Option Int)) : Env := ⟨tys, [], [(116, ⟨[(.slice int), int], int, c_laws_heldIntS⟩)], []⟩
def A55 (c_laws_heldIntS : ((List Int) × Int × Unit → Option Int)) (N : Nat) : List (Nat × Loop (Ty.den int)) := [(0, ⟨[(0, .ro none (.slice (.slice (.num .i64)))), (1, .ro none (.num .i64)), (5, .ro none (.num .i64))], r_laws_heldIntSS_L0 c_laws_heldIntS N⟩)]
theorem K55 (c_laws_heldIntS : ((List Int) × Int × Unit → Option Int)) (N : Nat) (a0 : (List (List Int))) (a1 : Int) : fnK N (E55 c_laws_heldIntS) Go.Proofs.Try.f55 [(.slice (.slice int)), int] int (A55 c_laws_heldIntS N) (a0, a1, ()) = r_laws_heldIntSS c_laws_heldIntS N a0 a1 := by kernel_rfl
theorem L55 (c_laws_heldIntS : ((List Int) × Int × Unit → Option Int)) (N : Nat) : LoopsOk N (E55 c_laws_heldIntS) (A55 c_laws_heldIntS N) Go.Proofs.Try.f55.ntmps (retOf (E55 c_laws_heldIntS) Go.Proofs.Try.f55 int) (loopsOf (Go.Proofs.Try.f55.body.getD .skip)) :=
  LoopsOk.of (l := [(0, lb Go.Proofs.Try.f55 0)]) (by kernel_rfl) (.cons (L := ⟨[(0, .ro none (.slice (.slice (.num .i64)))), (1, .ro none (.num .i64)), (5, .ro none (.num .i64))], r_laws_heldIntSS_L0 c_laws_heldIntS N⟩) (by kernel_rfl) (by intro s kc ke env; kernel_rfl) .nil)
theorem There55 : There Go.Proofs.Try.prog 55 := ⟨_, Go.Proofs.Try.func55, by kernel_rfl, by kernel_rfl⟩
theorem C55 {c_laws_heldIntS : ((List Int) × Int × Unit → Option Int)} (h_c_laws_heldIntS : Contract Go.Proofs.Try.prog 116 ⟨[(.slice int), int], int, c_laws_heldIntS⟩) {f : ((List (List Int)) × Int × Unit → Option Int)} (h : ∀ a0 a1 r, f (a0, a1, ()) = some r → ∃ N, r_laws_heldIntSS c_laws_heldIntS N a0 a1 = some r) : Contract Go.Proofs.Try.prog 55 ⟨[(.slice (.slice int)), int], int, f⟩ := by
  refine contract (E := E55 c_laws_heldIntS) (envOf table ⟨⟨h_c_laws_heldIntS, There116⟩, trivial⟩ trivial) mixed Go.Proofs.Try.func55 (c := Go.Proofs.Try.f55.body.getD .skip) (by kernel_rfl) (Nat.le_of_ble_eq_true (by kernel_rfl)) fun xs r hr => ?_
  obtain ⟨a0, a1, _⟩ := xs
  obtain ⟨N, hN⟩ := h _ _ r hr
  exact ⟨N, A55 c_laws_heldIntS N, L55 c_laws_heldIntS N, (K55 c_laws_heldIntS N a0 a1).trans hN⟩
theorem X55 : Contract Go.Proofs.Try.prog 55 ⟨[(.slice (.slice int)), int], int, e_laws_heldIntSS⟩ := C55 X116 fun _ _ _ h => ⟨N0, h⟩
-- laws_FnExactPlanarReason
def E12 (c_laws_szIntSS : ((List (List Int)) × Int × Unit → Option Int)) (c_laws_toIntSS : ((List (List Int)) × Unit → Option (List (List Int)))) (c_spec_PlanarReason : ((List (List Int)) × Unit → Option (List (List Int)))) (c_impl_PlanarReason : ((List (List Int)) × Unit → Option (List (List Int)))) (c_laws_eqIntSS : ((List (List Int)) × (List (List Int)) × Unit → Option Bool)) (m_laws_markIntSS : ((List (List Int)) → (Int × Unit) → Option ((List (List Int)) × Int))) (c_laws_heldIntSS : ((List (List Int)) × Int × Unit → Option Int)) : Env := ⟨tys, [], [(47, ⟨[(.slice (.slice int)), int], int, c_laws_szIntSS⟩), (49, ⟨[(.slice (.slice int))], (.slice (.slice int)), c_laws_toIntSS⟩), (52, ⟨[(.slice (.slice int))], (.slice (.slice int)), c_spec_PlanarReason⟩), (53, ⟨[(.slice (.slice int))], (.slice (.slice int)), c_impl_PlanarReason⟩), (51, ⟨[(.slice (.slice int)), (.slice (.slice int))], .bool, c_laws_eqIntSS⟩), (55, ⟨[(.slice (.slice int)), int], int, c_laws_heldIntSS⟩)], [(54, ⟨(.slice (.slice int)), 0, [int], some int, m_laws_markIntSS⟩)]⟩
def A12 (_c_laws_szIntSS : ((List (List Int)) × Int × Unit → Option Int)) (_c_laws_toIntSS : ((List (List Int)) × Unit → Option (List (List Int)))) (_c_spec_PlanarReason : ((List (List Int)) × Unit → Option (List (List Int)))) (_c_impl_PlanarReason : ((List (List Int)) × Unit → Option (List (List Int)))) (_c_laws_eqIntSS : ((List (List Int)) × (List (List Int)) × Unit → Option Bool)) (_m_laws_markIntSS : ((List (List Int)) → (Int × Unit) → Option ((List (List Int)) × Int))) (_c_laws_heldIntSS : ((List (List Int)) × Int × Unit → Option Int)) (_N : Nat) : List (Nat × Loop (Ty.den .bool)) := []
theorem K12 (c_laws_szIntSS : ((List (List Int)) × Int × Unit → Option Int)) (c_laws_toIntSS : ((List (List Int)) × Unit → Option (List (List Int)))) (c_spec_PlanarReason : ((List (List Int)) × Unit → Option (List (List Int)))) (c_impl_PlanarReason : ((List (List Int)) × Unit → Option (List (List Int)))) (c_laws_eqIntSS : ((List (List Int)) × (List (List Int)) × Unit → Option Bool)) (m_laws_markIntSS : ((List (List Int)) → (Int × Unit) → Option ((List (List Int)) × Int))) (c_laws_heldIntSS : ((List (List Int)) × Int × Unit → Option Int)) (N : Nat) (a0 : (List (List Int))) : fnK N (E12 c_laws_szIntSS c_laws_toIntSS c_spec_PlanarReason c_impl_PlanarReason c_laws_eqIntSS m_laws_markIntSS c_laws_heldIntSS) Go.Proofs.Try.f12 [(.slice (.slice int))] .bool (A12 c_laws_szIntSS c_laws_toIntSS c_spec_PlanarReason c_impl_PlanarReason c_laws_eqIntSS m_laws_markIntSS c_laws_heldIntSS N) (a0, ()) = r_laws_FnExactPlanarReason c_laws_szIntSS c_laws_toIntSS c_spec_PlanarReason c_impl_PlanarReason c_laws_eqIntSS m_laws_markIntSS c_laws_heldIntSS N a0 := by kernel_rfl
theorem L12 (c_laws_szIntSS : ((List (List Int)) × Int × Unit → Option Int)) (c_laws_toIntSS : ((List (List Int)) × Unit → Option (List (List Int)))) (c_spec_PlanarReason : ((List (List Int)) × Unit → Option (List (List Int)))) (c_impl_PlanarReason : ((List (List Int)) × Unit → Option (List (List Int)))) (c_laws_eqIntSS : ((List (List Int)) × (List (List Int)) × Unit → Option Bool)) (m_laws_markIntSS : ((List (List Int)) → (Int × Unit) → Option ((List (List Int)) × Int))) (c_laws_heldIntSS : ((List (List Int)) × Int × Unit → Option Int)) (N : Nat) : LoopsOk N (E12 c_laws_szIntSS c_laws_toIntSS c_spec_PlanarReason c_impl_PlanarReason c_laws_eqIntSS m_laws_markIntSS c_laws_heldIntSS) (A12 c_laws_szIntSS c_laws_toIntSS c_spec_PlanarReason c_impl_PlanarReason c_laws_eqIntSS m_laws_markIntSS c_laws_heldIntSS N) Go.Proofs.Try.f12.ntmps (retOf (E12 c_laws_szIntSS c_laws_toIntSS c_spec_PlanarReason c_impl_PlanarReason c_laws_eqIntSS m_laws_markIntSS c_laws_heldIntSS) Go.Proofs.Try.f12 .bool) (loopsOf (Go.Proofs.Try.f12.body.getD .skip)) :=
  LoopsOk.of (l := []) (by kernel_rfl) .nil
theorem There12 : There Go.Proofs.Try.prog 12 := ⟨_, Go.Proofs.Try.func12, by kernel_rfl, by kernel_rfl⟩
theorem C12 {c_laws_szIntSS : ((List (List Int)) × Int × Unit → Option Int)} {c_laws_toIntSS : ((List (List Int)) × Unit → Option (List (List Int)))} {c_spec_PlanarReason : ((List (List Int)) × Unit → Option (List (List Int)))} {c_impl_PlanarReason : ((List (List Int)) × Unit → Option (List (List Int)))} {c_laws_eqIntSS : ((List (List Int)) × (List (List Int)) × Unit → Option Bool)} {m_laws_markIntSS : ((List (List Int)) → (Int × Unit) → Option ((List (List Int)) × Int))} {c_laws_heldIntSS : ((List (List Int)) × Int × Unit → Option Int)} (h_c_laws_szIntSS : Contract Go.Proofs.Try.prog 47 ⟨[(.slice (.slice int)), int], int, c_laws_szIntSS⟩) (h_c_laws_toIntSS : Contract Go.Proofs.Try.prog 49 ⟨[(.slice (.slice int))], (.slice (.slice int)), c_laws_toIntSS⟩) (h_c_spec_PlanarReason : Contract Go.Proofs.Try.prog 52 ⟨[(.slice (.slice int))], (.slice (.slice int)), c_spec_PlanarReason⟩) (h_c_impl_PlanarReason : Contract Go.Proofs.Try.prog 53 ⟨[(.slice (.slice int))], (.slice (.slice int)), c_impl_PlanarReason⟩) (h_c_laws_eqIntSS : Contract Go.Proofs.Try.prog 51 ⟨[(.slice (.slice int)), (.slice (.slice int))], .bool, c_laws_eqIntSS⟩) (h_m_laws_markIntSS : MutC Go.Proofs.Try.prog 54 ⟨(.slice (.slice int)), 0, [int], some int, m_laws_markIntSS⟩) (h_c_laws_heldIntSS : Contract Go.Proofs.Try.prog 55 ⟨[(.slice (.slice int)), int], int, c_laws_heldIntSS⟩) {f : ((List (List Int)) × Unit → Option Bool)} (h : ∀ a0 r, f (a0, ()) = some r → ∃ N, r_laws_FnExactPlanarReason c_laws_szIntSS c_laws_toIntSS c_spec_PlanarReason c_impl_PlanarReason c_laws_eqIntSS m_laws_markIntSS c_laws_heldIntSS N a0 = some r) : Contract Go.Proofs.Try.prog 12 ⟨[(.slice (.slice int))], .bool, f⟩ := by
  refine contract (E := E12 c_laws_szIntSS c_laws_toIntSS c_spec_PlanarReason c_impl_PlanarReason c_laws_eqIntSS m_laws_markIntSS c_laws_heldIntSS) (envOf table ⟨⟨h_c_laws_szIntSS, There47⟩, ⟨⟨h_c_laws_toIntSS, There49⟩, ⟨⟨h_c_spec_PlanarReason, There52⟩, ⟨⟨h_c_impl_PlanarReason, There53⟩, ⟨⟨h_c_laws_eqIntSS, There51⟩, ⟨⟨h_c_laws_heldIntSS, There55⟩, trivial⟩⟩⟩⟩⟩⟩ ⟨⟨h_m_laws_markIntSS, There54⟩, trivial⟩) mixed Go.Proofs.Try.func12 (c := Go.Proofs.Try.f12.body.getD .skip) (by kernel_rfl) (Nat.le_of_ble_eq_true (by kernel_rfl)) fun xs r hr => ?_
  obtain ⟨a0, _⟩ := xs
  obtain ⟨N, hN⟩ := h _ r hr
  exact ⟨N, A12 c_laws_szIntSS c_laws_toIntSS c_spec_PlanarReason c_impl_PlanarReason c_laws_eqIntSS m_laws_markIntSS c_laws_heldIntSS N, L12 c_laws_szIntSS c_laws_toIntSS c_spec_PlanarReason c_impl_PlanarReason c_laws_eqIntSS m_laws_markIntSS c_laws_heldIntSS N, (K12 c_laws_szIntSS c_laws_toIntSS c_spec_PlanarReason c_impl_PlanarReason c_laws_eqIntSS m_laws_markIntSS c_laws_heldIntSS N a0).trans hN⟩
theorem X12 : Contract Go.Proofs.Try.prog 12 ⟨[(.slice (.slice int))], .bool, e_laws_FnExactPlanarReason⟩ := C12 X47 X49 X52 X53 X51 X54 X55 fun _ _ h => ⟨N0, h⟩
end Go.Sx.S
