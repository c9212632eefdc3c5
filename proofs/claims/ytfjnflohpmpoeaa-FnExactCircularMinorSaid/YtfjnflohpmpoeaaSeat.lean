/- The functions keep their contracts. Conditions: none. -/
import Derived.Test.YtfjnflohpmpoeaaRes
import Derived.Shelf.Slices.Empties
import Derived.Shelf.Slices.Delete
import Derived.Shelf.Slices.Reverse
import Derived.Test.YtfjnflohpmpoeaaProg
/- The functions of the program compute what was printed. Conditions: none. -/
namespace Go.Sx.S
open Go Go.Sx Go.Sx.R
def int : Ty := .num .i64
def wire : Ty := .pair int (.pair int int)
def net : Ty := .pair int (.pair int (.pair int (.slice wire)))
def ratio : Ty := .pair int int
def fault : Ty := .pair int int

def tys : List (Nat × Ty) := [(3, int), (4, .bool), (5, (.num .u8)), (21, (.num .i32)), (22, (.slice wire)), (24, net), (26, fault), (28, (.slice wire)), (30, net), (34, fault), (39, (.slice fault)), (52, (.slice (.slice ratio))), (57, (.slice int)), (58, (.slice ratio)), (68, ratio), (77, wire), (87, (.slice (.slice int))), (105, wire), (107, (.slice .bool)), (114, (.num .u64)), (132, (.num .u32))]
theorem table (sp : List (Nat × FnSpec)) (mu : List (Nat × MutSpec)) : tableB Go.Proofs.Try.prog ⟨tys, [], sp, mu⟩ tys = true := by kernel_rfl
theorem mixed : Go.Proofs.Try.prog.follows .mixedOrders = true := by kernel_rfl
-- laws_szWireS
def E58 : Env := ⟨tys, [], [], []⟩
def A58 (_N : Nat) : List (Nat × Loop (Ty.den int)) := []
theorem K58 (N : Nat) (a0 : (List (Int × Int × Int))) (a1 : Int) : fnK N (E58) Go.Proofs.Try.f58 [(.slice wire), int] int (A58 N) (a0, a1, ()) = r_laws_szWireS N a0 a1 := by kernel_rfl
theorem L58 (N : Nat) : LoopsOk N (E58) (A58 N) Go.Proofs.Try.f58.ntmps (retOf (E58) Go.Proofs.Try.f58 int) (loopsOf (Go.Proofs.Try.f58.body.getD .skip)) :=
  LoopsOk.of (l := []) (by kernel_rfl) .nil
theorem There58 : There Go.Proofs.Try.prog 58 := ⟨_, Go.Proofs.Try.func58, by kernel_rfl, by kernel_rfl⟩
theorem C58 {f : ((List (Int × Int × Int)) × Int × Unit → Option Int)} (h : ∀ a0 a1 r, f (a0, a1, ()) = some r → ∃ N, r_laws_szWireS N a0 a1 = some r) : Contract Go.Proofs.Try.prog 58 ⟨[(.slice wire), int], int, f⟩ := by
  refine contract (E := E58) (envOf table trivial trivial) mixed Go.Proofs.Try.func58 (c := Go.Proofs.Try.f58.body.getD .skip) (by kernel_rfl) (Nat.le_of_ble_eq_true (by kernel_rfl)) fun xs r hr => ?_
  obtain ⟨a0, a1, _⟩ := xs
  obtain ⟨N, hN⟩ := h _ _ r hr
  exact ⟨N, A58 N, L58 N, (K58 N a0 a1).trans hN⟩
theorem X58 : Contract Go.Proofs.Try.prog 58 ⟨[(.slice wire), int], int, e_laws_szWireS⟩ := C58 fun _ _ _ h => ⟨N0, h⟩
-- laws_szNet
def E15 (c_laws_szWireS : ((List (Int × Int × Int)) × Int × Unit → Option Int)) : Env := ⟨tys, [], [(58, ⟨[(.slice wire), int], int, c_laws_szWireS⟩)], []⟩
def A15 (_c_laws_szWireS : ((List (Int × Int × Int)) × Int × Unit → Option Int)) (_N : Nat) : List (Nat × Loop (Ty.den int)) := []
theorem K15 (c_laws_szWireS : ((List (Int × Int × Int)) × Int × Unit → Option Int)) (N : Nat) (a0 : (Int × Int × Int × List (Int × Int × Int))) (a1 : Int) : fnK N (E15 c_laws_szWireS) Go.Proofs.Try.f15 [net, int] int (A15 c_laws_szWireS N) (a0, a1, ()) = r_laws_szNet c_laws_szWireS N a0 a1 := by kernel_rfl
theorem L15 (c_laws_szWireS : ((List (Int × Int × Int)) × Int × Unit → Option Int)) (N : Nat) : LoopsOk N (E15 c_laws_szWireS) (A15 c_laws_szWireS N) Go.Proofs.Try.f15.ntmps (retOf (E15 c_laws_szWireS) Go.Proofs.Try.f15 int) (loopsOf (Go.Proofs.Try.f15.body.getD .skip)) :=
  LoopsOk.of (l := []) (by kernel_rfl) .nil
theorem There15 : There Go.Proofs.Try.prog 15 := ⟨_, Go.Proofs.Try.func15, by kernel_rfl, by kernel_rfl⟩
theorem C15 {c_laws_szWireS : ((List (Int × Int × Int)) × Int × Unit → Option Int)} (h_c_laws_szWireS : Contract Go.Proofs.Try.prog 58 ⟨[(.slice wire), int], int, c_laws_szWireS⟩) {f : ((Int × Int × Int × List (Int × Int × Int)) × Int × Unit → Option Int)} (h : ∀ a0 a1 r, f (a0, a1, ()) = some r → ∃ N, r_laws_szNet c_laws_szWireS N a0 a1 = some r) : Contract Go.Proofs.Try.prog 15 ⟨[net, int], int, f⟩ := by
  refine contract (E := E15 c_laws_szWireS) (envOf table ⟨⟨h_c_laws_szWireS, There58⟩, trivial⟩ trivial) mixed Go.Proofs.Try.func15 (c := Go.Proofs.Try.f15.body.getD .skip) (by kernel_rfl) (Nat.le_of_ble_eq_true (by kernel_rfl)) fun xs r hr => ?_
  obtain ⟨a0, a1, _⟩ := xs
  obtain ⟨N, hN⟩ := h _ _ r hr
  exact ⟨N, A15 c_laws_szWireS N, L15 c_laws_szWireS N, (K15 c_laws_szWireS N a0 a1).trans hN⟩
theorem X15 : Contract Go.Proofs.Try.prog 15 ⟨[net, int], int, e_laws_szNet⟩ := C15 X58 fun _ _ _ h => ⟨N0, h⟩
-- laws_toWire
def E102 : Env := ⟨tys, [], [], []⟩
def A102 (_N : Nat) : List (Nat × Loop (Ty.den wire)) := []
theorem K102 (N : Nat) (a0 : (Int × Int × Int)) : fnK N (E102) Go.Proofs.Try.f102 [wire] wire (A102 N) (a0, ()) = r_laws_toWire N a0 := by kernel_rfl
theorem L102 (N : Nat) : LoopsOk N (E102) (A102 N) Go.Proofs.Try.f102.ntmps (retOf (E102) Go.Proofs.Try.f102 wire) (loopsOf (Go.Proofs.Try.f102.body.getD .skip)) :=
  LoopsOk.of (l := []) (by kernel_rfl) .nil
theorem There102 : There Go.Proofs.Try.prog 102 := ⟨_, Go.Proofs.Try.func102, by kernel_rfl, by kernel_rfl⟩
theorem C102 {f : ((Int × Int × Int) × Unit → Option (Int × Int × Int))} (h : ∀ a0 r, f (a0, ()) = some r → ∃ N, r_laws_toWire N a0 = some r) : Contract Go.Proofs.Try.prog 102 ⟨[wire], wire, f⟩ := by
  refine contract (E := E102) (envOf table trivial trivial) mixed Go.Proofs.Try.func102 (c := Go.Proofs.Try.f102.body.getD .skip) (by kernel_rfl) (Nat.le_of_ble_eq_true (by kernel_rfl)) fun xs r hr => ?_
  obtain ⟨a0, _⟩ := xs
  obtain ⟨N, hN⟩ := h _ r hr
  exact ⟨N, A102 N, L102 N, (K102 N a0).trans hN⟩
theorem X102 : Contract Go.Proofs.Try.prog 102 ⟨[wire], wire, e_laws_toWire⟩ := C102 fun _ _ h => ⟨N0, h⟩
-- laws_toWireS
def E63 (c_laws_toWire : ((Int × Int × Int) × Unit → Option (Int × Int × Int))) : Env := ⟨tys, [], [(102, ⟨[wire], wire, c_laws_toWire⟩)], []⟩
def A63 (c_laws_toWire : ((Int × Int × Int) × Unit → Option (Int × Int × Int))) (N : Nat) : List (Nat × Loop (Ty.den (.slice wire))) := [(0, ⟨[(0, .ro none (.slice (.pair (.num .i64) (.pair (.num .i64) (.num .i64))))), (3, .own (.slice (.pair (.num .i64) (.pair (.num .i64) (.num .i64))))), (4, .ro none (.num .i64))], r_laws_toWireS_L0 c_laws_toWire N⟩)]
theorem K63 (c_laws_toWire : ((Int × Int × Int) × Unit → Option (Int × Int × Int))) (N : Nat) (a0 : (List (Int × Int × Int))) : fnK N (E63 c_laws_toWire) Go.Proofs.Try.f63 [(.slice wire)] (.slice wire) (A63 c_laws_toWire N) (a0, ()) = r_laws_toWireS c_laws_toWire N a0 := by kernel_rfl
theorem L63 (c_laws_toWire : ((Int × Int × Int) × Unit → Option (Int × Int × Int))) (N : Nat) : LoopsOk N (E63 c_laws_toWire) (A63 c_laws_toWire N) Go.Proofs.Try.f63.ntmps (retOf (E63 c_laws_toWire) Go.Proofs.Try.f63 (.slice wire)) (loopsOf (Go.Proofs.Try.f63.body.getD .skip)) :=
  LoopsOk.of (l := [(0, lb Go.Proofs.Try.f63 0)]) (by kernel_rfl) (.cons (L := ⟨[(0, .ro none (.slice (.pair (.num .i64) (.pair (.num .i64) (.num .i64))))), (3, .own (.slice (.pair (.num .i64) (.pair (.num .i64) (.num .i64))))), (4, .ro none (.num .i64))], r_laws_toWireS_L0 c_laws_toWire N⟩) (by kernel_rfl) (by intro s kc ke env; kernel_rfl) .nil)
theorem There63 : There Go.Proofs.Try.prog 63 := ⟨_, Go.Proofs.Try.func63, by kernel_rfl, by kernel_rfl⟩
theorem C63 {c_laws_toWire : ((Int × Int × Int) × Unit → Option (Int × Int × Int))} (h_c_laws_toWire : Contract Go.Proofs.Try.prog 102 ⟨[wire], wire, c_laws_toWire⟩) {f : ((List (Int × Int × Int)) × Unit → Option (List (Int × Int × Int)))} (h : ∀ a0 r, f (a0, ()) = some r → ∃ N, r_laws_toWireS c_laws_toWire N a0 = some r) : Contract Go.Proofs.Try.prog 63 ⟨[(.slice wire)], (.slice wire), f⟩ := by
  refine contract (E := E63 c_laws_toWire) (envOf table ⟨⟨h_c_laws_toWire, There102⟩, trivial⟩ trivial) mixed Go.Proofs.Try.func63 (c := Go.Proofs.Try.f63.body.getD .skip) (by kernel_rfl) (Nat.le_of_ble_eq_true (by kernel_rfl)) fun xs r hr => ?_
  obtain ⟨a0, _⟩ := xs
  obtain ⟨N, hN⟩ := h _ r hr
  exact ⟨N, A63 c_laws_toWire N, L63 c_laws_toWire N, (K63 c_laws_toWire N a0).trans hN⟩
theorem X63 : Contract Go.Proofs.Try.prog 63 ⟨[(.slice wire)], (.slice wire), e_laws_toWireS⟩ := C63 X102 fun _ _ h => ⟨N0, h⟩
-- laws_toNet
def E17 (c_laws_toWireS : ((List (Int × Int × Int)) × Unit → Option (List (Int × Int × Int)))) : Env := ⟨tys, [], [(63, ⟨[(.slice wire)], (.slice wire), c_laws_toWireS⟩)], []⟩
def A17 (_c_laws_toWireS : ((List (Int × Int × Int)) × Unit → Option (List (Int × Int × Int)))) (_N : Nat) : List (Nat × Loop (Ty.den net)) := []
theorem K17 (c_laws_toWireS : ((List (Int × Int × Int)) × Unit → Option (List (Int × Int × Int)))) (N : Nat) (a0 : (Int × Int × Int × List (Int × Int × Int))) : fnK N (E17 c_laws_toWireS) Go.Proofs.Try.f17 [net] net (A17 c_laws_toWireS N) (a0, ()) = r_laws_toNet c_laws_toWireS N a0 := by kernel_rfl
theorem L17 (c_laws_toWireS : ((List (Int × Int × Int)) × Unit → Option (List (Int × Int × Int)))) (N : Nat) : LoopsOk N (E17 c_laws_toWireS) (A17 c_laws_toWireS N) Go.Proofs.Try.f17.ntmps (retOf (E17 c_laws_toWireS) Go.Proofs.Try.f17 net) (loopsOf (Go.Proofs.Try.f17.body.getD .skip)) :=
  LoopsOk.of (l := []) (by kernel_rfl) .nil
theorem There17 : There Go.Proofs.Try.prog 17 := ⟨_, Go.Proofs.Try.func17, by kernel_rfl, by kernel_rfl⟩
theorem C17 {c_laws_toWireS : ((List (Int × Int × Int)) × Unit → Option (List (Int × Int × Int)))} (h_c_laws_toWireS : Contract Go.Proofs.Try.prog 63 ⟨[(.slice wire)], (.slice wire), c_laws_toWireS⟩) {f : ((Int × Int × Int × List (Int × Int × Int)) × Unit → Option (Int × Int × Int × List (Int × Int × Int)))} (h : ∀ a0 r, f (a0, ()) = some r → ∃ N, r_laws_toNet c_laws_toWireS N a0 = some r) : Contract Go.Proofs.Try.prog 17 ⟨[net], net, f⟩ := by
  refine contract (E := E17 c_laws_toWireS) (envOf table ⟨⟨h_c_laws_toWireS, There63⟩, trivial⟩ trivial) mixed Go.Proofs.Try.func17 (c := Go.Proofs.Try.f17.body.getD .skip) (by kernel_rfl) (Nat.le_of_ble_eq_true (by kernel_rfl)) fun xs r hr => ?_
  obtain ⟨a0, _⟩ := xs
  obtain ⟨N, hN⟩ := h _ r hr
  exact ⟨N, A17 c_laws_toWireS N, L17 c_laws_toWireS N, (K17 c_laws_toWireS N a0).trans hN⟩
theorem X17 : Contract Go.Proofs.Try.prog 17 ⟨[net], net, e_laws_toNet⟩ := C17 X63 fun _ _ h => ⟨N0, h⟩
-- laws_toIntS
def E46 : Env := ⟨tys, [], [], []⟩
def A46 (N : Nat) : List (Nat × Loop (Ty.den (.slice int))) := [(0, ⟨[(0, .ro none (.slice (.num .i64))), (3, .own (.slice (.num .i64))), (4, .ro none (.num .i64))], r_laws_toIntS_L0 N⟩)]
theorem K46 (N : Nat) (a0 : (List Int)) : fnK N (E46) Go.Proofs.Try.f46 [(.slice int)] (.slice int) (A46 N) (a0, ()) = r_laws_toIntS N a0 := by kernel_rfl
theorem L46 (N : Nat) : LoopsOk N (E46) (A46 N) Go.Proofs.Try.f46.ntmps (retOf (E46) Go.Proofs.Try.f46 (.slice int)) (loopsOf (Go.Proofs.Try.f46.body.getD .skip)) :=
  LoopsOk.of (l := [(0, lb Go.Proofs.Try.f46 0)]) (by kernel_rfl) (.cons (L := ⟨[(0, .ro none (.slice (.num .i64))), (3, .own (.slice (.num .i64))), (4, .ro none (.num .i64))], r_laws_toIntS_L0 N⟩) (by kernel_rfl) (by intro s kc ke env; kernel_rfl) .nil)
theorem There46 : There Go.Proofs.Try.prog 46 := ⟨_, Go.Proofs.Try.func46, by kernel_rfl, by kernel_rfl⟩
theorem C46 {f : ((List Int) × Unit → Option (List Int))} (h : ∀ a0 r, f (a0, ()) = some r → ∃ N, r_laws_toIntS N a0 = some r) : Contract Go.Proofs.Try.prog 46 ⟨[(.slice int)], (.slice int), f⟩ := by
  refine contract (E := E46) (envOf table trivial trivial) mixed Go.Proofs.Try.func46 (c := Go.Proofs.Try.f46.body.getD .skip) (by kernel_rfl) (Nat.le_of_ble_eq_true (by kernel_rfl)) fun xs r hr => ?_
  obtain ⟨a0, _⟩ := xs
  obtain ⟨N, hN⟩ := h _ r hr
  exact ⟨N, A46 N, L46 N, (K46 N a0).trans hN⟩
theorem X46 : Contract Go.Proofs.Try.prog 46 ⟨[(.slice int)], (.slice int), e_laws_toIntS⟩ := C46 fun _ _ h => ⟨N0, h⟩
-- spec_l01In
def E60 : Env := ⟨tys, [], [], []⟩
def A60 (_N : Nat) : List (Nat × Loop (Ty.den .bool)) := []
theorem K60 (N : Nat) (a0 : Int) (a1 : Int) (a2 : Int) : fnK N (E60) Go.Proofs.Try.f60 [int, int, int] .bool (A60 N) (a0, a1, a2, ()) = r_spec_l01In N a0 a1 a2 := by kernel_rfl
theorem L60 (N : Nat) : LoopsOk N (E60) (A60 N) Go.Proofs.Try.f60.ntmps (retOf (E60) Go.Proofs.Try.f60 .bool) (loopsOf (Go.Proofs.Try.f60.body.getD .skip)) :=
  LoopsOk.of (l := []) (by kernel_rfl) .nil
theorem There60 : There Go.Proofs.Try.prog 60 := ⟨_, Go.Proofs.Try.func60, by kernel_rfl, by kernel_rfl⟩
theorem C60 {f : (Int × Int × Int × Unit → Option Bool)} (h : ∀ a0 a1 a2 r, f (a0, a1, a2, ()) = some r → ∃ N, r_spec_l01In N a0 a1 a2 = some r) : Contract Go.Proofs.Try.prog 60 ⟨[int, int, int], .bool, f⟩ := by
  refine contract (E := E60) (envOf table trivial trivial) mixed Go.Proofs.Try.func60 (c := Go.Proofs.Try.f60.body.getD .skip) (by kernel_rfl) (Nat.le_of_ble_eq_true (by kernel_rfl)) fun xs r hr => ?_
  obtain ⟨a0, a1, a2, _⟩ := xs
  obtain ⟨N, hN⟩ := h _ _ _ r hr
  exact ⟨N, A60 N, L60 N, (K60 N a0 a1 a2).trans hN⟩
theorem X60 : Contract Go.Proofs.Try.prog 60 ⟨[int, int, int], .bool, e_spec_l01In⟩ := C60 fun _ _ _ _ h => ⟨N0, h⟩
-- spec_l03Has
def E125 : Env := ⟨tys, [], [], []⟩
def A125 (N : Nat) : List (Nat × Loop (Ty.den .bool)) := [(0, ⟨[(1, .ro none (.num .i64)), (7, .ro none (.slice (.num .i64))), (8, .ro none (.num .i64)), (9, .ro none (.num .i64))], r_spec_l03Has_L0 N⟩)]
theorem K125 (N : Nat) (a0 : (List Int)) (a1 : Int) : fnK N (E125) Go.Proofs.Try.f125 [(.slice int), int] .bool (A125 N) (a0, a1, ()) = r_spec_l03Has N a0 a1 := by kernel_rfl
theorem L125 (N : Nat) : LoopsOk N (E125) (A125 N) Go.Proofs.Try.f125.ntmps (retOf (E125) Go.Proofs.Try.f125 .bool) (loopsOf (Go.Proofs.Try.f125.body.getD .skip)) :=
  LoopsOk.of (l := [(0, lb Go.Proofs.Try.f125 0)]) (by kernel_rfl) (.cons (L := ⟨[(1, .ro none (.num .i64)), (7, .ro none (.slice (.num .i64))), (8, .ro none (.num .i64)), (9, .ro none (.num .i64))], r_spec_l03Has_L0 N⟩) (by kernel_rfl) (by intro s kc ke env; kernel_rfl) .nil)
theorem There125 : There Go.Proofs.Try.prog 125 := ⟨_, Go.Proofs.Try.func125, by kernel_rfl, by kernel_rfl⟩
theorem C125 {f : ((List Int) × Int × Unit → Option Bool)} (h : ∀ a0 a1 r, f (a0, a1, ()) = some r → ∃ N, r_spec_l03Has N a0 a1 = some r) : Contract Go.Proofs.Try.prog 125 ⟨[(.slice int), int], .bool, f⟩ := by
  refine contract (E := E125) (envOf table trivial trivial) mixed Go.Proofs.Try.func125 (c := Go.Proofs.Try.f125.body.getD .skip) (by kernel_rfl) (Nat.le_of_ble_eq_true (by kernel_rfl)) fun xs r hr => ?_
  obtain ⟨a0, a1, _⟩ := xs
  obtain ⟨N, hN⟩ := h _ _ r hr
  exact ⟨N, A125 N, L125 N, (K125 N a0 a1).trans hN⟩
theorem X125 : Contract Go.Proofs.Try.prog 125 ⟨[(.slice int), int], .bool, e_spec_l03Has⟩ := C125 fun _ _ _ h => ⟨N0, h⟩
-- spec_l03Reach
def E101 (c_spec_l03Has : ((List Int) × Int × Unit → Option Bool)) : Env := ⟨tys, [], [(125, ⟨[(.slice int), int], .bool, c_spec_l03Has⟩)], []⟩
def A101 (c_spec_l03Has : ((List Int) × Int × Unit → Option Bool)) (N : Nat) : List (Nat × Loop (Ty.den (.slice int))) := [(0, ⟨[(0, .ro none (.slice (.pair (.num .i64) (.pair (.num .i64) (.num .i64))))), (5, .own (.slice (.num .i64))), (6, .ro none (.num .i64))], r_spec_l03Reach_L0 c_spec_l03Has N⟩), (2, ⟨[(0, .ro none (.slice (.pair (.num .i64) (.pair (.num .i64) (.num .i64))))), (5, .own (.slice (.num .i64))), (6, .ro none (.num .i64)), (17, .ro none (.slice (.pair (.num .i64) (.pair (.num .i64) (.num .i64))))), (18, .ro none (.num .i64)), (19, .ro none (.num .i64))], r_spec_l03Reach_L2 c_spec_l03Has N⟩)]
theorem K101 (c_spec_l03Has : ((List Int) × Int × Unit → Option Bool)) (N : Nat) (a0 : (List (Int × Int × Int))) (a1 : Int) : fnK N (E101 c_spec_l03Has) Go.Proofs.Try.f101 [(.slice wire), int] (.slice int) (A101 c_spec_l03Has N) (a0, a1, ()) = r_spec_l03Reach c_spec_l03Has N a0 a1 := by kernel_rfl
theorem L101 (c_spec_l03Has : ((List Int) × Int × Unit → Option Bool)) (N : Nat) : LoopsOk N (E101 c_spec_l03Has) (A101 c_spec_l03Has N) Go.Proofs.Try.f101.ntmps (retOf (E101 c_spec_l03Has) Go.Proofs.Try.f101 (.slice int)) (loopsOf (Go.Proofs.Try.f101.body.getD .skip)) :=
  LoopsOk.of (l := [(0, lb Go.Proofs.Try.f101 0), (2, lb Go.Proofs.Try.f101 1)]) (by kernel_rfl) (.cons (L := ⟨[(0, .ro none (.slice (.pair (.num .i64) (.pair (.num .i64) (.num .i64))))), (5, .own (.slice (.num .i64))), (6, .ro none (.num .i64))], r_spec_l03Reach_L0 c_spec_l03Has N⟩) (by kernel_rfl) (by intro s kc ke env; kernel_rfl) (.cons (L := ⟨[(0, .ro none (.slice (.pair (.num .i64) (.pair (.num .i64) (.num .i64))))), (5, .own (.slice (.num .i64))), (6, .ro none (.num .i64)), (17, .ro none (.slice (.pair (.num .i64) (.pair (.num .i64) (.num .i64))))), (18, .ro none (.num .i64)), (19, .ro none (.num .i64))], r_spec_l03Reach_L2 c_spec_l03Has N⟩) (by kernel_rfl) (by intro s kc ke env; kernel_rfl) .nil))
theorem There101 : There Go.Proofs.Try.prog 101 := ⟨_, Go.Proofs.Try.func101, by kernel_rfl, by kernel_rfl⟩
theorem C101 {c_spec_l03Has : ((List Int) × Int × Unit → Option Bool)} (h_c_spec_l03Has : Contract Go.Proofs.Try.prog 125 ⟨[(.slice int), int], .bool, c_spec_l03Has⟩) {f : ((List (Int × Int × Int)) × Int × Unit → Option (List Int))} (h : ∀ a0 a1 r, f (a0, a1, ()) = some r → ∃ N, r_spec_l03Reach c_spec_l03Has N a0 a1 = some r) : Contract Go.Proofs.Try.prog 101 ⟨[(.slice wire), int], (.slice int), f⟩ := by
  refine contract (E := E101 c_spec_l03Has) (envOf table ⟨⟨h_c_spec_l03Has, There125⟩, trivial⟩ trivial) mixed Go.Proofs.Try.func101 (c := Go.Proofs.Try.f101.body.getD .skip) (by kernel_rfl) (Nat.le_of_ble_eq_true (by kernel_rfl)) fun xs r hr => ?_
  obtain ⟨a0, a1, _⟩ := xs
  obtain ⟨N, hN⟩ := h _ _ r hr
  exact ⟨N, A101 c_spec_l03Has N, L101 c_spec_l03Has N, (K101 c_spec_l03Has N a0 a1).trans hN⟩
theorem X101 : Contract Go.Proofs.Try.prog 101 ⟨[(.slice wire), int], (.slice int), e_spec_l03Reach⟩ := C101 X125 fun _ _ _ h => ⟨N0, h⟩
-- spec_NetOk
def E59 (c_spec_l01In : (Int × Int × Int × Unit → Option Bool)) (c_spec_l03Reach : ((List (Int × Int × Int)) × Int × Unit → Option (List Int))) : Env := ⟨tys, [], [(60, ⟨[int, int, int], .bool, c_spec_l01In⟩), (101, ⟨[(.slice wire), int], (.slice int), c_spec_l03Reach⟩)], []⟩
def A59 (c_spec_l01In : (Int × Int × Int × Unit → Option Bool)) (c_spec_l03Reach : ((List (Int × Int × Int)) × Int × Unit → Option (List Int))) (N : Nat) : List (Nat × Loop (Ty.den .bool)) := [(0, ⟨[(1, .box false (.pair (.num .i64) (.pair (.num .i64) (.pair (.num .i64) (.slice (.pair (.num .i64) (.pair (.num .i64) (.num .i64)))))))), (24, .ro none (.slice (.pair (.num .i64) (.pair (.num .i64) (.num .i64))))), (25, .ro none (.num .i64)), (26, .ro none (.num .i64))], r_spec_NetOk_L0 c_spec_l01In c_spec_l03Reach N⟩)]
theorem K59 (c_spec_l01In : (Int × Int × Int × Unit → Option Bool)) (c_spec_l03Reach : ((List (Int × Int × Int)) × Int × Unit → Option (List Int))) (N : Nat) (a0 : (Int × Int × Int × List (Int × Int × Int))) : fnK N (E59 c_spec_l01In c_spec_l03Reach) Go.Proofs.Try.f59 [net] .bool (A59 c_spec_l01In c_spec_l03Reach N) (a0, ()) = r_spec_NetOk c_spec_l01In c_spec_l03Reach N a0 := by kernel_rfl
theorem L59 (c_spec_l01In : (Int × Int × Int × Unit → Option Bool)) (c_spec_l03Reach : ((List (Int × Int × Int)) × Int × Unit → Option (List Int))) (N : Nat) : LoopsOk N (E59 c_spec_l01In c_spec_l03Reach) (A59 c_spec_l01In c_spec_l03Reach N) Go.Proofs.Try.f59.ntmps (retOf (E59 c_spec_l01In c_spec_l03Reach) Go.Proofs.Try.f59 .bool) (loopsOf (Go.Proofs.Try.f59.body.getD .skip)) :=
  LoopsOk.of (l := [(0, lb Go.Proofs.Try.f59 0)]) (by kernel_rfl) (.cons (L := ⟨[(1, .box false (.pair (.num .i64) (.pair (.num .i64) (.pair (.num .i64) (.slice (.pair (.num .i64) (.pair (.num .i64) (.num .i64)))))))), (24, .ro none (.slice (.pair (.num .i64) (.pair (.num .i64) (.num .i64))))), (25, .ro none (.num .i64)), (26, .ro none (.num .i64))], r_spec_NetOk_L0 c_spec_l01In c_spec_l03Reach N⟩) (by kernel_rfl) (by intro s kc ke env; kernel_rfl) .nil)
theorem There59 : There Go.Proofs.Try.prog 59 := ⟨_, Go.Proofs.Try.func59, by kernel_rfl, by kernel_rfl⟩
theorem C59 {c_spec_l01In : (Int × Int × Int × Unit → Option Bool)} {c_spec_l03Reach : ((List (Int × Int × Int)) × Int × Unit → Option (List Int))} (h_c_spec_l01In : Contract Go.Proofs.Try.prog 60 ⟨[int, int, int], .bool, c_spec_l01In⟩) (h_c_spec_l03Reach : Contract Go.Proofs.Try.prog 101 ⟨[(.slice wire), int], (.slice int), c_spec_l03Reach⟩) {f : ((Int × Int × Int × List (Int × Int × Int)) × Unit → Option Bool)} (h : ∀ a0 r, f (a0, ()) = some r → ∃ N, r_spec_NetOk c_spec_l01In c_spec_l03Reach N a0 = some r) : Contract Go.Proofs.Try.prog 59 ⟨[net], .bool, f⟩ := by
  refine contract (E := E59 c_spec_l01In c_spec_l03Reach) (envOf table ⟨⟨h_c_spec_l01In, There60⟩, ⟨⟨h_c_spec_l03Reach, There101⟩, trivial⟩⟩ trivial) mixed Go.Proofs.Try.func59 (c := Go.Proofs.Try.f59.body.getD .skip) (by kernel_rfl) (Nat.le_of_ble_eq_true (by kernel_rfl)) fun xs r hr => ?_
  obtain ⟨a0, _⟩ := xs
  obtain ⟨N, hN⟩ := h _ r hr
  exact ⟨N, A59 c_spec_l01In c_spec_l03Reach N, L59 c_spec_l01In c_spec_l03Reach N, (K59 c_spec_l01In c_spec_l03Reach N a0).trans hN⟩
theorem X59 : Contract Go.Proofs.Try.prog 59 ⟨[net], .bool, e_spec_NetOk⟩ := C59 X60 X101 fun _ _ h => ⟨N0, h⟩
-- spec_l09Rim
def E124 : Env := ⟨tys, [], [], []⟩
def A124 (N : Nat) : List (Nat × Loop (Ty.den (.slice int))) := [(0, ⟨[(1, .ro none (.slice (.num .i64))), (5, .own (.slice (.num .i64))), (6, .ro none (.num .i64))], r_spec_l09Rim_L0 N⟩)]
theorem K124 (N : Nat) (a0 : (List Int)) (a1 : (List Int)) : fnK N (E124) Go.Proofs.Try.f124 [(.slice int), (.slice int)] (.slice int) (A124 N) (a0, a1, ()) = r_spec_l09Rim N a0 a1 := by kernel_rfl
theorem L124 (N : Nat) : LoopsOk N (E124) (A124 N) Go.Proofs.Try.f124.ntmps (retOf (E124) Go.Proofs.Try.f124 (.slice int)) (loopsOf (Go.Proofs.Try.f124.body.getD .skip)) :=
  LoopsOk.of (l := [(0, lb Go.Proofs.Try.f124 0)]) (by kernel_rfl) (.cons (L := ⟨[(1, .ro none (.slice (.num .i64))), (5, .own (.slice (.num .i64))), (6, .ro none (.num .i64))], r_spec_l09Rim_L0 N⟩) (by kernel_rfl) (by intro s kc ke env; kernel_rfl) .nil)
theorem There124 : There Go.Proofs.Try.prog 124 := ⟨_, Go.Proofs.Try.func124, by kernel_rfl, by kernel_rfl⟩
theorem C124 {f : ((List Int) × (List Int) × Unit → Option (List Int))} (h : ∀ a0 a1 r, f (a0, a1, ()) = some r → ∃ N, r_spec_l09Rim N a0 a1 = some r) : Contract Go.Proofs.Try.prog 124 ⟨[(.slice int), (.slice int)], (.slice int), f⟩ := by
  refine contract (E := E124) (envOf table trivial trivial) mixed Go.Proofs.Try.func124 (c := Go.Proofs.Try.f124.body.getD .skip) (by kernel_rfl) (Nat.le_of_ble_eq_true (by kernel_rfl)) fun xs r hr => ?_
  obtain ⟨a0, a1, _⟩ := xs
  obtain ⟨N, hN⟩ := h _ _ r hr
  exact ⟨N, A124 N, L124 N, (K124 N a0 a1).trans hN⟩
theorem X124 : Contract Go.Proofs.Try.prog 124 ⟨[(.slice int), (.slice int)], (.slice int), e_spec_l09Rim⟩ := C124 fun _ _ _ h => ⟨N0, h⟩
-- spec_IsCircular
def E95 (c_spec_l01In : (Int × Int × Int × Unit → Option Bool)) (c_spec_l09Rim : ((List Int) × (List Int) × Unit → Option (List Int))) (c_spec_l03Has : ((List Int) × Int × Unit → Option Bool)) : Env := ⟨tys, [], [(60, ⟨[int, int, int], .bool, c_spec_l01In⟩), (124, ⟨[(.slice int), (.slice int)], (.slice int), c_spec_l09Rim⟩), (125, ⟨[(.slice int), int], .bool, c_spec_l03Has⟩)], []⟩
def A95 (c_spec_l01In : (Int × Int × Int × Unit → Option Bool)) (c_spec_l09Rim : ((List Int) × (List Int) × Unit → Option (List Int))) (c_spec_l03Has : ((List Int) × Int × Unit → Option Bool)) (N : Nat) : List (Nat × Loop (Ty.den .bool)) := [(0, ⟨[(0, .ro none (.num .i64)), (7, .own (.slice (.num .i64))), (8, .ro none (.num .i64)), (29, .ro (some 7) (.slice (.num .i64))), (30, .ro none (.num .i64)), (31, .ro none (.num .i64))], r_spec_IsCircular_L0 c_spec_l01In c_spec_l09Rim c_spec_l03Has N⟩)]
theorem K95 (c_spec_l01In : (Int × Int × Int × Unit → Option Bool)) (c_spec_l09Rim : ((List Int) × (List Int) × Unit → Option (List Int))) (c_spec_l03Has : ((List Int) × Int × Unit → Option Bool)) (N : Nat) (a0 : Int) (a1 : (List Int)) (a2 : (List Int)) : fnK N (E95 c_spec_l01In c_spec_l09Rim c_spec_l03Has) Go.Proofs.Try.f95 [int, (.slice int), (.slice int)] .bool (A95 c_spec_l01In c_spec_l09Rim c_spec_l03Has N) (a0, a1, a2, ()) = r_spec_IsCircular c_spec_l01In c_spec_l09Rim c_spec_l03Has N a0 a1 a2 := by kernel_rfl
theorem L95 (c_spec_l01In : (Int × Int × Int × Unit → Option Bool)) (c_spec_l09Rim : ((List Int) × (List Int) × Unit → Option (List Int))) (c_spec_l03Has : ((List Int) × Int × Unit → Option Bool)) (N : Nat) : LoopsOk N (E95 c_spec_l01In c_spec_l09Rim c_spec_l03Has) (A95 c_spec_l01In c_spec_l09Rim c_spec_l03Has N) Go.Proofs.Try.f95.ntmps (retOf (E95 c_spec_l01In c_spec_l09Rim c_spec_l03Has) Go.Proofs.Try.f95 .bool) (loopsOf (Go.Proofs.Try.f95.body.getD .skip)) :=
  LoopsOk.of (l := [(0, lb Go.Proofs.Try.f95 0)]) (by kernel_rfl) (.cons (L := ⟨[(0, .ro none (.num .i64)), (7, .own (.slice (.num .i64))), (8, .ro none (.num .i64)), (29, .ro (some 7) (.slice (.num .i64))), (30, .ro none (.num .i64)), (31, .ro none (.num .i64))], r_spec_IsCircular_L0 c_spec_l01In c_spec_l09Rim c_spec_l03Has N⟩) (by kernel_rfl) (by intro s kc ke env; kernel_rfl) .nil)
theorem There95 : There Go.Proofs.Try.prog 95 := ⟨_, Go.Proofs.Try.func95, by kernel_rfl, by kernel_rfl⟩
theorem C95 {c_spec_l01In : (Int × Int × Int × Unit → Option Bool)} {c_spec_l09Rim : ((List Int) × (List Int) × Unit → Option (List Int))} {c_spec_l03Has : ((List Int) × Int × Unit → Option Bool)} (h_c_spec_l01In : Contract Go.Proofs.Try.prog 60 ⟨[int, int, int], .bool, c_spec_l01In⟩) (h_c_spec_l09Rim : Contract Go.Proofs.Try.prog 124 ⟨[(.slice int), (.slice int)], (.slice int), c_spec_l09Rim⟩) (h_c_spec_l03Has : Contract Go.Proofs.Try.prog 125 ⟨[(.slice int), int], .bool, c_spec_l03Has⟩) {f : (Int × (List Int) × (List Int) × Unit → Option Bool)} (h : ∀ a0 a1 a2 r, f (a0, a1, a2, ()) = some r → ∃ N, r_spec_IsCircular c_spec_l01In c_spec_l09Rim c_spec_l03Has N a0 a1 a2 = some r) : Contract Go.Proofs.Try.prog 95 ⟨[int, (.slice int), (.slice int)], .bool, f⟩ := by
  refine contract (E := E95 c_spec_l01In c_spec_l09Rim c_spec_l03Has) (envOf table ⟨⟨h_c_spec_l01In, There60⟩, ⟨⟨h_c_spec_l09Rim, There124⟩, ⟨⟨h_c_spec_l03Has, There125⟩, trivial⟩⟩⟩ trivial) mixed Go.Proofs.Try.func95 (c := Go.Proofs.Try.f95.body.getD .skip) (by kernel_rfl) (Nat.le_of_ble_eq_true (by kernel_rfl)) fun xs r hr => ?_
  obtain ⟨a0, a1, a2, _⟩ := xs
  obtain ⟨N, hN⟩ := h _ _ _ r hr
  exact ⟨N, A95 c_spec_l01In c_spec_l09Rim c_spec_l03Has N, L95 c_spec_l01In c_spec_l09Rim c_spec_l03Has N, (K95 c_spec_l01In c_spec_l09Rim c_spec_l03Has N a0 a1 a2).trans hN⟩
theorem X95 : Contract Go.Proofs.Try.prog 95 ⟨[int, (.slice int), (.slice int)], .bool, e_spec_IsCircular⟩ := C95 X60 X124 X125 fun _ _ _ _ h => ⟨N0, h⟩
-- spec_l06Inner
def E96 : Env := ⟨tys, [], [], []⟩
def A96 (N : Nat) : List (Nat × Loop (Ty.den (.slice int))) := [(0, ⟨[(1, .box false (.pair (.num .i64) (.pair (.num .i64) (.pair (.num .i64) (.slice (.pair (.num .i64) (.pair (.num .i64) (.num .i64)))))))), (3, .own (.slice (.num .i64))), (4, .ro none (.num .i64))], r_spec_l06Inner_L0 N⟩)]
theorem K96 (N : Nat) (a0 : (Int × Int × Int × List (Int × Int × Int))) : fnK N (E96) Go.Proofs.Try.f96 [net] (.slice int) (A96 N) (a0, ()) = r_spec_l06Inner N a0 := by kernel_rfl
theorem L96 (N : Nat) : LoopsOk N (E96) (A96 N) Go.Proofs.Try.f96.ntmps (retOf (E96) Go.Proofs.Try.f96 (.slice int)) (loopsOf (Go.Proofs.Try.f96.body.getD .skip)) :=
  LoopsOk.of (l := [(0, lb Go.Proofs.Try.f96 0)]) (by kernel_rfl) (.cons (L := ⟨[(1, .box false (.pair (.num .i64) (.pair (.num .i64) (.pair (.num .i64) (.slice (.pair (.num .i64) (.pair (.num .i64) (.num .i64)))))))), (3, .own (.slice (.num .i64))), (4, .ro none (.num .i64))], r_spec_l06Inner_L0 N⟩) (by kernel_rfl) (by intro s kc ke env; kernel_rfl) .nil)
theorem There96 : There Go.Proofs.Try.prog 96 := ⟨_, Go.Proofs.Try.func96, by kernel_rfl, by kernel_rfl⟩
theorem C96 {f : ((Int × Int × Int × List (Int × Int × Int)) × Unit → Option (List Int))} (h : ∀ a0 r, f (a0, ()) = some r → ∃ N, r_spec_l06Inner N a0 = some r) : Contract Go.Proofs.Try.prog 96 ⟨[net], (.slice int), f⟩ := by
  refine contract (E := E96) (envOf table trivial trivial) mixed Go.Proofs.Try.func96 (c := Go.Proofs.Try.f96.body.getD .skip) (by kernel_rfl) (Nat.le_of_ble_eq_true (by kernel_rfl)) fun xs r hr => ?_
  obtain ⟨a0, _⟩ := xs
  obtain ⟨N, hN⟩ := h _ r hr
  exact ⟨N, A96 N, L96 N, (K96 N a0).trans hN⟩
theorem X96 : Contract Go.Proofs.Try.prog 96 ⟨[net], (.slice int), e_spec_l06Inner⟩ := C96 fun _ _ h => ⟨N0, h⟩
-- spec_WeightAt
def E110 : Env := ⟨tys, [], [], []⟩
def A110 (N : Nat) : List (Nat × Loop (Ty.den int)) := [(0, ⟨[(1, .ro none (.num .i64)), (5, .ro none (.num .i64)), (9, .ro none (.slice (.pair (.num .i64) (.pair (.num .i64) (.num .i64))))), (10, .ro none (.num .i64)), (11, .ro none (.num .i64))], r_spec_WeightAt_L0 N⟩)]
theorem K110 (N : Nat) (a0 : (Int × Int × Int × List (Int × Int × Int))) (a1 : Int) : fnK N (E110) Go.Proofs.Try.f110 [net, int] int (A110 N) (a0, a1, ()) = r_spec_WeightAt N a0 a1 := by kernel_rfl
theorem L110 (N : Nat) : LoopsOk N (E110) (A110 N) Go.Proofs.Try.f110.ntmps (retOf (E110) Go.Proofs.Try.f110 int) (loopsOf (Go.Proofs.Try.f110.body.getD .skip)) :=
  LoopsOk.of (l := [(0, lb Go.Proofs.Try.f110 0)]) (by kernel_rfl) (.cons (L := ⟨[(1, .ro none (.num .i64)), (5, .ro none (.num .i64)), (9, .ro none (.slice (.pair (.num .i64) (.pair (.num .i64) (.num .i64))))), (10, .ro none (.num .i64)), (11, .ro none (.num .i64))], r_spec_WeightAt_L0 N⟩) (by kernel_rfl) (by intro s kc ke env; kernel_rfl) .nil)
theorem There110 : There Go.Proofs.Try.prog 110 := ⟨_, Go.Proofs.Try.func110, by kernel_rfl, by kernel_rfl⟩
theorem C110 {f : ((Int × Int × Int × List (Int × Int × Int)) × Int × Unit → Option Int)} (h : ∀ a0 a1 r, f (a0, a1, ()) = some r → ∃ N, r_spec_WeightAt N a0 a1 = some r) : Contract Go.Proofs.Try.prog 110 ⟨[net, int], int, f⟩ := by
  refine contract (E := E110) (envOf table trivial trivial) mixed Go.Proofs.Try.func110 (c := Go.Proofs.Try.f110.body.getD .skip) (by kernel_rfl) (Nat.le_of_ble_eq_true (by kernel_rfl)) fun xs r hr => ?_
  obtain ⟨a0, a1, _⟩ := xs
  obtain ⟨N, hN⟩ := h _ _ r hr
  exact ⟨N, A110 N, L110 N, (K110 N a0 a1).trans hN⟩
theorem X110 : Contract Go.Proofs.Try.prog 110 ⟨[net, int], int, e_spec_WeightAt⟩ := C110 fun _ _ _ h => ⟨N0, h⟩
-- spec_l03Find
def E107 : Env := ⟨tys, [], [], []⟩
def A107 (N : Nat) : List (Nat × Loop (Ty.den int)) := [(0, ⟨[(1, .ro none (.num .i64)), (2, .ro none (.num .i64)), (9, .ro none (.slice (.pair (.num .i64) (.pair (.num .i64) (.num .i64))))), (10, .ro none (.num .i64)), (11, .ro none (.num .i64))], r_spec_l03Find_L0 N⟩)]
theorem K107 (N : Nat) (a0 : (List (Int × Int × Int))) (a1 : Int) (a2 : Int) : fnK N (E107) Go.Proofs.Try.f107 [(.slice wire), int, int] int (A107 N) (a0, a1, a2, ()) = r_spec_l03Find N a0 a1 a2 := by kernel_rfl
theorem L107 (N : Nat) : LoopsOk N (E107) (A107 N) Go.Proofs.Try.f107.ntmps (retOf (E107) Go.Proofs.Try.f107 int) (loopsOf (Go.Proofs.Try.f107.body.getD .skip)) :=
  LoopsOk.of (l := [(0, lb Go.Proofs.Try.f107 0)]) (by kernel_rfl) (.cons (L := ⟨[(1, .ro none (.num .i64)), (2, .ro none (.num .i64)), (9, .ro none (.slice (.pair (.num .i64) (.pair (.num .i64) (.num .i64))))), (10, .ro none (.num .i64)), (11, .ro none (.num .i64))], r_spec_l03Find_L0 N⟩) (by kernel_rfl) (by intro s kc ke env; kernel_rfl) .nil)
theorem There107 : There Go.Proofs.Try.prog 107 := ⟨_, Go.Proofs.Try.func107, by kernel_rfl, by kernel_rfl⟩
theorem C107 {f : ((List (Int × Int × Int)) × Int × Int × Unit → Option Int)} (h : ∀ a0 a1 a2 r, f (a0, a1, a2, ()) = some r → ∃ N, r_spec_l03Find N a0 a1 a2 = some r) : Contract Go.Proofs.Try.prog 107 ⟨[(.slice wire), int, int], int, f⟩ := by
  refine contract (E := E107) (envOf table trivial trivial) mixed Go.Proofs.Try.func107 (c := Go.Proofs.Try.f107.body.getD .skip) (by kernel_rfl) (Nat.le_of_ble_eq_true (by kernel_rfl)) fun xs r hr => ?_
  obtain ⟨a0, a1, a2, _⟩ := xs
  obtain ⟨N, hN⟩ := h _ _ _ r hr
  exact ⟨N, A107 N, L107 N, (K107 N a0 a1 a2).trans hN⟩
theorem X107 : Contract Go.Proofs.Try.prog 107 ⟨[(.slice wire), int, int], int, e_spec_l03Find⟩ := C107 fun _ _ _ _ h => ⟨N0, h⟩
-- spec_WeightBetween
def E71 (c_spec_l03Find : ((List (Int × Int × Int)) × Int × Int × Unit → Option Int)) : Env := ⟨tys, [], [(107, ⟨[(.slice wire), int, int], int, c_spec_l03Find⟩)], []⟩
def A71 (_c_spec_l03Find : ((List (Int × Int × Int)) × Int × Int × Unit → Option Int)) (_N : Nat) : List (Nat × Loop (Ty.den int)) := []
theorem K71 (c_spec_l03Find : ((List (Int × Int × Int)) × Int × Int × Unit → Option Int)) (N : Nat) (a0 : (Int × Int × Int × List (Int × Int × Int))) (a1 : Int) (a2 : Int) : fnK N (E71 c_spec_l03Find) Go.Proofs.Try.f71 [net, int, int] int (A71 c_spec_l03Find N) (a0, a1, a2, ()) = r_spec_WeightBetween c_spec_l03Find N a0 a1 a2 := by kernel_rfl
theorem L71 (c_spec_l03Find : ((List (Int × Int × Int)) × Int × Int × Unit → Option Int)) (N : Nat) : LoopsOk N (E71 c_spec_l03Find) (A71 c_spec_l03Find N) Go.Proofs.Try.f71.ntmps (retOf (E71 c_spec_l03Find) Go.Proofs.Try.f71 int) (loopsOf (Go.Proofs.Try.f71.body.getD .skip)) :=
  LoopsOk.of (l := []) (by kernel_rfl) .nil
theorem There71 : There Go.Proofs.Try.prog 71 := ⟨_, Go.Proofs.Try.func71, by kernel_rfl, by kernel_rfl⟩
theorem C71 {c_spec_l03Find : ((List (Int × Int × Int)) × Int × Int × Unit → Option Int)} (h_c_spec_l03Find : Contract Go.Proofs.Try.prog 107 ⟨[(.slice wire), int, int], int, c_spec_l03Find⟩) {f : ((Int × Int × Int × List (Int × Int × Int)) × Int × Int × Unit → Option Int)} (h : ∀ a0 a1 a2 r, f (a0, a1, a2, ()) = some r → ∃ N, r_spec_WeightBetween c_spec_l03Find N a0 a1 a2 = some r) : Contract Go.Proofs.Try.prog 71 ⟨[net, int, int], int, f⟩ := by
  refine contract (E := E71 c_spec_l03Find) (envOf table ⟨⟨h_c_spec_l03Find, There107⟩, trivial⟩ trivial) mixed Go.Proofs.Try.func71 (c := Go.Proofs.Try.f71.body.getD .skip) (by kernel_rfl) (Nat.le_of_ble_eq_true (by kernel_rfl)) fun xs r hr => ?_
  obtain ⟨a0, a1, a2, _⟩ := xs
  obtain ⟨N, hN⟩ := h _ _ _ r hr
  exact ⟨N, A71 c_spec_l03Find N, L71 c_spec_l03Find N, (K71 c_spec_l03Find N a0 a1 a2).trans hN⟩
theorem X71 : Contract Go.Proofs.Try.prog 71 ⟨[net, int, int], int, e_spec_WeightBetween⟩ := C71 X107 fun _ _ _ _ h => ⟨N0, h⟩
-- spec_LaplacianOf
def E98 (c_spec_NetOk : ((Int × Int × Int × List (Int × Int × Int)) × Unit → Option Bool)) (c_spec_WeightAt : ((Int × Int × Int × List (Int × Int × Int)) × Int × Unit → Option Int)) (c_spec_WeightBetween : ((Int × Int × Int × List (Int × Int × Int)) × Int × Int × Unit → Option Int)) : Env := ⟨tys, [], [(59, ⟨[net], .bool, c_spec_NetOk⟩), (110, ⟨[net, int], int, c_spec_WeightAt⟩), (71, ⟨[net, int, int], int, c_spec_WeightBetween⟩)], []⟩
def A98 (c_spec_NetOk : ((Int × Int × Int × List (Int × Int × Int)) × Unit → Option Bool)) (c_spec_WeightAt : ((Int × Int × Int × List (Int × Int × Int)) × Int × Unit → Option Int)) (c_spec_WeightBetween : ((Int × Int × Int × List (Int × Int × Int)) × Int × Int × Unit → Option Int)) (N : Nat) : List (Nat × Loop (Ty.den (.slice (.slice int)))) := [(0, ⟨[(1, .box false (.pair (.num .i64) (.pair (.num .i64) (.pair (.num .i64) (.slice (.pair (.num .i64) (.pair (.num .i64) (.num .i64)))))))), (3, .own (.slice (.slice (.num .i64)))), (4, .ro none (.num .i64))], r_spec_LaplacianOf_L0 c_spec_NetOk c_spec_WeightAt c_spec_WeightBetween N⟩), (2, ⟨[(1, .box false (.pair (.num .i64) (.pair (.num .i64) (.pair (.num .i64) (.slice (.pair (.num .i64) (.pair (.num .i64) (.num .i64)))))))), (3, .own (.slice (.slice (.num .i64)))), (4, .ro none (.num .i64)), (5, .own (.slice (.num .i64))), (6, .ro none (.num .i64))], r_spec_LaplacianOf_L2 c_spec_NetOk c_spec_WeightAt c_spec_WeightBetween N⟩)]
theorem K98 (c_spec_NetOk : ((Int × Int × Int × List (Int × Int × Int)) × Unit → Option Bool)) (c_spec_WeightAt : ((Int × Int × Int × List (Int × Int × Int)) × Int × Unit → Option Int)) (c_spec_WeightBetween : ((Int × Int × Int × List (Int × Int × Int)) × Int × Int × Unit → Option Int)) (N : Nat) (a0 : (Int × Int × Int × List (Int × Int × Int))) : fnK N (E98 c_spec_NetOk c_spec_WeightAt c_spec_WeightBetween) Go.Proofs.Try.f98 [net] (.slice (.slice int)) (A98 c_spec_NetOk c_spec_WeightAt c_spec_WeightBetween N) (a0, ()) = r_spec_LaplacianOf c_spec_NetOk c_spec_WeightAt c_spec_WeightBetween N a0 := by kernel_rfl
theorem L98 (c_spec_NetOk : ((Int × Int × Int × List (Int × Int × Int)) × Unit → Option Bool)) (c_spec_WeightAt : ((Int × Int × Int × List (Int × Int × Int)) × Int × Unit → Option Int)) (c_spec_WeightBetween : ((Int × Int × Int × List (Int × Int × Int)) × Int × Int × Unit → Option Int)) (N : Nat) : LoopsOk N (E98 c_spec_NetOk c_spec_WeightAt c_spec_WeightBetween) (A98 c_spec_NetOk c_spec_WeightAt c_spec_WeightBetween N) Go.Proofs.Try.f98.ntmps (retOf (E98 c_spec_NetOk c_spec_WeightAt c_spec_WeightBetween) Go.Proofs.Try.f98 (.slice (.slice int))) (loopsOf (Go.Proofs.Try.f98.body.getD .skip)) :=
  LoopsOk.of (l := [(0, lb Go.Proofs.Try.f98 0), (2, lb Go.Proofs.Try.f98 1)]) (by kernel_rfl) (.cons (L := ⟨[(1, .box false (.pair (.num .i64) (.pair (.num .i64) (.pair (.num .i64) (.slice (.pair (.num .i64) (.pair (.num .i64) (.num .i64)))))))), (3, .own (.slice (.slice (.num .i64)))), (4, .ro none (.num .i64))], r_spec_LaplacianOf_L0 c_spec_NetOk c_spec_WeightAt c_spec_WeightBetween N⟩) (by kernel_rfl) (by intro s kc ke env; kernel_rfl) (.cons (L := ⟨[(1, .box false (.pair (.num .i64) (.pair (.num .i64) (.pair (.num .i64) (.slice (.pair (.num .i64) (.pair (.num .i64) (.num .i64)))))))), (3, .own (.slice (.slice (.num .i64)))), (4, .ro none (.num .i64)), (5, .own (.slice (.num .i64))), (6, .ro none (.num .i64))], r_spec_LaplacianOf_L2 c_spec_NetOk c_spec_WeightAt c_spec_WeightBetween N⟩) (by kernel_rfl) (by intro s kc ke env; kernel_rfl) .nil))
theorem There98 : There Go.Proofs.Try.prog 98 := ⟨_, Go.Proofs.Try.func98, by kernel_rfl, by kernel_rfl⟩
theorem C98 {c_spec_NetOk : ((Int × Int × Int × List (Int × Int × Int)) × Unit → Option Bool)} {c_spec_WeightAt : ((Int × Int × Int × List (Int × Int × Int)) × Int × Unit → Option Int)} {c_spec_WeightBetween : ((Int × Int × Int × List (Int × Int × Int)) × Int × Int × Unit → Option Int)} (h_c_spec_NetOk : Contract Go.Proofs.Try.prog 59 ⟨[net], .bool, c_spec_NetOk⟩) (h_c_spec_WeightAt : Contract Go.Proofs.Try.prog 110 ⟨[net, int], int, c_spec_WeightAt⟩) (h_c_spec_WeightBetween : Contract Go.Proofs.Try.prog 71 ⟨[net, int, int], int, c_spec_WeightBetween⟩) {f : ((Int × Int × Int × List (Int × Int × Int)) × Unit → Option (List (List Int)))} (h : ∀ a0 r, f (a0, ()) = some r → ∃ N, r_spec_LaplacianOf c_spec_NetOk c_spec_WeightAt c_spec_WeightBetween N a0 = some r) : Contract Go.Proofs.Try.prog 98 ⟨[net], (.slice (.slice int)), f⟩ := by
  refine contract (E := E98 c_spec_NetOk c_spec_WeightAt c_spec_WeightBetween) (envOf table ⟨⟨h_c_spec_NetOk, There59⟩, ⟨⟨h_c_spec_WeightAt, There110⟩, ⟨⟨h_c_spec_WeightBetween, There71⟩, trivial⟩⟩⟩ trivial) mixed Go.Proofs.Try.func98 (c := Go.Proofs.Try.f98.body.getD .skip) (by kernel_rfl) (Nat.le_of_ble_eq_true (by kernel_rfl)) fun xs r hr => ?_
  obtain ⟨a0, _⟩ := xs
  obtain ⟨N, hN⟩ := h _ r hr
  exact ⟨N, A98 c_spec_NetOk c_spec_WeightAt c_spec_WeightBetween N, L98 c_spec_NetOk c_spec_WeightAt c_spec_WeightBetween N, (K98 c_spec_NetOk c_spec_WeightAt c_spec_WeightBetween N a0).trans hN⟩
theorem X98 : Contract Go.Proofs.Try.prog 98 ⟨[net], (.slice (.slice int)), e_spec_LaplacianOf⟩ := C98 X59 X110 X71 fun _ _ h => ⟨N0, h⟩
-- spec_l04Det
def E97 (c_spec_l04Det : ((List (List Int)) × (List Int) × (List Int) × Unit → Option Int)) : Env := ⟨tys, [], [(97, ⟨[(.slice (.slice int)), (.slice int), (.slice int)], int, c_spec_l04Det⟩)], []⟩
def A97 (c_spec_l04Det : ((List (List Int)) × (List Int) × (List Int) × Unit → Option Int)) (N : Nat) : List (Nat × Loop (Ty.den int)) := [(0, ⟨[(0, .ro none (.slice (.slice (.num .i64)))), (1, .ro none (.slice (.num .i64))), (2, .ro none (.slice (.num .i64))), (7, .ro none (.num .i64)), (8, .ro none (.num .i64)), (16, .ro none (.slice (.num .i64))), (17, .ro none (.num .i64)), (18, .ro none (.num .i64))], r_spec_l04Det_L0 c_spec_l04Det N⟩)]
theorem K97 (c_spec_l04Det : ((List (List Int)) × (List Int) × (List Int) × Unit → Option Int)) (N : Nat) (a0 : (List (List Int))) (a1 : (List Int)) (a2 : (List Int)) : fnK N (E97 c_spec_l04Det) Go.Proofs.Try.f97 [(.slice (.slice int)), (.slice int), (.slice int)] int (A97 c_spec_l04Det N) (a0, a1, a2, ()) = r_spec_l04Det c_spec_l04Det N a0 a1 a2 := by kernel_rfl
theorem L97 (c_spec_l04Det : ((List (List Int)) × (List Int) × (List Int) × Unit → Option Int)) (N : Nat) : LoopsOk N (E97 c_spec_l04Det) (A97 c_spec_l04Det N) Go.Proofs.Try.f97.ntmps (retOf (E97 c_spec_l04Det) Go.Proofs.Try.f97 int) (loopsOf (Go.Proofs.Try.f97.body.getD .skip)) :=
  LoopsOk.of (l := [(0, lb Go.Proofs.Try.f97 0)]) (by kernel_rfl) (.cons (L := ⟨[(0, .ro none (.slice (.slice (.num .i64)))), (1, .ro none (.slice (.num .i64))), (2, .ro none (.slice (.num .i64))), (7, .ro none (.num .i64)), (8, .ro none (.num .i64)), (16, .ro none (.slice (.num .i64))), (17, .ro none (.num .i64)), (18, .ro none (.num .i64))], r_spec_l04Det_L0 c_spec_l04Det N⟩) (by kernel_rfl) (by intro s kc ke env; kernel_rfl) .nil)
theorem There97 : There Go.Proofs.Try.prog 97 := ⟨_, Go.Proofs.Try.func97, by kernel_rfl, by kernel_rfl⟩
theorem C97 {c_spec_l04Det : ((List (List Int)) × (List Int) × (List Int) × Unit → Option Int)} (h_c_spec_l04Det : Contract Go.Proofs.Try.prog 97 ⟨[(.slice (.slice int)), (.slice int), (.slice int)], int, c_spec_l04Det⟩) {f : ((List (List Int)) × (List Int) × (List Int) × Unit → Option Int)} (h : ∀ a0 a1 a2 r, f (a0, a1, a2, ()) = some r → ∃ N, r_spec_l04Det c_spec_l04Det N a0 a1 a2 = some r) : Contract Go.Proofs.Try.prog 97 ⟨[(.slice (.slice int)), (.slice int), (.slice int)], int, f⟩ := by
  refine contract (E := E97 c_spec_l04Det) (envOf table ⟨⟨h_c_spec_l04Det, There97⟩, trivial⟩ trivial) mixed Go.Proofs.Try.func97 (c := Go.Proofs.Try.f97.body.getD .skip) (by kernel_rfl) (Nat.le_of_ble_eq_true (by kernel_rfl)) fun xs r hr => ?_
  obtain ⟨a0, a1, a2, _⟩ := xs
  obtain ⟨N, hN⟩ := h _ _ _ r hr
  exact ⟨N, A97 c_spec_l04Det N, L97 c_spec_l04Det N, (K97 c_spec_l04Det N a0 a1 a2).trans hN⟩
theorem X97_n : ∀ n, Contract Go.Proofs.Try.prog 97 ⟨[(.slice (.slice int)), (.slice int), (.slice int)], int, e_spec_l04Det_n n⟩
  | 0 => fun xs r vs w h => by simp [e_spec_l04Det_n] at h
  | n + 1 => C97 (X97_n n) fun _ _ _ _ h => ⟨N0, h⟩
theorem X97 : Contract Go.Proofs.Try.prog 97 ⟨[(.slice (.slice int)), (.slice int), (.slice int)], int, e_spec_l04Det⟩ := X97_n N0
-- spec_l06Down
def E88 (c_spec_LaplacianOf : ((Int × Int × Int × List (Int × Int × Int)) × Unit → Option (List (List Int)))) (c_spec_l06Inner : ((Int × Int × Int × List (Int × Int × Int)) × Unit → Option (List Int))) (c_spec_l04Det : ((List (List Int)) × (List Int) × (List Int) × Unit → Option Int)) : Env := ⟨tys, [], [(98, ⟨[net], (.slice (.slice int)), c_spec_LaplacianOf⟩), (96, ⟨[net], (.slice int), c_spec_l06Inner⟩), (97, ⟨[(.slice (.slice int)), (.slice int), (.slice int)], int, c_spec_l04Det⟩)], []⟩
def A88 (_c_spec_LaplacianOf : ((Int × Int × Int × List (Int × Int × Int)) × Unit → Option (List (List Int)))) (_c_spec_l06Inner : ((Int × Int × Int × List (Int × Int × Int)) × Unit → Option (List Int))) (_c_spec_l04Det : ((List (List Int)) × (List Int) × (List Int) × Unit → Option Int)) (_N : Nat) : List (Nat × Loop (Ty.den int)) := []
theorem K88 (c_spec_LaplacianOf : ((Int × Int × Int × List (Int × Int × Int)) × Unit → Option (List (List Int)))) (c_spec_l06Inner : ((Int × Int × Int × List (Int × Int × Int)) × Unit → Option (List Int))) (c_spec_l04Det : ((List (List Int)) × (List Int) × (List Int) × Unit → Option Int)) (N : Nat) (a0 : (Int × Int × Int × List (Int × Int × Int))) : fnK N (E88 c_spec_LaplacianOf c_spec_l06Inner c_spec_l04Det) Go.Proofs.Try.f88 [net] int (A88 c_spec_LaplacianOf c_spec_l06Inner c_spec_l04Det N) (a0, ()) = r_spec_l06Down c_spec_LaplacianOf c_spec_l06Inner c_spec_l04Det N a0 := by kernel_rfl
theorem L88 (c_spec_LaplacianOf : ((Int × Int × Int × List (Int × Int × Int)) × Unit → Option (List (List Int)))) (c_spec_l06Inner : ((Int × Int × Int × List (Int × Int × Int)) × Unit → Option (List Int))) (c_spec_l04Det : ((List (List Int)) × (List Int) × (List Int) × Unit → Option Int)) (N : Nat) : LoopsOk N (E88 c_spec_LaplacianOf c_spec_l06Inner c_spec_l04Det) (A88 c_spec_LaplacianOf c_spec_l06Inner c_spec_l04Det N) Go.Proofs.Try.f88.ntmps (retOf (E88 c_spec_LaplacianOf c_spec_l06Inner c_spec_l04Det) Go.Proofs.Try.f88 int) (loopsOf (Go.Proofs.Try.f88.body.getD .skip)) :=
  LoopsOk.of (l := []) (by kernel_rfl) .nil
theorem There88 : There Go.Proofs.Try.prog 88 := ⟨_, Go.Proofs.Try.func88, by kernel_rfl, by kernel_rfl⟩
theorem C88 {c_spec_LaplacianOf : ((Int × Int × Int × List (Int × Int × Int)) × Unit → Option (List (List Int)))} {c_spec_l06Inner : ((Int × Int × Int × List (Int × Int × Int)) × Unit → Option (List Int))} {c_spec_l04Det : ((List (List Int)) × (List Int) × (List Int) × Unit → Option Int)} (h_c_spec_LaplacianOf : Contract Go.Proofs.Try.prog 98 ⟨[net], (.slice (.slice int)), c_spec_LaplacianOf⟩) (h_c_spec_l06Inner : Contract Go.Proofs.Try.prog 96 ⟨[net], (.slice int), c_spec_l06Inner⟩) (h_c_spec_l04Det : Contract Go.Proofs.Try.prog 97 ⟨[(.slice (.slice int)), (.slice int), (.slice int)], int, c_spec_l04Det⟩) {f : ((Int × Int × Int × List (Int × Int × Int)) × Unit → Option Int)} (h : ∀ a0 r, f (a0, ()) = some r → ∃ N, r_spec_l06Down c_spec_LaplacianOf c_spec_l06Inner c_spec_l04Det N a0 = some r) : Contract Go.Proofs.Try.prog 88 ⟨[net], int, f⟩ := by
  refine contract (E := E88 c_spec_LaplacianOf c_spec_l06Inner c_spec_l04Det) (envOf table ⟨⟨h_c_spec_LaplacianOf, There98⟩, ⟨⟨h_c_spec_l06Inner, There96⟩, ⟨⟨h_c_spec_l04Det, There97⟩, trivial⟩⟩⟩ trivial) mixed Go.Proofs.Try.func88 (c := Go.Proofs.Try.f88.body.getD .skip) (by kernel_rfl) (Nat.le_of_ble_eq_true (by kernel_rfl)) fun xs r hr => ?_
  obtain ⟨a0, _⟩ := xs
  obtain ⟨N, hN⟩ := h _ r hr
  exact ⟨N, A88 c_spec_LaplacianOf c_spec_l06Inner c_spec_l04Det N, L88 c_spec_LaplacianOf c_spec_l06Inner c_spec_l04Det N, (K88 c_spec_LaplacianOf c_spec_l06Inner c_spec_l04Det N a0).trans hN⟩
theorem X88 : Contract Go.Proofs.Try.prog 88 ⟨[net], int, e_spec_l06Down⟩ := C88 X98 X96 X97 fun _ _ h => ⟨N0, h⟩
-- spec_l02Turn
def E131 : Env := ⟨tys, [], [], []⟩
def A131 (_N : Nat) : List (Nat × Loop (Ty.den (.tup int int))) := []
theorem K131 (N : Nat) (a0 : Int) (a1 : Int) : fnK N (E131) Go.Proofs.Try.f131 [int, int] (.tup int int) (A131 N) (a0, a1, ()) = r_spec_l02Turn N a0 a1 := by kernel_rfl
theorem L131 (N : Nat) : LoopsOk N (E131) (A131 N) Go.Proofs.Try.f131.ntmps (retOf (E131) Go.Proofs.Try.f131 (.tup int int)) (loopsOf (Go.Proofs.Try.f131.body.getD .skip)) :=
  LoopsOk.of (l := []) (by kernel_rfl) .nil
theorem There131 : There Go.Proofs.Try.prog 131 := ⟨_, Go.Proofs.Try.func131, by kernel_rfl, by kernel_rfl⟩
theorem C131 {f : (Int × Int × Unit → Option (Int × Int))} (h : ∀ a0 a1 r, f (a0, a1, ()) = some r → ∃ N, r_spec_l02Turn N a0 a1 = some r) : Contract Go.Proofs.Try.prog 131 ⟨[int, int], (.tup int int), f⟩ := by
  refine contract (E := E131) (envOf table trivial trivial) mixed Go.Proofs.Try.func131 (c := Go.Proofs.Try.f131.body.getD .skip) (by kernel_rfl) (Nat.le_of_ble_eq_true (by kernel_rfl)) fun xs r hr => ?_
  obtain ⟨a0, a1, _⟩ := xs
  obtain ⟨N, hN⟩ := h _ _ r hr
  exact ⟨N, A131 N, L131 N, (K131 N a0 a1).trans hN⟩
theorem X131 : Contract Go.Proofs.Try.prog 131 ⟨[int, int], (.tup int int), e_spec_l02Turn⟩ := C131 fun _ _ _ h => ⟨N0, h⟩
-- spec_GcdOf
def E117 (c_spec_l02Turn : (Int × Int × Unit → Option (Int × Int))) : Env := ⟨tys, [], [(131, ⟨[int, int], (.tup int int), c_spec_l02Turn⟩)], []⟩
def A117 (c_spec_l02Turn : (Int × Int × Unit → Option (Int × Int))) (N : Nat) : List (Nat × Loop (Ty.den int)) := [(0, ⟨[(0, .ro none (.num .i64)), (1, .ro none (.num .i64))], r_spec_GcdOf_L0 c_spec_l02Turn N⟩)]
theorem K117 (c_spec_l02Turn : (Int × Int × Unit → Option (Int × Int))) (N : Nat) (a0 : Int) (a1 : Int) : fnK N (E117 c_spec_l02Turn) Go.Proofs.Try.f117 [int, int] int (A117 c_spec_l02Turn N) (a0, a1, ()) = r_spec_GcdOf c_spec_l02Turn N a0 a1 := by kernel_rfl
theorem L117 (c_spec_l02Turn : (Int × Int × Unit → Option (Int × Int))) (N : Nat) : LoopsOk N (E117 c_spec_l02Turn) (A117 c_spec_l02Turn N) Go.Proofs.Try.f117.ntmps (retOf (E117 c_spec_l02Turn) Go.Proofs.Try.f117 int) (loopsOf (Go.Proofs.Try.f117.body.getD .skip)) :=
  LoopsOk.of (l := [(0, lb Go.Proofs.Try.f117 0)]) (by kernel_rfl) (.cons (L := ⟨[(0, .ro none (.num .i64)), (1, .ro none (.num .i64))], r_spec_GcdOf_L0 c_spec_l02Turn N⟩) (by kernel_rfl) (by intro s kc ke env; kernel_rfl) .nil)
theorem There117 : There Go.Proofs.Try.prog 117 := ⟨_, Go.Proofs.Try.func117, by kernel_rfl, by kernel_rfl⟩
theorem C117 {c_spec_l02Turn : (Int × Int × Unit → Option (Int × Int))} (h_c_spec_l02Turn : Contract Go.Proofs.Try.prog 131 ⟨[int, int], (.tup int int), c_spec_l02Turn⟩) {f : (Int × Int × Unit → Option Int)} (h : ∀ a0 a1 r, f (a0, a1, ()) = some r → ∃ N, r_spec_GcdOf c_spec_l02Turn N a0 a1 = some r) : Contract Go.Proofs.Try.prog 117 ⟨[int, int], int, f⟩ := by
  refine contract (E := E117 c_spec_l02Turn) (envOf table ⟨⟨h_c_spec_l02Turn, There131⟩, trivial⟩ trivial) mixed Go.Proofs.Try.func117 (c := Go.Proofs.Try.f117.body.getD .skip) (by kernel_rfl) (Nat.le_of_ble_eq_true (by kernel_rfl)) fun xs r hr => ?_
  obtain ⟨a0, a1, _⟩ := xs
  obtain ⟨N, hN⟩ := h _ _ r hr
  exact ⟨N, A117 c_spec_l02Turn N, L117 c_spec_l02Turn N, (K117 c_spec_l02Turn N a0 a1).trans hN⟩
theorem X117 : Contract Go.Proofs.Try.prog 117 ⟨[int, int], int, e_spec_GcdOf⟩ := C117 X131 fun _ _ _ h => ⟨N0, h⟩
-- spec_RatioOk
def E118 (c_spec_l01In : (Int × Int × Int × Unit → Option Bool)) (c_spec_GcdOf : (Int × Int × Unit → Option Int)) : Env := ⟨tys, [], [(60, ⟨[int, int, int], .bool, c_spec_l01In⟩), (117, ⟨[int, int], int, c_spec_GcdOf⟩)], []⟩
def A118 (_c_spec_l01In : (Int × Int × Int × Unit → Option Bool)) (_c_spec_GcdOf : (Int × Int × Unit → Option Int)) (_N : Nat) : List (Nat × Loop (Ty.den .bool)) := []
theorem K118 (c_spec_l01In : (Int × Int × Int × Unit → Option Bool)) (c_spec_GcdOf : (Int × Int × Unit → Option Int)) (N : Nat) (a0 : (Int × Int)) : fnK N (E118 c_spec_l01In c_spec_GcdOf) Go.Proofs.Try.f118 [ratio] .bool (A118 c_spec_l01In c_spec_GcdOf N) (a0, ()) = r_spec_RatioOk c_spec_l01In c_spec_GcdOf N a0 := by kernel_rfl
theorem L118 (c_spec_l01In : (Int × Int × Int × Unit → Option Bool)) (c_spec_GcdOf : (Int × Int × Unit → Option Int)) (N : Nat) : LoopsOk N (E118 c_spec_l01In c_spec_GcdOf) (A118 c_spec_l01In c_spec_GcdOf N) Go.Proofs.Try.f118.ntmps (retOf (E118 c_spec_l01In c_spec_GcdOf) Go.Proofs.Try.f118 .bool) (loopsOf (Go.Proofs.Try.f118.body.getD .skip)) :=
  LoopsOk.of (l := []) (by kernel_rfl) .nil
theorem There118 : There Go.Proofs.Try.prog 118 := ⟨_, Go.Proofs.Try.func118, by kernel_rfl, by kernel_rfl⟩
theorem C118 {c_spec_l01In : (Int × Int × Int × Unit → Option Bool)} {c_spec_GcdOf : (Int × Int × Unit → Option Int)} (h_c_spec_l01In : Contract Go.Proofs.Try.prog 60 ⟨[int, int, int], .bool, c_spec_l01In⟩) (h_c_spec_GcdOf : Contract Go.Proofs.Try.prog 117 ⟨[int, int], int, c_spec_GcdOf⟩) {f : ((Int × Int) × Unit → Option Bool)} (h : ∀ a0 r, f (a0, ()) = some r → ∃ N, r_spec_RatioOk c_spec_l01In c_spec_GcdOf N a0 = some r) : Contract Go.Proofs.Try.prog 118 ⟨[ratio], .bool, f⟩ := by
  refine contract (E := E118 c_spec_l01In c_spec_GcdOf) (envOf table ⟨⟨h_c_spec_l01In, There60⟩, ⟨⟨h_c_spec_GcdOf, There117⟩, trivial⟩⟩ trivial) mixed Go.Proofs.Try.func118 (c := Go.Proofs.Try.f118.body.getD .skip) (by kernel_rfl) (Nat.le_of_ble_eq_true (by kernel_rfl)) fun xs r hr => ?_
  obtain ⟨a0, _⟩ := xs
  obtain ⟨N, hN⟩ := h _ r hr
  exact ⟨N, A118 c_spec_l01In c_spec_GcdOf N, L118 c_spec_l01In c_spec_GcdOf N, (K118 c_spec_l01In c_spec_GcdOf N a0).trans hN⟩
theorem X118 : Contract Go.Proofs.Try.prog 118 ⟨[ratio], .bool, e_spec_RatioOk⟩ := C118 X60 X117 fun _ _ h => ⟨N0, h⟩
-- spec_RatioOf
def E89 (c_spec_GcdOf : (Int × Int × Unit → Option Int)) (c_spec_RatioOk : ((Int × Int) × Unit → Option Bool)) : Env := ⟨tys, [], [(117, ⟨[int, int], int, c_spec_GcdOf⟩), (118, ⟨[ratio], .bool, c_spec_RatioOk⟩)], []⟩
def A89 (_c_spec_GcdOf : (Int × Int × Unit → Option Int)) (_c_spec_RatioOk : ((Int × Int) × Unit → Option Bool)) (_N : Nat) : List (Nat × Loop (Ty.den ratio)) := []
theorem K89 (c_spec_GcdOf : (Int × Int × Unit → Option Int)) (c_spec_RatioOk : ((Int × Int) × Unit → Option Bool)) (N : Nat) (a0 : Int) (a1 : Int) : fnK N (E89 c_spec_GcdOf c_spec_RatioOk) Go.Proofs.Try.f89 [int, int] ratio (A89 c_spec_GcdOf c_spec_RatioOk N) (a0, a1, ()) = r_spec_RatioOf c_spec_GcdOf c_spec_RatioOk N a0 a1 := by kernel_rfl
theorem L89 (c_spec_GcdOf : (Int × Int × Unit → Option Int)) (c_spec_RatioOk : ((Int × Int) × Unit → Option Bool)) (N : Nat) : LoopsOk N (E89 c_spec_GcdOf c_spec_RatioOk) (A89 c_spec_GcdOf c_spec_RatioOk N) Go.Proofs.Try.f89.ntmps (retOf (E89 c_spec_GcdOf c_spec_RatioOk) Go.Proofs.Try.f89 ratio) (loopsOf (Go.Proofs.Try.f89.body.getD .skip)) :=
  LoopsOk.of (l := []) (by kernel_rfl) .nil
theorem There89 : There Go.Proofs.Try.prog 89 := ⟨_, Go.Proofs.Try.func89, by kernel_rfl, by kernel_rfl⟩
theorem C89 {c_spec_GcdOf : (Int × Int × Unit → Option Int)} {c_spec_RatioOk : ((Int × Int) × Unit → Option Bool)} (h_c_spec_GcdOf : Contract Go.Proofs.Try.prog 117 ⟨[int, int], int, c_spec_GcdOf⟩) (h_c_spec_RatioOk : Contract Go.Proofs.Try.prog 118 ⟨[ratio], .bool, c_spec_RatioOk⟩) {f : (Int × Int × Unit → Option (Int × Int))} (h : ∀ a0 a1 r, f (a0, a1, ()) = some r → ∃ N, r_spec_RatioOf c_spec_GcdOf c_spec_RatioOk N a0 a1 = some r) : Contract Go.Proofs.Try.prog 89 ⟨[int, int], ratio, f⟩ := by
  refine contract (E := E89 c_spec_GcdOf c_spec_RatioOk) (envOf table ⟨⟨h_c_spec_GcdOf, There117⟩, ⟨⟨h_c_spec_RatioOk, There118⟩, trivial⟩⟩ trivial) mixed Go.Proofs.Try.func89 (c := Go.Proofs.Try.f89.body.getD .skip) (by kernel_rfl) (Nat.le_of_ble_eq_true (by kernel_rfl)) fun xs r hr => ?_
  obtain ⟨a0, a1, _⟩ := xs
  obtain ⟨N, hN⟩ := h _ _ r hr
  exact ⟨N, A89 c_spec_GcdOf c_spec_RatioOk N, L89 c_spec_GcdOf c_spec_RatioOk N, (K89 c_spec_GcdOf c_spec_RatioOk N a0 a1).trans hN⟩
theorem X89 : Contract Go.Proofs.Try.prog 89 ⟨[int, int], ratio, e_spec_RatioOf⟩ := C89 X117 X118 fun _ _ _ h => ⟨N0, h⟩
-- spec_CircularMinor
def E56 (c_spec_NetOk : ((Int × Int × Int × List (Int × Int × Int)) × Unit → Option Bool)) (c_spec_IsCircular : (Int × (List Int) × (List Int) × Unit → Option Bool)) (c_spec_l06Inner : ((Int × Int × Int × List (Int × Int × Int)) × Unit → Option (List Int))) (c_spec_LaplacianOf : ((Int × Int × Int × List (Int × Int × Int)) × Unit → Option (List (List Int)))) (c_spec_l04Det : ((List (List Int)) × (List Int) × (List Int) × Unit → Option Int)) (c_spec_l06Down : ((Int × Int × Int × List (Int × Int × Int)) × Unit → Option Int)) (c_spec_RatioOf : (Int × Int × Unit → Option (Int × Int))) : Env := ⟨tys, [], [(59, ⟨[net], .bool, c_spec_NetOk⟩), (95, ⟨[int, (.slice int), (.slice int)], .bool, c_spec_IsCircular⟩), (96, ⟨[net], (.slice int), c_spec_l06Inner⟩), (98, ⟨[net], (.slice (.slice int)), c_spec_LaplacianOf⟩), (97, ⟨[(.slice (.slice int)), (.slice int), (.slice int)], int, c_spec_l04Det⟩), (88, ⟨[net], int, c_spec_l06Down⟩), (89, ⟨[int, int], ratio, c_spec_RatioOf⟩)], []⟩
def A56 (c_spec_NetOk : ((Int × Int × Int × List (Int × Int × Int)) × Unit → Option Bool)) (c_spec_IsCircular : (Int × (List Int) × (List Int) × Unit → Option Bool)) (c_spec_l06Inner : ((Int × Int × Int × List (Int × Int × Int)) × Unit → Option (List Int))) (c_spec_LaplacianOf : ((Int × Int × Int × List (Int × Int × Int)) × Unit → Option (List (List Int)))) (c_spec_l04Det : ((List (List Int)) × (List Int) × (List Int) × Unit → Option Int)) (c_spec_l06Down : ((Int × Int × Int × List (Int × Int × Int)) × Unit → Option Int)) (c_spec_RatioOf : (Int × Int × Unit → Option (Int × Int))) (N : Nat) : List (Nat × Loop (Ty.den (.tup ratio .bool))) := [(0, ⟨[(3, .box false (.pair (.num .i64) (.pair (.num .i64) (.pair (.num .i64) (.slice (.pair (.num .i64) (.pair (.num .i64) (.num .i64)))))))), (6, .box true (.pair (.num .i64) (.num .i64))), (9, .ro none (.num .i64)), (10, .ro none (.num .i64)), (41, .ro none (.num .i64)), (42, .ro none (.num .i64))], r_spec_CircularMinor_L0 c_spec_NetOk c_spec_IsCircular c_spec_l06Inner c_spec_LaplacianOf c_spec_l04Det c_spec_l06Down c_spec_RatioOf N⟩)]
theorem K56 (c_spec_NetOk : ((Int × Int × Int × List (Int × Int × Int)) × Unit → Option Bool)) (c_spec_IsCircular : (Int × (List Int) × (List Int) × Unit → Option Bool)) (c_spec_l06Inner : ((Int × Int × Int × List (Int × Int × Int)) × Unit → Option (List Int))) (c_spec_LaplacianOf : ((Int × Int × Int × List (Int × Int × Int)) × Unit → Option (List (List Int)))) (c_spec_l04Det : ((List (List Int)) × (List Int) × (List Int) × Unit → Option Int)) (c_spec_l06Down : ((Int × Int × Int × List (Int × Int × Int)) × Unit → Option Int)) (c_spec_RatioOf : (Int × Int × Unit → Option (Int × Int))) (N : Nat) (a0 : (Int × Int × Int × List (Int × Int × Int))) (a1 : (List Int)) (a2 : (List Int)) : fnK N (E56 c_spec_NetOk c_spec_IsCircular c_spec_l06Inner c_spec_LaplacianOf c_spec_l04Det c_spec_l06Down c_spec_RatioOf) Go.Proofs.Try.f56 [net, (.slice int), (.slice int)] (.tup ratio .bool) (A56 c_spec_NetOk c_spec_IsCircular c_spec_l06Inner c_spec_LaplacianOf c_spec_l04Det c_spec_l06Down c_spec_RatioOf N) (a0, a1, a2, ()) = r_spec_CircularMinor c_spec_NetOk c_spec_IsCircular c_spec_l06Inner c_spec_LaplacianOf c_spec_l04Det c_spec_l06Down c_spec_RatioOf N a0 a1 a2 := by kernel_rfl
theorem L56 (c_spec_NetOk : ((Int × Int × Int × List (Int × Int × Int)) × Unit → Option Bool)) (c_spec_IsCircular : (Int × (List Int) × (List Int) × Unit → Option Bool)) (c_spec_l06Inner : ((Int × Int × Int × List (Int × Int × Int)) × Unit → Option (List Int))) (c_spec_LaplacianOf : ((Int × Int × Int × List (Int × Int × Int)) × Unit → Option (List (List Int)))) (c_spec_l04Det : ((List (List Int)) × (List Int) × (List Int) × Unit → Option Int)) (c_spec_l06Down : ((Int × Int × Int × List (Int × Int × Int)) × Unit → Option Int)) (c_spec_RatioOf : (Int × Int × Unit → Option (Int × Int))) (N : Nat) : LoopsOk N (E56 c_spec_NetOk c_spec_IsCircular c_spec_l06Inner c_spec_LaplacianOf c_spec_l04Det c_spec_l06Down c_spec_RatioOf) (A56 c_spec_NetOk c_spec_IsCircular c_spec_l06Inner c_spec_LaplacianOf c_spec_l04Det c_spec_l06Down c_spec_RatioOf N) Go.Proofs.Try.f56.ntmps (retOf (E56 c_spec_NetOk c_spec_IsCircular c_spec_l06Inner c_spec_LaplacianOf c_spec_l04Det c_spec_l06Down c_spec_RatioOf) Go.Proofs.Try.f56 (.tup ratio .bool)) (loopsOf (Go.Proofs.Try.f56.body.getD .skip)) :=
  LoopsOk.of (l := [(0, lb Go.Proofs.Try.f56 0)]) (by kernel_rfl) (.cons (L := ⟨[(3, .box false (.pair (.num .i64) (.pair (.num .i64) (.pair (.num .i64) (.slice (.pair (.num .i64) (.pair (.num .i64) (.num .i64)))))))), (6, .box true (.pair (.num .i64) (.num .i64))), (9, .ro none (.num .i64)), (10, .ro none (.num .i64)), (41, .ro none (.num .i64)), (42, .ro none (.num .i64))], r_spec_CircularMinor_L0 c_spec_NetOk c_spec_IsCircular c_spec_l06Inner c_spec_LaplacianOf c_spec_l04Det c_spec_l06Down c_spec_RatioOf N⟩) (by kernel_rfl) (by intro s kc ke env; kernel_rfl) .nil)
theorem There56 : There Go.Proofs.Try.prog 56 := ⟨_, Go.Proofs.Try.func56, by kernel_rfl, by kernel_rfl⟩
theorem C56 {c_spec_NetOk : ((Int × Int × Int × List (Int × Int × Int)) × Unit → Option Bool)} {c_spec_IsCircular : (Int × (List Int) × (List Int) × Unit → Option Bool)} {c_spec_l06Inner : ((Int × Int × Int × List (Int × Int × Int)) × Unit → Option (List Int))} {c_spec_LaplacianOf : ((Int × Int × Int × List (Int × Int × Int)) × Unit → Option (List (List Int)))} {c_spec_l04Det : ((List (List Int)) × (List Int) × (List Int) × Unit → Option Int)} {c_spec_l06Down : ((Int × Int × Int × List (Int × Int × Int)) × Unit → Option Int)} {c_spec_RatioOf : (Int × Int × Unit → Option (Int × Int))} (h_c_spec_NetOk : Contract Go.Proofs.Try.prog 59 ⟨[net], .bool, c_spec_NetOk⟩) (h_c_spec_IsCircular : Contract Go.Proofs.Try.prog 95 ⟨[int, (.slice int), (.slice int)], .bool, c_spec_IsCircular⟩) (h_c_spec_l06Inner : Contract Go.Proofs.Try.prog 96 ⟨[net], (.slice int), c_spec_l06Inner⟩) (h_c_spec_LaplacianOf : Contract Go.Proofs.Try.prog 98 ⟨[net], (.slice (.slice int)), c_spec_LaplacianOf⟩) (h_c_spec_l04Det : Contract Go.Proofs.Try.prog 97 ⟨[(.slice (.slice int)), (.slice int), (.slice int)], int, c_spec_l04Det⟩) (h_c_spec_l06Down : Contract Go.Proofs.Try.prog 88 ⟨[net], int, c_spec_l06Down⟩) (h_c_spec_RatioOf : Contract Go.Proofs.Try.prog 89 ⟨[int, int], ratio, c_spec_RatioOf⟩) {f : ((Int × Int × Int × List (Int × Int × Int)) × (List Int) × (List Int) × Unit → Option ((Int × Int) × Bool))} (h : ∀ a0 a1 a2 r, f (a0, a1, a2, ()) = some r → ∃ N, r_spec_CircularMinor c_spec_NetOk c_spec_IsCircular c_spec_l06Inner c_spec_LaplacianOf c_spec_l04Det c_spec_l06Down c_spec_RatioOf N a0 a1 a2 = some r) : Contract Go.Proofs.Try.prog 56 ⟨[net, (.slice int), (.slice int)], (.tup ratio .bool), f⟩ := by
  refine contract (E := E56 c_spec_NetOk c_spec_IsCircular c_spec_l06Inner c_spec_LaplacianOf c_spec_l04Det c_spec_l06Down c_spec_RatioOf) (envOf table ⟨⟨h_c_spec_NetOk, There59⟩, ⟨⟨h_c_spec_IsCircular, There95⟩, ⟨⟨h_c_spec_l06Inner, There96⟩, ⟨⟨h_c_spec_LaplacianOf, There98⟩, ⟨⟨h_c_spec_l04Det, There97⟩, ⟨⟨h_c_spec_l06Down, There88⟩, ⟨⟨h_c_spec_RatioOf, There89⟩, trivial⟩⟩⟩⟩⟩⟩⟩ trivial) mixed Go.Proofs.Try.func56 (c := Go.Proofs.Try.f56.body.getD .skip) (by kernel_rfl) (Nat.le_of_ble_eq_true (by kernel_rfl)) fun xs r hr => ?_
  obtain ⟨a0, a1, a2, _⟩ := xs
  obtain ⟨N, hN⟩ := h _ _ _ r hr
  exact ⟨N, A56 c_spec_NetOk c_spec_IsCircular c_spec_l06Inner c_spec_LaplacianOf c_spec_l04Det c_spec_l06Down c_spec_RatioOf N, L56 c_spec_NetOk c_spec_IsCircular c_spec_l06Inner c_spec_LaplacianOf c_spec_l04Det c_spec_l06Down c_spec_RatioOf N, (K56 c_spec_NetOk c_spec_IsCircular c_spec_l06Inner c_spec_LaplacianOf c_spec_l04Det c_spec_l06Down c_spec_RatioOf N a0 a1 a2).trans hN⟩
theorem X56 : Contract Go.Proofs.Try.prog 56 ⟨[net, (.slice int), (.slice int)], (.tup ratio .bool), e_spec_CircularMinor⟩ := C56 X59 X95 X96 X98 X97 X88 X89 fun _ _ _ _ h => ⟨N0, h⟩
-- slices_Index_bool
def E130 : Env := ⟨tys, [], [], []⟩
def A130 (N : Nat) : List (Nat × Loop (Ty.den int)) := [(0, ⟨[(0, .ro none (.slice .bool)), (1, .ro none .bool), (7, .ro none (.num .i64)), (8, .ro none (.num .i64))], r_slices_Index_bool_L0 N⟩)]
theorem K130 (N : Nat) (a0 : (List Bool)) (a1 : Bool) : fnK N (E130) Go.Proofs.Try.f130 [(.slice .bool), .bool] int (A130 N) (a0, a1, ()) = r_slices_Index_bool N a0 a1 := by kernel_rfl
theorem L130 (N : Nat) : LoopsOk N (E130) (A130 N) Go.Proofs.Try.f130.ntmps (retOf (E130) Go.Proofs.Try.f130 int) (loopsOf (Go.Proofs.Try.f130.body.getD .skip)) :=
  LoopsOk.of (l := [(0, lb Go.Proofs.Try.f130 0)]) (by kernel_rfl) (.cons (L := ⟨[(0, .ro none (.slice .bool)), (1, .ro none .bool), (7, .ro none (.num .i64)), (8, .ro none (.num .i64))], r_slices_Index_bool_L0 N⟩) (by kernel_rfl) (by intro s kc ke env; kernel_rfl) .nil)
theorem There130 : There Go.Proofs.Try.prog 130 := ⟨_, Go.Proofs.Try.func130, by kernel_rfl, by kernel_rfl⟩
theorem C130 {f : ((List Bool) × Bool × Unit → Option Int)} (h : ∀ a0 a1 r, f (a0, a1, ()) = some r → ∃ N, r_slices_Index_bool N a0 a1 = some r) : Contract Go.Proofs.Try.prog 130 ⟨[(.slice .bool), .bool], int, f⟩ := by
  refine contract (E := E130) (envOf table trivial trivial) mixed Go.Proofs.Try.func130 (c := Go.Proofs.Try.f130.body.getD .skip) (by kernel_rfl) (Nat.le_of_ble_eq_true (by kernel_rfl)) fun xs r hr => ?_
  obtain ⟨a0, a1, _⟩ := xs
  obtain ⟨N, hN⟩ := h _ _ r hr
  exact ⟨N, A130 N, L130 N, (K130 N a0 a1).trans hN⟩
theorem X130 : Contract Go.Proofs.Try.prog 130 ⟨[(.slice .bool), .bool], int, e_slices_Index_bool⟩ := C130 fun _ _ _ h => ⟨N0, h⟩
-- slices_Contains_bool
def E104 (c_slices_Index_bool : ((List Bool) × Bool × Unit → Option Int)) : Env := ⟨tys, [], [(130, ⟨[(.slice .bool), .bool], int, c_slices_Index_bool⟩)], []⟩
def A104 (_c_slices_Index_bool : ((List Bool) × Bool × Unit → Option Int)) (_N : Nat) : List (Nat × Loop (Ty.den .bool)) := []
theorem K104 (c_slices_Index_bool : ((List Bool) × Bool × Unit → Option Int)) (N : Nat) (a0 : (List Bool)) (a1 : Bool) : fnK N (E104 c_slices_Index_bool) Go.Proofs.Try.f104 [(.slice .bool), .bool] .bool (A104 c_slices_Index_bool N) (a0, a1, ()) = r_slices_Contains_bool c_slices_Index_bool N a0 a1 := by kernel_rfl
theorem L104 (c_slices_Index_bool : ((List Bool) × Bool × Unit → Option Int)) (N : Nat) : LoopsOk N (E104 c_slices_Index_bool) (A104 c_slices_Index_bool N) Go.Proofs.Try.f104.ntmps (retOf (E104 c_slices_Index_bool) Go.Proofs.Try.f104 .bool) (loopsOf (Go.Proofs.Try.f104.body.getD .skip)) :=
  LoopsOk.of (l := []) (by kernel_rfl) .nil
theorem There104 : There Go.Proofs.Try.prog 104 := ⟨_, Go.Proofs.Try.func104, by kernel_rfl, by kernel_rfl⟩
theorem C104 {c_slices_Index_bool : ((List Bool) × Bool × Unit → Option Int)} (h_c_slices_Index_bool : Contract Go.Proofs.Try.prog 130 ⟨[(.slice .bool), .bool], int, c_slices_Index_bool⟩) {f : ((List Bool) × Bool × Unit → Option Bool)} (h : ∀ a0 a1 r, f (a0, a1, ()) = some r → ∃ N, r_slices_Contains_bool c_slices_Index_bool N a0 a1 = some r) : Contract Go.Proofs.Try.prog 104 ⟨[(.slice .bool), .bool], .bool, f⟩ := by
  refine contract (E := E104 c_slices_Index_bool) (envOf table ⟨⟨h_c_slices_Index_bool, There130⟩, trivial⟩ trivial) mixed Go.Proofs.Try.func104 (c := Go.Proofs.Try.f104.body.getD .skip) (by kernel_rfl) (Nat.le_of_ble_eq_true (by kernel_rfl)) fun xs r hr => ?_
  obtain ⟨a0, a1, _⟩ := xs
  obtain ⟨N, hN⟩ := h _ _ r hr
  exact ⟨N, A104 c_slices_Index_bool N, L104 c_slices_Index_bool N, (K104 c_slices_Index_bool N a0 a1).trans hN⟩
theorem X104 : Contract Go.Proofs.Try.prog 104 ⟨[(.slice .bool), .bool], .bool, e_slices_Contains_bool⟩ := C104 X130 fun _ _ _ h => ⟨N0, h⟩
-- cmp_isNaN_int
def E133 : Env := ⟨tys, [], [], []⟩
def A133 (_N : Nat) : List (Nat × Loop (Ty.den .bool)) := []
theorem K133 (N : Nat) (a0 : Int) : fnK N (E133) Go.Proofs.Try.f133 [int] .bool (A133 N) (a0, ()) = r_cmp_isNaN_int N a0 := by kernel_rfl
theorem L133 (N : Nat) : LoopsOk N (E133) (A133 N) Go.Proofs.Try.f133.ntmps (retOf (E133) Go.Proofs.Try.f133 .bool) (loopsOf (Go.Proofs.Try.f133.body.getD .skip)) :=
  LoopsOk.of (l := []) (by kernel_rfl) .nil
theorem There133 : There Go.Proofs.Try.prog 133 := ⟨_, Go.Proofs.Try.func133, by kernel_rfl, by kernel_rfl⟩
theorem C133 {f : (Int × Unit → Option Bool)} (h : ∀ a0 r, f (a0, ()) = some r → ∃ N, r_cmp_isNaN_int N a0 = some r) : Contract Go.Proofs.Try.prog 133 ⟨[int], .bool, f⟩ := by
  refine contract (E := E133) (envOf table trivial trivial) mixed Go.Proofs.Try.func133 (c := Go.Proofs.Try.f133.body.getD .skip) (by kernel_rfl) (Nat.le_of_ble_eq_true (by kernel_rfl)) fun xs r hr => ?_
  obtain ⟨a0, _⟩ := xs
  obtain ⟨N, hN⟩ := h _ r hr
  exact ⟨N, A133 N, L133 N, (K133 N a0).trans hN⟩
theorem X133 : Contract Go.Proofs.Try.prog 133 ⟨[int], .bool, e_cmp_isNaN_int⟩ := C133 fun _ _ h => ⟨N0, h⟩
-- cmp_Compare_int
def E129 (c_cmp_isNaN_int : (Int × Unit → Option Bool)) : Env := ⟨tys, [], [(133, ⟨[int], .bool, c_cmp_isNaN_int⟩)], []⟩
def A129 (_c_cmp_isNaN_int : (Int × Unit → Option Bool)) (_N : Nat) : List (Nat × Loop (Ty.den int)) := []
theorem K129 (c_cmp_isNaN_int : (Int × Unit → Option Bool)) (N : Nat) (a0 : Int) (a1 : Int) : fnK N (E129 c_cmp_isNaN_int) Go.Proofs.Try.f129 [int, int] int (A129 c_cmp_isNaN_int N) (a0, a1, ()) = r_cmp_Compare_int c_cmp_isNaN_int N a0 a1 := by kernel_rfl
theorem L129 (c_cmp_isNaN_int : (Int × Unit → Option Bool)) (N : Nat) : LoopsOk N (E129 c_cmp_isNaN_int) (A129 c_cmp_isNaN_int N) Go.Proofs.Try.f129.ntmps (retOf (E129 c_cmp_isNaN_int) Go.Proofs.Try.f129 int) (loopsOf (Go.Proofs.Try.f129.body.getD .skip)) :=
  LoopsOk.of (l := []) (by kernel_rfl) .nil
theorem There129 : There Go.Proofs.Try.prog 129 := ⟨_, Go.Proofs.Try.func129, by kernel_rfl, by kernel_rfl⟩
theorem C129 {c_cmp_isNaN_int : (Int × Unit → Option Bool)} (h_c_cmp_isNaN_int : Contract Go.Proofs.Try.prog 133 ⟨[int], .bool, c_cmp_isNaN_int⟩) {f : (Int × Int × Unit → Option Int)} (h : ∀ a0 a1 r, f (a0, a1, ()) = some r → ∃ N, r_cmp_Compare_int c_cmp_isNaN_int N a0 a1 = some r) : Contract Go.Proofs.Try.prog 129 ⟨[int, int], int, f⟩ := by
  refine contract (E := E129 c_cmp_isNaN_int) (envOf table ⟨⟨h_c_cmp_isNaN_int, There133⟩, trivial⟩ trivial) mixed Go.Proofs.Try.func129 (c := Go.Proofs.Try.f129.body.getD .skip) (by kernel_rfl) (Nat.le_of_ble_eq_true (by kernel_rfl)) fun xs r hr => ?_
  obtain ⟨a0, a1, _⟩ := xs
  obtain ⟨N, hN⟩ := h _ _ r hr
  exact ⟨N, A129 c_cmp_isNaN_int N, L129 c_cmp_isNaN_int N, (K129 c_cmp_isNaN_int N a0 a1).trans hN⟩
theorem X129 : Contract Go.Proofs.Try.prog 129 ⟨[int, int], int, e_cmp_Compare_int⟩ := C129 X133 fun _ _ _ h => ⟨N0, h⟩
-- cmp_Or_int
def E128 : Env := ⟨tys, [], [], []⟩
def A128 (N : Nat) : List (Nat × Loop (Ty.den int)) := [(0, ⟨[(3, .ro none (.num .i64)), (6, .ro none (.slice (.num .i64))), (7, .ro none (.num .i64)), (8, .ro none (.num .i64))], r_cmp_Or_int_L0 N⟩)]
theorem K128 (N : Nat) (a0 : (List Int)) : fnK N (E128) Go.Proofs.Try.f128 [(.slice int)] int (A128 N) (a0, ()) = r_cmp_Or_int N a0 := by kernel_rfl
theorem L128 (N : Nat) : LoopsOk N (E128) (A128 N) Go.Proofs.Try.f128.ntmps (retOf (E128) Go.Proofs.Try.f128 int) (loopsOf (Go.Proofs.Try.f128.body.getD .skip)) :=
  LoopsOk.of (l := [(0, lb Go.Proofs.Try.f128 0)]) (by kernel_rfl) (.cons (L := ⟨[(3, .ro none (.num .i64)), (6, .ro none (.slice (.num .i64))), (7, .ro none (.num .i64)), (8, .ro none (.num .i64))], r_cmp_Or_int_L0 N⟩) (by kernel_rfl) (by intro s kc ke env; kernel_rfl) .nil)
theorem There128 : There Go.Proofs.Try.prog 128 := ⟨_, Go.Proofs.Try.func128, by kernel_rfl, by kernel_rfl⟩
theorem C128 {f : ((List Int) × Unit → Option Int)} (h : ∀ a0 r, f (a0, ()) = some r → ∃ N, r_cmp_Or_int N a0 = some r) : Contract Go.Proofs.Try.prog 128 ⟨[(.slice int)], int, f⟩ := by
  refine contract (E := E128) (envOf table trivial trivial) mixed Go.Proofs.Try.func128 (c := Go.Proofs.Try.f128.body.getD .skip) (by kernel_rfl) (Nat.le_of_ble_eq_true (by kernel_rfl)) fun xs r hr => ?_
  obtain ⟨a0, _⟩ := xs
  obtain ⟨N, hN⟩ := h _ r hr
  exact ⟨N, A128 N, L128 N, (K128 N a0).trans hN⟩
theorem X128 : Contract Go.Proofs.Try.prog 128 ⟨[(.slice int)], int, e_cmp_Or_int⟩ := C128 fun _ _ h => ⟨N0, h⟩
-- impl_byEnds
def E103 (c_cmp_Compare_int : (Int × Int × Unit → Option Int)) (c_cmp_Or_int : ((List Int) × Unit → Option Int)) : Env := ⟨tys, [], [(129, ⟨[int, int], int, c_cmp_Compare_int⟩), (128, ⟨[(.slice int)], int, c_cmp_Or_int⟩)], []⟩
def A103 (_c_cmp_Compare_int : (Int × Int × Unit → Option Int)) (_c_cmp_Or_int : ((List Int) × Unit → Option Int)) (_N : Nat) : List (Nat × Loop (Ty.den int)) := []
theorem K103 (c_cmp_Compare_int : (Int × Int × Unit → Option Int)) (c_cmp_Or_int : ((List Int) × Unit → Option Int)) (N : Nat) (a0 : (Int × Int × Int)) (a1 : (Int × Int × Int)) : fnK N (E103 c_cmp_Compare_int c_cmp_Or_int) Go.Proofs.Try.f103 [wire, wire] int (A103 c_cmp_Compare_int c_cmp_Or_int N) (a0, a1, ()) = r_impl_byEnds c_cmp_Compare_int c_cmp_Or_int N a0 a1 := by kernel_rfl
theorem L103 (c_cmp_Compare_int : (Int × Int × Unit → Option Int)) (c_cmp_Or_int : ((List Int) × Unit → Option Int)) (N : Nat) : LoopsOk N (E103 c_cmp_Compare_int c_cmp_Or_int) (A103 c_cmp_Compare_int c_cmp_Or_int N) Go.Proofs.Try.f103.ntmps (retOf (E103 c_cmp_Compare_int c_cmp_Or_int) Go.Proofs.Try.f103 int) (loopsOf (Go.Proofs.Try.f103.body.getD .skip)) :=
  LoopsOk.of (l := []) (by kernel_rfl) .nil
theorem There103 : There Go.Proofs.Try.prog 103 := ⟨_, Go.Proofs.Try.func103, by kernel_rfl, by kernel_rfl⟩
theorem C103 {c_cmp_Compare_int : (Int × Int × Unit → Option Int)} {c_cmp_Or_int : ((List Int) × Unit → Option Int)} (h_c_cmp_Compare_int : Contract Go.Proofs.Try.prog 129 ⟨[int, int], int, c_cmp_Compare_int⟩) (h_c_cmp_Or_int : Contract Go.Proofs.Try.prog 128 ⟨[(.slice int)], int, c_cmp_Or_int⟩) {f : ((Int × Int × Int) × (Int × Int × Int) × Unit → Option Int)} (h : ∀ a0 a1 r, f (a0, a1, ()) = some r → ∃ N, r_impl_byEnds c_cmp_Compare_int c_cmp_Or_int N a0 a1 = some r) : Contract Go.Proofs.Try.prog 103 ⟨[wire, wire], int, f⟩ := by
  refine contract (E := E103 c_cmp_Compare_int c_cmp_Or_int) (envOf table ⟨⟨h_c_cmp_Compare_int, There129⟩, ⟨⟨h_c_cmp_Or_int, There128⟩, trivial⟩⟩ trivial) mixed Go.Proofs.Try.func103 (c := Go.Proofs.Try.f103.body.getD .skip) (by kernel_rfl) (Nat.le_of_ble_eq_true (by kernel_rfl)) fun xs r hr => ?_
  obtain ⟨a0, a1, _⟩ := xs
  obtain ⟨N, hN⟩ := h _ _ r hr
  exact ⟨N, A103 c_cmp_Compare_int c_cmp_Or_int N, L103 c_cmp_Compare_int c_cmp_Or_int N, (K103 c_cmp_Compare_int c_cmp_Or_int N a0 a1).trans hN⟩
theorem X103 : Contract Go.Proofs.Try.prog 103 ⟨[wire, wire], int, e_impl_byEnds⟩ := C103 X129 X128 fun _ _ _ h => ⟨N0, h⟩
-- impl_NetOk
def E64 (c_slices_Contains_bool : ((List Bool) × Bool × Unit → Option Bool)) (c_impl_byEnds : ((Int × Int × Int) × (Int × Int × Int) × Unit → Option Int)) : Env := ⟨tys, [], [(104, ⟨[(.slice .bool), .bool], .bool, c_slices_Contains_bool⟩), (103, ⟨[wire, wire], int, c_impl_byEnds⟩)], []⟩
def A64 (c_slices_Contains_bool : ((List Bool) × Bool × Unit → Option Bool)) (c_impl_byEnds : ((Int × Int × Int) × (Int × Int × Int) × Unit → Option Int)) (N : Nat) : List (Nat × Loop (Ty.den .bool)) := [(0, ⟨[(1, .box false (.pair (.num .i64) (.pair (.num .i64) (.pair (.num .i64) (.slice (.pair (.num .i64) (.pair (.num .i64) (.num .i64)))))))), (39, .ro none (.slice (.pair (.num .i64) (.pair (.num .i64) (.num .i64))))), (40, .ro none (.num .i64)), (41, .ro none (.num .i64))], r_impl_NetOk_L0 c_slices_Contains_bool c_impl_byEnds N⟩), (2, ⟨[(1, .box false (.pair (.num .i64) (.pair (.num .i64) (.pair (.num .i64) (.slice (.pair (.num .i64) (.pair (.num .i64) (.num .i64)))))))), (5, .own (.slice .bool)), (95, .ro none (.num .i64)), (96, .ro none (.num .i64))], r_impl_NetOk_L2 c_slices_Contains_bool c_impl_byEnds N⟩), (4, ⟨[(1, .box false (.pair (.num .i64) (.pair (.num .i64) (.pair (.num .i64) (.slice (.pair (.num .i64) (.pair (.num .i64) (.num .i64)))))))), (5, .own (.slice .bool)), (95, .ro none (.num .i64)), (96, .ro none (.num .i64)), (99, .ro none (.slice (.pair (.num .i64) (.pair (.num .i64) (.num .i64))))), (100, .ro none (.num .i64)), (101, .ro none (.num .i64))], r_impl_NetOk_L4 c_slices_Contains_bool c_impl_byEnds N⟩)]
theorem K64 (c_slices_Contains_bool : ((List Bool) × Bool × Unit → Option Bool)) (c_impl_byEnds : ((Int × Int × Int) × (Int × Int × Int) × Unit → Option Int)) (N : Nat) (a0 : (Int × Int × Int × List (Int × Int × Int))) : fnK N (E64 c_slices_Contains_bool c_impl_byEnds) Go.Proofs.Try.f64 [net] .bool (A64 c_slices_Contains_bool c_impl_byEnds N) (a0, ()) = r_impl_NetOk c_slices_Contains_bool c_impl_byEnds N a0 := by kernel_rfl
theorem L64 (c_slices_Contains_bool : ((List Bool) × Bool × Unit → Option Bool)) (c_impl_byEnds : ((Int × Int × Int) × (Int × Int × Int) × Unit → Option Int)) (N : Nat) : LoopsOk N (E64 c_slices_Contains_bool c_impl_byEnds) (A64 c_slices_Contains_bool c_impl_byEnds N) Go.Proofs.Try.f64.ntmps (retOf (E64 c_slices_Contains_bool c_impl_byEnds) Go.Proofs.Try.f64 .bool) (loopsOf (Go.Proofs.Try.f64.body.getD .skip)) :=
  LoopsOk.of (l := [(0, lb Go.Proofs.Try.f64 0), (2, lb Go.Proofs.Try.f64 1), (4, lb Go.Proofs.Try.f64 2)]) (by kernel_rfl) (.cons (L := ⟨[(1, .box false (.pair (.num .i64) (.pair (.num .i64) (.pair (.num .i64) (.slice (.pair (.num .i64) (.pair (.num .i64) (.num .i64)))))))), (39, .ro none (.slice (.pair (.num .i64) (.pair (.num .i64) (.num .i64))))), (40, .ro none (.num .i64)), (41, .ro none (.num .i64))], r_impl_NetOk_L0 c_slices_Contains_bool c_impl_byEnds N⟩) (by kernel_rfl) (by intro s kc ke env; kernel_rfl) (.cons (L := ⟨[(1, .box false (.pair (.num .i64) (.pair (.num .i64) (.pair (.num .i64) (.slice (.pair (.num .i64) (.pair (.num .i64) (.num .i64)))))))), (5, .own (.slice .bool)), (95, .ro none (.num .i64)), (96, .ro none (.num .i64))], r_impl_NetOk_L2 c_slices_Contains_bool c_impl_byEnds N⟩) (by kernel_rfl) (by intro s kc ke env; kernel_rfl) (.cons (L := ⟨[(1, .box false (.pair (.num .i64) (.pair (.num .i64) (.pair (.num .i64) (.slice (.pair (.num .i64) (.pair (.num .i64) (.num .i64)))))))), (5, .own (.slice .bool)), (95, .ro none (.num .i64)), (96, .ro none (.num .i64)), (99, .ro none (.slice (.pair (.num .i64) (.pair (.num .i64) (.num .i64))))), (100, .ro none (.num .i64)), (101, .ro none (.num .i64))], r_impl_NetOk_L4 c_slices_Contains_bool c_impl_byEnds N⟩) (by kernel_rfl) (by intro s kc ke env; kernel_rfl) .nil)))
theorem There64 : There Go.Proofs.Try.prog 64 := ⟨_, Go.Proofs.Try.func64, by kernel_rfl, by kernel_rfl⟩
theorem C64 {c_slices_Contains_bool : ((List Bool) × Bool × Unit → Option Bool)} {c_impl_byEnds : ((Int × Int × Int) × (Int × Int × Int) × Unit → Option Int)} (h_c_slices_Contains_bool : Contract Go.Proofs.Try.prog 104 ⟨[(.slice .bool), .bool], .bool, c_slices_Contains_bool⟩) (h_c_impl_byEnds : Contract Go.Proofs.Try.prog 103 ⟨[wire, wire], int, c_impl_byEnds⟩) {f : ((Int × Int × Int × List (Int × Int × Int)) × Unit → Option Bool)} (h : ∀ a0 r, f (a0, ()) = some r → ∃ N, r_impl_NetOk c_slices_Contains_bool c_impl_byEnds N a0 = some r) : Contract Go.Proofs.Try.prog 64 ⟨[net], .bool, f⟩ := by
  refine contract (E := E64 c_slices_Contains_bool c_impl_byEnds) (envOf table ⟨⟨h_c_slices_Contains_bool, There104⟩, ⟨⟨h_c_impl_byEnds, There103⟩, trivial⟩⟩ trivial) mixed Go.Proofs.Try.func64 (c := Go.Proofs.Try.f64.body.getD .skip) (by kernel_rfl) (Nat.le_of_ble_eq_true (by kernel_rfl)) fun xs r hr => ?_
  obtain ⟨a0, _⟩ := xs
  obtain ⟨N, hN⟩ := h _ r hr
  exact ⟨N, A64 c_slices_Contains_bool c_impl_byEnds N, L64 c_slices_Contains_bool c_impl_byEnds N, (K64 c_slices_Contains_bool c_impl_byEnds N a0).trans hN⟩
theorem X64 : Contract Go.Proofs.Try.prog 64 ⟨[net], .bool, e_impl_NetOk⟩ := C64 X104 X103 fun _ _ h => ⟨N0, h⟩
-- slices_Clone_int
def E113 : Env := ⟨tys, [], [], []⟩
def A113 (_N : Nat) : List (Nat × Loop (Ty.den (.slice int))) := []
theorem K113 (N : Nat) (a0 : (List Int)) : fnK N (E113) Go.Proofs.Try.f113 [(.slice int)] (.slice int) (A113 N) (a0, ()) = r_slices_Clone_int N a0 := by kernel_rfl
theorem L113 (N : Nat) : LoopsOk N (E113) (A113 N) Go.Proofs.Try.f113.ntmps (retOf (E113) Go.Proofs.Try.f113 (.slice int)) (loopsOf (Go.Proofs.Try.f113.body.getD .skip)) :=
  LoopsOk.of (l := []) (by kernel_rfl) .nil
theorem There113 : There Go.Proofs.Try.prog 113 := ⟨_, Go.Proofs.Try.func113, by kernel_rfl, by kernel_rfl⟩
theorem C113 {f : ((List Int) × Unit → Option (List Int))} (h : ∀ a0 r, f (a0, ()) = some r → ∃ N, r_slices_Clone_int N a0 = some r) : Contract Go.Proofs.Try.prog 113 ⟨[(.slice int)], (.slice int), f⟩ := by
  refine contract (E := E113) (envOf table trivial trivial) mixed Go.Proofs.Try.func113 (c := Go.Proofs.Try.f113.body.getD .skip) (by kernel_rfl) (Nat.le_of_ble_eq_true (by kernel_rfl)) fun xs r hr => ?_
  obtain ⟨a0, _⟩ := xs
  obtain ⟨N, hN⟩ := h _ r hr
  exact ⟨N, A113 N, L113 N, (K113 N a0).trans hN⟩
theorem X113 : Contract Go.Proofs.Try.prog 113 ⟨[(.slice int)], (.slice int), e_slices_Clone_int⟩ := C113 fun _ _ h => ⟨N0, h⟩
-- slices_Reverse_int
theorem There126 : There Go.Proofs.Try.prog 126 := ⟨_, Go.Proofs.Try.func126, by kernel_rfl, by kernel_rfl⟩
end Go.Sx.S
namespace Go.Proofs
open Go.Shelf
def Try.laysReverse_ren : Go.Shelf.Ren := ⟨fun | 112 => 126 | n => n, fun | 28 => 57 | 3 => 3 | 4 => 4 | 0 => 0 | n => n, fun | n => n⟩
theorem Try.laysReverse : Go.Proofs.Lays.n112 Try.prog Try.laysReverse_ren := {
  mixed := by kernel_rfl
  f112 := Try.func126.trans (congrArg some (by kernel_rfl))
  t0 := Try.underlying0
  a0 := Try.isAgg0
  z0 := Try.sizeOf0
  v0 := Try.zeroValue0
  t3 := Try.underlying3
  a3 := Try.isAgg3
  z3 := Try.sizeOf3
  v3 := Try.zeroValue3
  t4 := Try.underlying4
  a4 := Try.isAgg4
  z4 := Try.sizeOf4
  v4 := Try.zeroValue4
  t28 := Try.underlying57
  a28 := Try.isAgg57
  z28 := Try.sizeOf57
  v28 := Try.zeroValue57 }
end Go.Proofs
namespace Go.Sx.S
open Go Go.Sx Go.Sx.R
theorem X126 : MutC Go.Proofs.Try.prog 126 ⟨(.slice int), 0, [], none, e_slices_Reverse_int⟩ :=
  mutC_reverse (fun blk off cap zs w hH hl => Go.Proofs.Any.slices_Reverse_int Go.Proofs.Try.laysReverse blk off cap zs w hH hl) (fun a cap w => Go.Proofs.Any.slices_Reverse_int_empty Go.Proofs.Try.laysReverse a cap w)

-- slices_Index_int
def E134 : Env := ⟨tys, [], [], []⟩
def A134 (N : Nat) : List (Nat × Loop (Ty.den int)) := [(0, ⟨[(0, .ro none (.slice (.num .i64))), (1, .ro none (.num .i64)), (7, .ro none (.num .i64)), (8, .ro none (.num .i64))], r_slices_Index_int_L0 N⟩)]
theorem K134 (N : Nat) (a0 : (List Int)) (a1 : Int) : fnK N (E134) Go.Proofs.Try.f134 [(.slice int), int] int (A134 N) (a0, a1, ()) = r_slices_Index_int N a0 a1 := by kernel_rfl
theorem L134 (N : Nat) : LoopsOk N (E134) (A134 N) Go.Proofs.Try.f134.ntmps (retOf (E134) Go.Proofs.Try.f134 int) (loopsOf (Go.Proofs.Try.f134.body.getD .skip)) :=
  LoopsOk.of (l := [(0, lb Go.Proofs.Try.f134 0)]) (by kernel_rfl) (.cons (L := ⟨[(0, .ro none (.slice (.num .i64))), (1, .ro none (.num .i64)), (7, .ro none (.num .i64)), (8, .ro none (.num .i64))], r_slices_Index_int_L0 N⟩) (by kernel_rfl) (by intro s kc ke env; kernel_rfl) .nil)
theorem There134 : There Go.Proofs.Try.prog 134 := ⟨_, Go.Proofs.Try.func134, by kernel_rfl, by kernel_rfl⟩
theorem C134 {f : ((List Int) × Int × Unit → Option Int)} (h : ∀ a0 a1 r, f (a0, a1, ()) = some r → ∃ N, r_slices_Index_int N a0 a1 = some r) : Contract Go.Proofs.Try.prog 134 ⟨[(.slice int), int], int, f⟩ := by
  refine contract (E := E134) (envOf table trivial trivial) mixed Go.Proofs.Try.func134 (c := Go.Proofs.Try.f134.body.getD .skip) (by kernel_rfl) (Nat.le_of_ble_eq_true (by kernel_rfl)) fun xs r hr => ?_
  obtain ⟨a0, a1, _⟩ := xs
  obtain ⟨N, hN⟩ := h _ _ r hr
  exact ⟨N, A134 N, L134 N, (K134 N a0 a1).trans hN⟩
theorem X134 : Contract Go.Proofs.Try.prog 134 ⟨[(.slice int), int], int, e_slices_Index_int⟩ := C134 fun _ _ _ h => ⟨N0, h⟩
-- slices_Contains_int
def E132 (c_slices_Index_int : ((List Int) × Int × Unit → Option Int)) : Env := ⟨tys, [], [(134, ⟨[(.slice int), int], int, c_slices_Index_int⟩)], []⟩
def A132 (_c_slices_Index_int : ((List Int) × Int × Unit → Option Int)) (_N : Nat) : List (Nat × Loop (Ty.den .bool)) := []
theorem K132 (c_slices_Index_int : ((List Int) × Int × Unit → Option Int)) (N : Nat) (a0 : (List Int)) (a1 : Int) : fnK N (E132 c_slices_Index_int) Go.Proofs.Try.f132 [(.slice int), int] .bool (A132 c_slices_Index_int N) (a0, a1, ()) = r_slices_Contains_int c_slices_Index_int N a0 a1 := by kernel_rfl
theorem L132 (c_slices_Index_int : ((List Int) × Int × Unit → Option Int)) (N : Nat) : LoopsOk N (E132 c_slices_Index_int) (A132 c_slices_Index_int N) Go.Proofs.Try.f132.ntmps (retOf (E132 c_slices_Index_int) Go.Proofs.Try.f132 .bool) (loopsOf (Go.Proofs.Try.f132.body.getD .skip)) :=
  LoopsOk.of (l := []) (by kernel_rfl) .nil
theorem There132 : There Go.Proofs.Try.prog 132 := ⟨_, Go.Proofs.Try.func132, by kernel_rfl, by kernel_rfl⟩
theorem C132 {c_slices_Index_int : ((List Int) × Int × Unit → Option Int)} (h_c_slices_Index_int : Contract Go.Proofs.Try.prog 134 ⟨[(.slice int), int], int, c_slices_Index_int⟩) {f : ((List Int) × Int × Unit → Option Bool)} (h : ∀ a0 a1 r, f (a0, a1, ()) = some r → ∃ N, r_slices_Contains_int c_slices_Index_int N a0 a1 = some r) : Contract Go.Proofs.Try.prog 132 ⟨[(.slice int), int], .bool, f⟩ := by
  refine contract (E := E132 c_slices_Index_int) (envOf table ⟨⟨h_c_slices_Index_int, There134⟩, trivial⟩ trivial) mixed Go.Proofs.Try.func132 (c := Go.Proofs.Try.f132.body.getD .skip) (by kernel_rfl) (Nat.le_of_ble_eq_true (by kernel_rfl)) fun xs r hr => ?_
  obtain ⟨a0, a1, _⟩ := xs
  obtain ⟨N, hN⟩ := h _ _ r hr
  exact ⟨N, A132 c_slices_Index_int N, L132 c_slices_Index_int N, (K132 c_slices_Index_int N a0 a1).trans hN⟩
theorem X132 : Contract Go.Proofs.Try.prog 132 ⟨[(.slice int), int], .bool, e_slices_Contains_int⟩ := C132 X134 fun _ _ _ h => ⟨N0, h⟩
-- impl_indicesOk
def E127 (c_slices_Contains_int : ((List Int) × Int × Unit → Option Bool)) : Env := ⟨tys, [], [(132, ⟨[(.slice int), int], .bool, c_slices_Contains_int⟩)], []⟩
def A127 (c_slices_Contains_int : ((List Int) × Int × Unit → Option Bool)) (N : Nat) : List (Nat × Loop (Ty.den .bool)) := [(0, ⟨[(0, .ro none (.slice (.num .i64))), (1, .ro none (.num .i64)), (7, .ro none (.slice (.num .i64))), (8, .ro none (.num .i64)), (9, .ro none (.num .i64))], r_impl_indicesOk_L0 c_slices_Contains_int N⟩)]
theorem K127 (c_slices_Contains_int : ((List Int) × Int × Unit → Option Bool)) (N : Nat) (a0 : (List Int)) (a1 : Int) : fnK N (E127 c_slices_Contains_int) Go.Proofs.Try.f127 [(.slice int), int] .bool (A127 c_slices_Contains_int N) (a0, a1, ()) = r_impl_indicesOk c_slices_Contains_int N a0 a1 := by kernel_rfl
theorem L127 (c_slices_Contains_int : ((List Int) × Int × Unit → Option Bool)) (N : Nat) : LoopsOk N (E127 c_slices_Contains_int) (A127 c_slices_Contains_int N) Go.Proofs.Try.f127.ntmps (retOf (E127 c_slices_Contains_int) Go.Proofs.Try.f127 .bool) (loopsOf (Go.Proofs.Try.f127.body.getD .skip)) :=
  LoopsOk.of (l := [(0, lb Go.Proofs.Try.f127 0)]) (by kernel_rfl) (.cons (L := ⟨[(0, .ro none (.slice (.num .i64))), (1, .ro none (.num .i64)), (7, .ro none (.slice (.num .i64))), (8, .ro none (.num .i64)), (9, .ro none (.num .i64))], r_impl_indicesOk_L0 c_slices_Contains_int N⟩) (by kernel_rfl) (by intro s kc ke env; kernel_rfl) .nil)
theorem There127 : There Go.Proofs.Try.prog 127 := ⟨_, Go.Proofs.Try.func127, by kernel_rfl, by kernel_rfl⟩
theorem C127 {c_slices_Contains_int : ((List Int) × Int × Unit → Option Bool)} (h_c_slices_Contains_int : Contract Go.Proofs.Try.prog 132 ⟨[(.slice int), int], .bool, c_slices_Contains_int⟩) {f : ((List Int) × Int × Unit → Option Bool)} (h : ∀ a0 a1 r, f (a0, a1, ()) = some r → ∃ N, r_impl_indicesOk c_slices_Contains_int N a0 a1 = some r) : Contract Go.Proofs.Try.prog 127 ⟨[(.slice int), int], .bool, f⟩ := by
  refine contract (E := E127 c_slices_Contains_int) (envOf table ⟨⟨h_c_slices_Contains_int, There132⟩, trivial⟩ trivial) mixed Go.Proofs.Try.func127 (c := Go.Proofs.Try.f127.body.getD .skip) (by kernel_rfl) (Nat.le_of_ble_eq_true (by kernel_rfl)) fun xs r hr => ?_
  obtain ⟨a0, a1, _⟩ := xs
  obtain ⟨N, hN⟩ := h _ _ r hr
  exact ⟨N, A127 c_slices_Contains_int N, L127 c_slices_Contains_int N, (K127 c_slices_Contains_int N a0 a1).trans hN⟩
theorem X127 : Contract Go.Proofs.Try.prog 127 ⟨[(.slice int), int], .bool, e_impl_indicesOk⟩ := C127 X132 fun _ _ _ h => ⟨N0, h⟩
-- impl_IsCircular
def E99 (c_slices_Clone_int : ((List Int) × Unit → Option (List Int))) (m_slices_Reverse_int : ((List Int) → (Unit) → Option ((List Int) × Unit))) (c_impl_indicesOk : ((List Int) × Int × Unit → Option Bool)) : Env := ⟨tys, [], [(113, ⟨[(.slice int)], (.slice int), c_slices_Clone_int⟩), (127, ⟨[(.slice int), int], .bool, c_impl_indicesOk⟩)], [(126, ⟨(.slice int), 0, [], none, m_slices_Reverse_int⟩)]⟩
def A99 (c_slices_Clone_int : ((List Int) × Unit → Option (List Int))) (m_slices_Reverse_int : ((List Int) → (Unit) → Option ((List Int) × Unit))) (c_impl_indicesOk : ((List Int) × Int × Unit → Option Bool)) (N : Nat) : List (Nat × Loop (Ty.den .bool)) := [(0, ⟨[(7, .own (.slice (.num .i64))), (8, .ro none (.num .i64)), (41, .ro (some 7) (.slice (.num .i64))), (42, .ro none (.num .i64)), (43, .ro none (.num .i64))], r_impl_IsCircular_L0 c_slices_Clone_int m_slices_Reverse_int c_impl_indicesOk N⟩)]
theorem K99 (c_slices_Clone_int : ((List Int) × Unit → Option (List Int))) (m_slices_Reverse_int : ((List Int) → (Unit) → Option ((List Int) × Unit))) (c_impl_indicesOk : ((List Int) × Int × Unit → Option Bool)) (N : Nat) (a0 : Int) (a1 : (List Int)) (a2 : (List Int)) : fnK N (E99 c_slices_Clone_int m_slices_Reverse_int c_impl_indicesOk) Go.Proofs.Try.f99 [int, (.slice int), (.slice int)] .bool (A99 c_slices_Clone_int m_slices_Reverse_int c_impl_indicesOk N) (a0, a1, a2, ()) = r_impl_IsCircular c_slices_Clone_int m_slices_Reverse_int c_impl_indicesOk N a0 a1 a2 := by kernel_rfl
theorem L99 (c_slices_Clone_int : ((List Int) × Unit → Option (List Int))) (m_slices_Reverse_int : ((List Int) → (Unit) → Option ((List Int) × Unit))) (c_impl_indicesOk : ((List Int) × Int × Unit → Option Bool)) (N : Nat) : LoopsOk N (E99 c_slices_Clone_int m_slices_Reverse_int c_impl_indicesOk) (A99 c_slices_Clone_int m_slices_Reverse_int c_impl_indicesOk N) Go.Proofs.Try.f99.ntmps (retOf (E99 c_slices_Clone_int m_slices_Reverse_int c_impl_indicesOk) Go.Proofs.Try.f99 .bool) (loopsOf (Go.Proofs.Try.f99.body.getD .skip)) :=
  LoopsOk.of (l := [(0, lb Go.Proofs.Try.f99 0)]) (by kernel_rfl) (.cons (L := ⟨[(7, .own (.slice (.num .i64))), (8, .ro none (.num .i64)), (41, .ro (some 7) (.slice (.num .i64))), (42, .ro none (.num .i64)), (43, .ro none (.num .i64))], r_impl_IsCircular_L0 c_slices_Clone_int m_slices_Reverse_int c_impl_indicesOk N⟩) (by kernel_rfl) (by intro s kc ke env; kernel_rfl) .nil)
theorem There99 : There Go.Proofs.Try.prog 99 := ⟨_, Go.Proofs.Try.func99, by kernel_rfl, by kernel_rfl⟩
theorem C99 {c_slices_Clone_int : ((List Int) × Unit → Option (List Int))} {m_slices_Reverse_int : ((List Int) → (Unit) → Option ((List Int) × Unit))} {c_impl_indicesOk : ((List Int) × Int × Unit → Option Bool)} (h_c_slices_Clone_int : Contract Go.Proofs.Try.prog 113 ⟨[(.slice int)], (.slice int), c_slices_Clone_int⟩) (h_m_slices_Reverse_int : MutC Go.Proofs.Try.prog 126 ⟨(.slice int), 0, [], none, m_slices_Reverse_int⟩) (h_c_impl_indicesOk : Contract Go.Proofs.Try.prog 127 ⟨[(.slice int), int], .bool, c_impl_indicesOk⟩) {f : (Int × (List Int) × (List Int) × Unit → Option Bool)} (h : ∀ a0 a1 a2 r, f (a0, a1, a2, ()) = some r → ∃ N, r_impl_IsCircular c_slices_Clone_int m_slices_Reverse_int c_impl_indicesOk N a0 a1 a2 = some r) : Contract Go.Proofs.Try.prog 99 ⟨[int, (.slice int), (.slice int)], .bool, f⟩ := by
  refine contract (E := E99 c_slices_Clone_int m_slices_Reverse_int c_impl_indicesOk) (envOf table ⟨⟨h_c_slices_Clone_int, There113⟩, ⟨⟨h_c_impl_indicesOk, There127⟩, trivial⟩⟩ ⟨⟨h_m_slices_Reverse_int, There126⟩, trivial⟩) mixed Go.Proofs.Try.func99 (c := Go.Proofs.Try.f99.body.getD .skip) (by kernel_rfl) (Nat.le_of_ble_eq_true (by kernel_rfl)) fun xs r hr => ?_
  obtain ⟨a0, a1, a2, _⟩ := xs
  obtain ⟨N, hN⟩ := h _ _ _ r hr
  exact ⟨N, A99 c_slices_Clone_int m_slices_Reverse_int c_impl_indicesOk N, L99 c_slices_Clone_int m_slices_Reverse_int c_impl_indicesOk N, (K99 c_slices_Clone_int m_slices_Reverse_int c_impl_indicesOk N a0 a1 a2).trans hN⟩
theorem X99 : Contract Go.Proofs.Try.prog 99 ⟨[int, (.slice int), (.slice int)], .bool, e_impl_IsCircular⟩ := C99 X113 X126 X127 fun _ _ _ _ h => ⟨N0, h⟩
-- impl_WeightBetween
def E74 : Env := ⟨tys, [], [], []⟩
def A74 (N : Nat) : List (Nat × Loop (Ty.den int)) := [(0, ⟨[(1, .ro none (.num .i64)), (2, .ro none (.num .i64)), (10, .ro none (.slice (.pair (.num .i64) (.pair (.num .i64) (.num .i64))))), (11, .ro none (.num .i64)), (12, .ro none (.num .i64))], r_impl_WeightBetween_L0 N⟩)]
theorem K74 (N : Nat) (a0 : (Int × Int × Int × List (Int × Int × Int))) (a1 : Int) (a2 : Int) : fnK N (E74) Go.Proofs.Try.f74 [net, int, int] int (A74 N) (a0, a1, a2, ()) = r_impl_WeightBetween N a0 a1 a2 := by kernel_rfl
theorem L74 (N : Nat) : LoopsOk N (E74) (A74 N) Go.Proofs.Try.f74.ntmps (retOf (E74) Go.Proofs.Try.f74 int) (loopsOf (Go.Proofs.Try.f74.body.getD .skip)) :=
  LoopsOk.of (l := [(0, lb Go.Proofs.Try.f74 0)]) (by kernel_rfl) (.cons (L := ⟨[(1, .ro none (.num .i64)), (2, .ro none (.num .i64)), (10, .ro none (.slice (.pair (.num .i64) (.pair (.num .i64) (.num .i64))))), (11, .ro none (.num .i64)), (12, .ro none (.num .i64))], r_impl_WeightBetween_L0 N⟩) (by kernel_rfl) (by intro s kc ke env; kernel_rfl) .nil)
theorem There74 : There Go.Proofs.Try.prog 74 := ⟨_, Go.Proofs.Try.func74, by kernel_rfl, by kernel_rfl⟩
theorem C74 {f : ((Int × Int × Int × List (Int × Int × Int)) × Int × Int × Unit → Option Int)} (h : ∀ a0 a1 a2 r, f (a0, a1, a2, ()) = some r → ∃ N, r_impl_WeightBetween N a0 a1 a2 = some r) : Contract Go.Proofs.Try.prog 74 ⟨[net, int, int], int, f⟩ := by
  refine contract (E := E74) (envOf table trivial trivial) mixed Go.Proofs.Try.func74 (c := Go.Proofs.Try.f74.body.getD .skip) (by kernel_rfl) (Nat.le_of_ble_eq_true (by kernel_rfl)) fun xs r hr => ?_
  obtain ⟨a0, a1, a2, _⟩ := xs
  obtain ⟨N, hN⟩ := h _ _ _ r hr
  exact ⟨N, A74 N, L74 N, (K74 N a0 a1 a2).trans hN⟩
theorem X74 : Contract Go.Proofs.Try.prog 74 ⟨[net, int, int], int, e_impl_WeightBetween⟩ := C74 fun _ _ _ _ h => ⟨N0, h⟩
-- impl_table
def E75 (c_impl_WeightBetween : ((Int × Int × Int × List (Int × Int × Int)) × Int × Int × Unit → Option Int)) : Env := ⟨tys, [], [(74, ⟨[net, int, int], int, c_impl_WeightBetween⟩)], []⟩
def A75 (c_impl_WeightBetween : ((Int × Int × Int × List (Int × Int × Int)) × Int × Int × Unit → Option Int)) (N : Nat) : List (Nat × Loop (Ty.den (.slice (.slice int)))) := [(0, ⟨[(1, .box false (.pair (.num .i64) (.pair (.num .i64) (.pair (.num .i64) (.slice (.pair (.num .i64) (.pair (.num .i64) (.num .i64)))))))), (3, .own (.slice (.slice (.num .i64)))), (10, .ro none (.num .i64)), (11, .ro none (.num .i64))], r_impl_table_L0 c_impl_WeightBetween N⟩), (2, ⟨[(1, .box false (.pair (.num .i64) (.pair (.num .i64) (.pair (.num .i64) (.slice (.pair (.num .i64) (.pair (.num .i64) (.num .i64)))))))), (3, .own (.slice (.slice (.num .i64)))), (4, .ro none (.num .i64)), (10, .ro none (.num .i64)), (11, .ro none (.num .i64)), (24, .ro none (.num .i64)), (25, .ro none (.num .i64))], r_impl_table_L2 c_impl_WeightBetween N⟩)]
theorem K75 (c_impl_WeightBetween : ((Int × Int × Int × List (Int × Int × Int)) × Int × Int × Unit → Option Int)) (N : Nat) (a0 : (Int × Int × Int × List (Int × Int × Int))) : fnK N (E75 c_impl_WeightBetween) Go.Proofs.Try.f75 [net] (.slice (.slice int)) (A75 c_impl_WeightBetween N) (a0, ()) = r_impl_table c_impl_WeightBetween N a0 := by kernel_rfl
theorem L75 (c_impl_WeightBetween : ((Int × Int × Int × List (Int × Int × Int)) × Int × Int × Unit → Option Int)) (N : Nat) : LoopsOk N (E75 c_impl_WeightBetween) (A75 c_impl_WeightBetween N) Go.Proofs.Try.f75.ntmps (retOf (E75 c_impl_WeightBetween) Go.Proofs.Try.f75 (.slice (.slice int))) (loopsOf (Go.Proofs.Try.f75.body.getD .skip)) :=
  LoopsOk.of (l := [(0, lb Go.Proofs.Try.f75 0), (2, lb Go.Proofs.Try.f75 1)]) (by kernel_rfl) (.cons (L := ⟨[(1, .box false (.pair (.num .i64) (.pair (.num .i64) (.pair (.num .i64) (.slice (.pair (.num .i64) (.pair (.num .i64) (.num .i64)))))))), (3, .own (.slice (.slice (.num .i64)))), (10, .ro none (.num .i64)), (11, .ro none (.num .i64))], r_impl_table_L0 c_impl_WeightBetween N⟩) (by kernel_rfl) (by intro s kc ke env; kernel_rfl) (.cons (L := ⟨[(1, .box false (.pair (.num .i64) (.pair (.num .i64) (.pair (.num .i64) (.slice (.pair (.num .i64) (.pair (.num .i64) (.num .i64)))))))), (3, .own (.slice (.slice (.num .i64)))), (4, .ro none (.num .i64)), (10, .ro none (.num .i64)), (11, .ro none (.num .i64)), (24, .ro none (.num .i64)), (25, .ro none (.num .i64))], r_impl_table_L2 c_impl_WeightBetween N⟩) (by kernel_rfl) (by intro s kc ke env; kernel_rfl) .nil))
theorem There75 : There Go.Proofs.Try.prog 75 := ⟨_, Go.Proofs.Try.func75, by kernel_rfl, by kernel_rfl⟩
theorem C75 {c_impl_WeightBetween : ((Int × Int × Int × List (Int × Int × Int)) × Int × Int × Unit → Option Int)} (h_c_impl_WeightBetween : Contract Go.Proofs.Try.prog 74 ⟨[net, int, int], int, c_impl_WeightBetween⟩) {f : ((Int × Int × Int × List (Int × Int × Int)) × Unit → Option (List (List Int)))} (h : ∀ a0 r, f (a0, ()) = some r → ∃ N, r_impl_table c_impl_WeightBetween N a0 = some r) : Contract Go.Proofs.Try.prog 75 ⟨[net], (.slice (.slice int)), f⟩ := by
  refine contract (E := E75 c_impl_WeightBetween) (envOf table ⟨⟨h_c_impl_WeightBetween, There74⟩, trivial⟩ trivial) mixed Go.Proofs.Try.func75 (c := Go.Proofs.Try.f75.body.getD .skip) (by kernel_rfl) (Nat.le_of_ble_eq_true (by kernel_rfl)) fun xs r hr => ?_
  obtain ⟨a0, _⟩ := xs
  obtain ⟨N, hN⟩ := h _ r hr
  exact ⟨N, A75 c_impl_WeightBetween N, L75 c_impl_WeightBetween N, (K75 c_impl_WeightBetween N a0).trans hN⟩
theorem X75 : Contract Go.Proofs.Try.prog 75 ⟨[net], (.slice (.slice int)), e_impl_table⟩ := C75 X74 fun _ _ h => ⟨N0, h⟩
-- impl_WeightAt
def E78 : Env := ⟨tys, [], [], []⟩
def A78 (N : Nat) : List (Nat × Loop (Ty.den int)) := [(0, ⟨[(1, .ro none (.num .i64)), (5, .ro none (.num .i64)), (9, .ro none (.slice (.pair (.num .i64) (.pair (.num .i64) (.num .i64))))), (10, .ro none (.num .i64)), (11, .ro none (.num .i64))], r_impl_WeightAt_L0 N⟩)]
theorem K78 (N : Nat) (a0 : (Int × Int × Int × List (Int × Int × Int))) (a1 : Int) : fnK N (E78) Go.Proofs.Try.f78 [net, int] int (A78 N) (a0, a1, ()) = r_impl_WeightAt N a0 a1 := by kernel_rfl
theorem L78 (N : Nat) : LoopsOk N (E78) (A78 N) Go.Proofs.Try.f78.ntmps (retOf (E78) Go.Proofs.Try.f78 int) (loopsOf (Go.Proofs.Try.f78.body.getD .skip)) :=
  LoopsOk.of (l := [(0, lb Go.Proofs.Try.f78 0)]) (by kernel_rfl) (.cons (L := ⟨[(1, .ro none (.num .i64)), (5, .ro none (.num .i64)), (9, .ro none (.slice (.pair (.num .i64) (.pair (.num .i64) (.num .i64))))), (10, .ro none (.num .i64)), (11, .ro none (.num .i64))], r_impl_WeightAt_L0 N⟩) (by kernel_rfl) (by intro s kc ke env; kernel_rfl) .nil)
theorem There78 : There Go.Proofs.Try.prog 78 := ⟨_, Go.Proofs.Try.func78, by kernel_rfl, by kernel_rfl⟩
theorem C78 {f : ((Int × Int × Int × List (Int × Int × Int)) × Int × Unit → Option Int)} (h : ∀ a0 a1 r, f (a0, a1, ()) = some r → ∃ N, r_impl_WeightAt N a0 a1 = some r) : Contract Go.Proofs.Try.prog 78 ⟨[net, int], int, f⟩ := by
  refine contract (E := E78) (envOf table trivial trivial) mixed Go.Proofs.Try.func78 (c := Go.Proofs.Try.f78.body.getD .skip) (by kernel_rfl) (Nat.le_of_ble_eq_true (by kernel_rfl)) fun xs r hr => ?_
  obtain ⟨a0, a1, _⟩ := xs
  obtain ⟨N, hN⟩ := h _ _ r hr
  exact ⟨N, A78 N, L78 N, (K78 N a0 a1).trans hN⟩
theorem X78 : Contract Go.Proofs.Try.prog 78 ⟨[net, int], int, e_impl_WeightAt⟩ := C78 fun _ _ _ h => ⟨N0, h⟩
-- impl_LaplacianOf
def E119 (c_impl_NetOk : ((Int × Int × Int × List (Int × Int × Int)) × Unit → Option Bool)) (c_impl_table : ((Int × Int × Int × List (Int × Int × Int)) × Unit → Option (List (List Int)))) (c_impl_WeightAt : ((Int × Int × Int × List (Int × Int × Int)) × Int × Unit → Option Int)) : Env := ⟨tys, [], [(64, ⟨[net], .bool, c_impl_NetOk⟩), (75, ⟨[net], (.slice (.slice int)), c_impl_table⟩), (78, ⟨[net, int], int, c_impl_WeightAt⟩)], []⟩
def A119 (c_impl_NetOk : ((Int × Int × Int × List (Int × Int × Int)) × Unit → Option Bool)) (c_impl_table : ((Int × Int × Int × List (Int × Int × Int)) × Unit → Option (List (List Int)))) (c_impl_WeightAt : ((Int × Int × Int × List (Int × Int × Int)) × Int × Unit → Option Int)) (N : Nat) : List (Nat × Loop (Ty.den (.slice (.slice int)))) := [(0, ⟨[(1, .box false (.pair (.num .i64) (.pair (.num .i64) (.pair (.num .i64) (.slice (.pair (.num .i64) (.pair (.num .i64) (.num .i64)))))))), (3, .own (.slice (.slice (.num .i64)))), (12, .ro none (.num .i64)), (13, .ro none (.num .i64))], r_impl_LaplacianOf_L0 c_impl_NetOk c_impl_table c_impl_WeightAt N⟩), (2, ⟨[(1, .box false (.pair (.num .i64) (.pair (.num .i64) (.pair (.num .i64) (.slice (.pair (.num .i64) (.pair (.num .i64) (.num .i64)))))))), (3, .own (.slice (.slice (.num .i64)))), (4, .ro none (.num .i64)), (12, .ro none (.num .i64)), (13, .ro none (.num .i64)), (17, .ro none (.num .i64)), (18, .ro none (.num .i64))], r_impl_LaplacianOf_L2 c_impl_NetOk c_impl_table c_impl_WeightAt N⟩)]
theorem K119 (c_impl_NetOk : ((Int × Int × Int × List (Int × Int × Int)) × Unit → Option Bool)) (c_impl_table : ((Int × Int × Int × List (Int × Int × Int)) × Unit → Option (List (List Int)))) (c_impl_WeightAt : ((Int × Int × Int × List (Int × Int × Int)) × Int × Unit → Option Int)) (N : Nat) (a0 : (Int × Int × Int × List (Int × Int × Int))) : fnK N (E119 c_impl_NetOk c_impl_table c_impl_WeightAt) Go.Proofs.Try.f119 [net] (.slice (.slice int)) (A119 c_impl_NetOk c_impl_table c_impl_WeightAt N) (a0, ()) = r_impl_LaplacianOf c_impl_NetOk c_impl_table c_impl_WeightAt N a0 := by kernel_rfl
theorem L119 (c_impl_NetOk : ((Int × Int × Int × List (Int × Int × Int)) × Unit → Option Bool)) (c_impl_table : ((Int × Int × Int × List (Int × Int × Int)) × Unit → Option (List (List Int)))) (c_impl_WeightAt : ((Int × Int × Int × List (Int × Int × Int)) × Int × Unit → Option Int)) (N : Nat) : LoopsOk N (E119 c_impl_NetOk c_impl_table c_impl_WeightAt) (A119 c_impl_NetOk c_impl_table c_impl_WeightAt N) Go.Proofs.Try.f119.ntmps (retOf (E119 c_impl_NetOk c_impl_table c_impl_WeightAt) Go.Proofs.Try.f119 (.slice (.slice int))) (loopsOf (Go.Proofs.Try.f119.body.getD .skip)) :=
  LoopsOk.of (l := [(0, lb Go.Proofs.Try.f119 0), (2, lb Go.Proofs.Try.f119 1)]) (by kernel_rfl) (.cons (L := ⟨[(1, .box false (.pair (.num .i64) (.pair (.num .i64) (.pair (.num .i64) (.slice (.pair (.num .i64) (.pair (.num .i64) (.num .i64)))))))), (3, .own (.slice (.slice (.num .i64)))), (12, .ro none (.num .i64)), (13, .ro none (.num .i64))], r_impl_LaplacianOf_L0 c_impl_NetOk c_impl_table c_impl_WeightAt N⟩) (by kernel_rfl) (by intro s kc ke env; kernel_rfl) (.cons (L := ⟨[(1, .box false (.pair (.num .i64) (.pair (.num .i64) (.pair (.num .i64) (.slice (.pair (.num .i64) (.pair (.num .i64) (.num .i64)))))))), (3, .own (.slice (.slice (.num .i64)))), (4, .ro none (.num .i64)), (12, .ro none (.num .i64)), (13, .ro none (.num .i64)), (17, .ro none (.num .i64)), (18, .ro none (.num .i64))], r_impl_LaplacianOf_L2 c_impl_NetOk c_impl_table c_impl_WeightAt N⟩) (by kernel_rfl) (by intro s kc ke env; kernel_rfl) .nil))
theorem There119 : There Go.Proofs.Try.prog 119 := ⟨_, Go.Proofs.Try.func119, by kernel_rfl, by kernel_rfl⟩
theorem C119 {c_impl_NetOk : ((Int × Int × Int × List (Int × Int × Int)) × Unit → Option Bool)} {c_impl_table : ((Int × Int × Int × List (Int × Int × Int)) × Unit → Option (List (List Int)))} {c_impl_WeightAt : ((Int × Int × Int × List (Int × Int × Int)) × Int × Unit → Option Int)} (h_c_impl_NetOk : Contract Go.Proofs.Try.prog 64 ⟨[net], .bool, c_impl_NetOk⟩) (h_c_impl_table : Contract Go.Proofs.Try.prog 75 ⟨[net], (.slice (.slice int)), c_impl_table⟩) (h_c_impl_WeightAt : Contract Go.Proofs.Try.prog 78 ⟨[net, int], int, c_impl_WeightAt⟩) {f : ((Int × Int × Int × List (Int × Int × Int)) × Unit → Option (List (List Int)))} (h : ∀ a0 r, f (a0, ()) = some r → ∃ N, r_impl_LaplacianOf c_impl_NetOk c_impl_table c_impl_WeightAt N a0 = some r) : Contract Go.Proofs.Try.prog 119 ⟨[net], (.slice (.slice int)), f⟩ := by
  refine contract (E := E119 c_impl_NetOk c_impl_table c_impl_WeightAt) (envOf table ⟨⟨h_c_impl_NetOk, There64⟩, ⟨⟨h_c_impl_table, There75⟩, ⟨⟨h_c_impl_WeightAt, There78⟩, trivial⟩⟩⟩ trivial) mixed Go.Proofs.Try.func119 (c := Go.Proofs.Try.f119.body.getD .skip) (by kernel_rfl) (Nat.le_of_ble_eq_true (by kernel_rfl)) fun xs r hr => ?_
  obtain ⟨a0, _⟩ := xs
  obtain ⟨N, hN⟩ := h _ r hr
  exact ⟨N, A119 c_impl_NetOk c_impl_table c_impl_WeightAt N, L119 c_impl_NetOk c_impl_table c_impl_WeightAt N, (K119 c_impl_NetOk c_impl_table c_impl_WeightAt N a0).trans hN⟩
theorem X119 : Contract Go.Proofs.Try.prog 119 ⟨[net], (.slice (.slice int)), e_impl_LaplacianOf⟩ := C119 X64 X75 X78 fun _ _ h => ⟨N0, h⟩
-- impl_inner
def E120 : Env := ⟨tys, [], [], []⟩
def A120 (N : Nat) : List (Nat × Loop (Ty.den (.slice int))) := [(0, ⟨[(1, .box false (.pair (.num .i64) (.pair (.num .i64) (.pair (.num .i64) (.slice (.pair (.num .i64) (.pair (.num .i64) (.num .i64)))))))), (3, .own (.slice (.num .i64))), (4, .ro none (.num .i64))], r_impl_inner_L0 N⟩)]
theorem K120 (N : Nat) (a0 : (Int × Int × Int × List (Int × Int × Int))) : fnK N (E120) Go.Proofs.Try.f120 [net] (.slice int) (A120 N) (a0, ()) = r_impl_inner N a0 := by kernel_rfl
theorem L120 (N : Nat) : LoopsOk N (E120) (A120 N) Go.Proofs.Try.f120.ntmps (retOf (E120) Go.Proofs.Try.f120 (.slice int)) (loopsOf (Go.Proofs.Try.f120.body.getD .skip)) :=
  LoopsOk.of (l := [(0, lb Go.Proofs.Try.f120 0)]) (by kernel_rfl) (.cons (L := ⟨[(1, .box false (.pair (.num .i64) (.pair (.num .i64) (.pair (.num .i64) (.slice (.pair (.num .i64) (.pair (.num .i64) (.num .i64)))))))), (3, .own (.slice (.num .i64))), (4, .ro none (.num .i64))], r_impl_inner_L0 N⟩) (by kernel_rfl) (by intro s kc ke env; kernel_rfl) .nil)
theorem There120 : There Go.Proofs.Try.prog 120 := ⟨_, Go.Proofs.Try.func120, by kernel_rfl, by kernel_rfl⟩
theorem C120 {f : ((Int × Int × Int × List (Int × Int × Int)) × Unit → Option (List Int))} (h : ∀ a0 r, f (a0, ()) = some r → ∃ N, r_impl_inner N a0 = some r) : Contract Go.Proofs.Try.prog 120 ⟨[net], (.slice int), f⟩ := by
  refine contract (E := E120) (envOf table trivial trivial) mixed Go.Proofs.Try.func120 (c := Go.Proofs.Try.f120.body.getD .skip) (by kernel_rfl) (Nat.le_of_ble_eq_true (by kernel_rfl)) fun xs r hr => ?_
  obtain ⟨a0, _⟩ := xs
  obtain ⟨N, hN⟩ := h _ r hr
  exact ⟨N, A120 N, L120 N, (K120 N a0).trans hN⟩
theorem X120 : Contract Go.Proofs.Try.prog 120 ⟨[net], (.slice int), e_impl_inner⟩ := C120 fun _ _ h => ⟨N0, h⟩
-- slices_Delete_int
theorem There112 : There Go.Proofs.Try.prog 112 := ⟨_, Go.Proofs.Try.func112, by kernel_rfl, by kernel_rfl⟩
end Go.Sx.S
namespace Go.Proofs
open Go.Shelf
def Try.laysDelete_ren : Go.Shelf.Ren := ⟨fun | 23 => 112 | n => n, fun | 22 => 57 | 3 => 3 | 4 => 4 | 0 => 0 | n => n, fun | n => n⟩
theorem Try.laysDelete : Go.Proofs.Lays2.n23 Try.prog Try.laysDelete_ren := {
  mixed := by kernel_rfl
  f23 := Try.func112.trans (congrArg some (by kernel_rfl))
  t0 := Try.underlying0
  a0 := Try.isAgg0
  z0 := Try.sizeOf0
  v0 := Try.zeroValue0
  t3 := Try.underlying3
  a3 := Try.isAgg3
  z3 := Try.sizeOf3
  v3 := Try.zeroValue3
  t4 := Try.underlying4
  a4 := Try.isAgg4
  z4 := Try.sizeOf4
  v4 := Try.zeroValue4
  t22 := Try.underlying57
  a22 := Try.isAgg57
  z22 := Try.sizeOf57
  v22 := Try.zeroValue57
  i3 := by kernel_rfl }
end Go.Proofs
namespace Go.Sx.S
open Go Go.Sx Go.Sx.R
theorem X112 : TakeC Go.Proofs.Try.prog 112 ⟨(.slice int), 0, [int, int], some (.slice int), e_slices_Delete_int⟩ :=
  takeC_delete (fun blk off cap i j zs w hH h1 h2 h3 h4 => Go.Proofs.Any.slices_Delete_int Go.Proofs.Try.laysDelete blk off cap i j zs w hH h1 h2 h3 h4) (fun a cap w => Go.Proofs.Any.slices_Delete_int_empty Go.Proofs.Try.laysDelete a cap w)

-- impl_det
def E121 (c_slices_Clone_int : ((List Int) × Unit → Option (List Int))) (m_slices_Delete_int : ((List Int) → (Int × Int × Unit) → Option ((List Int) × (List Int)))) (c_impl_det : ((List (List Int)) × (List Int) × (List Int) × Unit → Option Int)) : Env := ⟨tys, [], [(113, ⟨[(.slice int)], (.slice int), c_slices_Clone_int⟩), (121, ⟨[(.slice (.slice int)), (.slice int), (.slice int)], int, c_impl_det⟩)], [(112, ⟨(.slice int), 0, [int, int], some (.slice int), m_slices_Delete_int⟩)]⟩
def A121 (c_slices_Clone_int : ((List Int) × Unit → Option (List Int))) (m_slices_Delete_int : ((List Int) → (Int × Int × Unit) → Option ((List Int) × (List Int)))) (c_impl_det : ((List (List Int)) × (List Int) × (List Int) × Unit → Option Int)) (N : Nat) : List (Nat × Loop (Ty.den int)) := [(0, ⟨[(0, .ro none (.slice (.slice (.num .i64)))), (1, .ro none (.slice (.num .i64))), (2, .ro none (.slice (.num .i64))), (7, .ro none (.num .i64)), (8, .ro none (.num .i64)), (15, .ro none (.slice (.num .i64))), (16, .ro none (.num .i64)), (17, .ro none (.num .i64))], r_impl_det_L0 c_slices_Clone_int m_slices_Delete_int c_impl_det N⟩)]
theorem K121 (c_slices_Clone_int : ((List Int) × Unit → Option (List Int))) (m_slices_Delete_int : ((List Int) → (Int × Int × Unit) → Option ((List Int) × (List Int)))) (c_impl_det : ((List (List Int)) × (List Int) × (List Int) × Unit → Option Int)) (N : Nat) (a0 : (List (List Int))) (a1 : (List Int)) (a2 : (List Int)) : fnK N (E121 c_slices_Clone_int m_slices_Delete_int c_impl_det) Go.Proofs.Try.f121 [(.slice (.slice int)), (.slice int), (.slice int)] int (A121 c_slices_Clone_int m_slices_Delete_int c_impl_det N) (a0, a1, a2, ()) = r_impl_det c_slices_Clone_int m_slices_Delete_int c_impl_det N a0 a1 a2 := by kernel_rfl
theorem L121 (c_slices_Clone_int : ((List Int) × Unit → Option (List Int))) (m_slices_Delete_int : ((List Int) → (Int × Int × Unit) → Option ((List Int) × (List Int)))) (c_impl_det : ((List (List Int)) × (List Int) × (List Int) × Unit → Option Int)) (N : Nat) : LoopsOk N (E121 c_slices_Clone_int m_slices_Delete_int c_impl_det) (A121 c_slices_Clone_int m_slices_Delete_int c_impl_det N) Go.Proofs.Try.f121.ntmps (retOf (E121 c_slices_Clone_int m_slices_Delete_int c_impl_det) Go.Proofs.Try.f121 int) (loopsOf (Go.Proofs.Try.f121.body.getD .skip)) :=
  LoopsOk.of (l := [(0, lb Go.Proofs.Try.f121 0)]) (by kernel_rfl) (.cons (L := ⟨[(0, .ro none (.slice (.slice (.num .i64)))), (1, .ro none (.slice (.num .i64))), (2, .ro none (.slice (.num .i64))), (7, .ro none (.num .i64)), (8, .ro none (.num .i64)), (15, .ro none (.slice (.num .i64))), (16, .ro none (.num .i64)), (17, .ro none (.num .i64))], r_impl_det_L0 c_slices_Clone_int m_slices_Delete_int c_impl_det N⟩) (by kernel_rfl) (by intro s kc ke env; kernel_rfl) .nil)
theorem There121 : There Go.Proofs.Try.prog 121 := ⟨_, Go.Proofs.Try.func121, by kernel_rfl, by kernel_rfl⟩
theorem C121 {c_slices_Clone_int : ((List Int) × Unit → Option (List Int))} {m_slices_Delete_int : ((List Int) → (Int × Int × Unit) → Option ((List Int) × (List Int)))} {c_impl_det : ((List (List Int)) × (List Int) × (List Int) × Unit → Option Int)} (h_c_slices_Clone_int : Contract Go.Proofs.Try.prog 113 ⟨[(.slice int)], (.slice int), c_slices_Clone_int⟩) (h_m_slices_Delete_int : TakeC Go.Proofs.Try.prog 112 ⟨(.slice int), 0, [int, int], some (.slice int), m_slices_Delete_int⟩) (h_c_impl_det : Contract Go.Proofs.Try.prog 121 ⟨[(.slice (.slice int)), (.slice int), (.slice int)], int, c_impl_det⟩) {f : ((List (List Int)) × (List Int) × (List Int) × Unit → Option Int)} (h : ∀ a0 a1 a2 r, f (a0, a1, a2, ()) = some r → ∃ N, r_impl_det c_slices_Clone_int m_slices_Delete_int c_impl_det N a0 a1 a2 = some r) : Contract Go.Proofs.Try.prog 121 ⟨[(.slice (.slice int)), (.slice int), (.slice int)], int, f⟩ := by
  refine contract (E := E121 c_slices_Clone_int m_slices_Delete_int c_impl_det) (envOf table ⟨⟨h_c_slices_Clone_int, There113⟩, ⟨⟨h_c_impl_det, There121⟩, trivial⟩⟩ ⟨⟨h_m_slices_Delete_int, There112⟩, trivial⟩) mixed Go.Proofs.Try.func121 (c := Go.Proofs.Try.f121.body.getD .skip) (by kernel_rfl) (Nat.le_of_ble_eq_true (by kernel_rfl)) fun xs r hr => ?_
  obtain ⟨a0, a1, a2, _⟩ := xs
  obtain ⟨N, hN⟩ := h _ _ _ r hr
  exact ⟨N, A121 c_slices_Clone_int m_slices_Delete_int c_impl_det N, L121 c_slices_Clone_int m_slices_Delete_int c_impl_det N, (K121 c_slices_Clone_int m_slices_Delete_int c_impl_det N a0 a1 a2).trans hN⟩
theorem X121_n : ∀ n, Contract Go.Proofs.Try.prog 121 ⟨[(.slice (.slice int)), (.slice int), (.slice int)], int, e_impl_det_n n⟩
  | 0 => fun xs r vs w h => by simp [e_impl_det_n] at h
  | n + 1 => C121 X113 X112 (X121_n n) fun _ _ _ _ h => ⟨N0, h⟩
theorem X121 : Contract Go.Proofs.Try.prog 121 ⟨[(.slice (.slice int)), (.slice int), (.slice int)], int, e_impl_det⟩ := X121_n N0
-- impl_response
def E91 (c_impl_LaplacianOf : ((Int × Int × Int × List (Int × Int × Int)) × Unit → Option (List (List Int)))) (c_impl_inner : ((Int × Int × Int × List (Int × Int × Int)) × Unit → Option (List Int))) (c_impl_det : ((List (List Int)) × (List Int) × (List Int) × Unit → Option Int)) : Env := ⟨tys, [], [(119, ⟨[net], (.slice (.slice int)), c_impl_LaplacianOf⟩), (120, ⟨[net], (.slice int), c_impl_inner⟩), (121, ⟨[(.slice (.slice int)), (.slice int), (.slice int)], int, c_impl_det⟩)], []⟩
def A91 (c_impl_LaplacianOf : ((Int × Int × Int × List (Int × Int × Int)) × Unit → Option (List (List Int)))) (c_impl_inner : ((Int × Int × Int × List (Int × Int × Int)) × Unit → Option (List Int))) (c_impl_det : ((List (List Int)) × (List Int) × (List Int) × Unit → Option Int)) (N : Nat) : List (Nat × Loop (Ty.den (.tup (.slice (.slice int)) int))) := [(0, ⟨[(1, .box false (.pair (.num .i64) (.pair (.num .i64) (.pair (.num .i64) (.slice (.pair (.num .i64) (.pair (.num .i64) (.num .i64)))))))), (4, .own (.slice (.slice (.num .i64)))), (5, .own (.slice (.num .i64))), (6, .own (.slice (.slice (.num .i64)))), (17, .ro none (.num .i64)), (18, .ro none (.num .i64))], r_impl_response_L0 c_impl_LaplacianOf c_impl_inner c_impl_det N⟩), (2, ⟨[(1, .box false (.pair (.num .i64) (.pair (.num .i64) (.pair (.num .i64) (.slice (.pair (.num .i64) (.pair (.num .i64) (.num .i64)))))))), (4, .own (.slice (.slice (.num .i64)))), (5, .own (.slice (.num .i64))), (6, .own (.slice (.slice (.num .i64)))), (7, .ro none (.num .i64)), (17, .ro none (.num .i64)), (18, .ro none (.num .i64)), (22, .ro none (.num .i64)), (23, .ro none (.num .i64))], r_impl_response_L2 c_impl_LaplacianOf c_impl_inner c_impl_det N⟩)]
theorem K91 (c_impl_LaplacianOf : ((Int × Int × Int × List (Int × Int × Int)) × Unit → Option (List (List Int)))) (c_impl_inner : ((Int × Int × Int × List (Int × Int × Int)) × Unit → Option (List Int))) (c_impl_det : ((List (List Int)) × (List Int) × (List Int) × Unit → Option Int)) (N : Nat) (a0 : (Int × Int × Int × List (Int × Int × Int))) : fnK N (E91 c_impl_LaplacianOf c_impl_inner c_impl_det) Go.Proofs.Try.f91 [net] (.tup (.slice (.slice int)) int) (A91 c_impl_LaplacianOf c_impl_inner c_impl_det N) (a0, ()) = r_impl_response c_impl_LaplacianOf c_impl_inner c_impl_det N a0 := by kernel_rfl
theorem L91 (c_impl_LaplacianOf : ((Int × Int × Int × List (Int × Int × Int)) × Unit → Option (List (List Int)))) (c_impl_inner : ((Int × Int × Int × List (Int × Int × Int)) × Unit → Option (List Int))) (c_impl_det : ((List (List Int)) × (List Int) × (List Int) × Unit → Option Int)) (N : Nat) : LoopsOk N (E91 c_impl_LaplacianOf c_impl_inner c_impl_det) (A91 c_impl_LaplacianOf c_impl_inner c_impl_det N) Go.Proofs.Try.f91.ntmps (retOf (E91 c_impl_LaplacianOf c_impl_inner c_impl_det) Go.Proofs.Try.f91 (.tup (.slice (.slice int)) int)) (loopsOf (Go.Proofs.Try.f91.body.getD .skip)) :=
  LoopsOk.of (l := [(0, lb Go.Proofs.Try.f91 0), (2, lb Go.Proofs.Try.f91 1)]) (by kernel_rfl) (.cons (L := ⟨[(1, .box false (.pair (.num .i64) (.pair (.num .i64) (.pair (.num .i64) (.slice (.pair (.num .i64) (.pair (.num .i64) (.num .i64)))))))), (4, .own (.slice (.slice (.num .i64)))), (5, .own (.slice (.num .i64))), (6, .own (.slice (.slice (.num .i64)))), (17, .ro none (.num .i64)), (18, .ro none (.num .i64))], r_impl_response_L0 c_impl_LaplacianOf c_impl_inner c_impl_det N⟩) (by kernel_rfl) (by intro s kc ke env; kernel_rfl) (.cons (L := ⟨[(1, .box false (.pair (.num .i64) (.pair (.num .i64) (.pair (.num .i64) (.slice (.pair (.num .i64) (.pair (.num .i64) (.num .i64)))))))), (4, .own (.slice (.slice (.num .i64)))), (5, .own (.slice (.num .i64))), (6, .own (.slice (.slice (.num .i64)))), (7, .ro none (.num .i64)), (17, .ro none (.num .i64)), (18, .ro none (.num .i64)), (22, .ro none (.num .i64)), (23, .ro none (.num .i64))], r_impl_response_L2 c_impl_LaplacianOf c_impl_inner c_impl_det N⟩) (by kernel_rfl) (by intro s kc ke env; kernel_rfl) .nil))
theorem There91 : There Go.Proofs.Try.prog 91 := ⟨_, Go.Proofs.Try.func91, by kernel_rfl, by kernel_rfl⟩
theorem C91 {c_impl_LaplacianOf : ((Int × Int × Int × List (Int × Int × Int)) × Unit → Option (List (List Int)))} {c_impl_inner : ((Int × Int × Int × List (Int × Int × Int)) × Unit → Option (List Int))} {c_impl_det : ((List (List Int)) × (List Int) × (List Int) × Unit → Option Int)} (h_c_impl_LaplacianOf : Contract Go.Proofs.Try.prog 119 ⟨[net], (.slice (.slice int)), c_impl_LaplacianOf⟩) (h_c_impl_inner : Contract Go.Proofs.Try.prog 120 ⟨[net], (.slice int), c_impl_inner⟩) (h_c_impl_det : Contract Go.Proofs.Try.prog 121 ⟨[(.slice (.slice int)), (.slice int), (.slice int)], int, c_impl_det⟩) {f : ((Int × Int × Int × List (Int × Int × Int)) × Unit → Option ((List (List Int)) × Int))} (h : ∀ a0 r, f (a0, ()) = some r → ∃ N, r_impl_response c_impl_LaplacianOf c_impl_inner c_impl_det N a0 = some r) : Contract Go.Proofs.Try.prog 91 ⟨[net], (.tup (.slice (.slice int)) int), f⟩ := by
  refine contract (E := E91 c_impl_LaplacianOf c_impl_inner c_impl_det) (envOf table ⟨⟨h_c_impl_LaplacianOf, There119⟩, ⟨⟨h_c_impl_inner, There120⟩, ⟨⟨h_c_impl_det, There121⟩, trivial⟩⟩⟩ trivial) mixed Go.Proofs.Try.func91 (c := Go.Proofs.Try.f91.body.getD .skip) (by kernel_rfl) (Nat.le_of_ble_eq_true (by kernel_rfl)) fun xs r hr => ?_
  obtain ⟨a0, _⟩ := xs
  obtain ⟨N, hN⟩ := h _ r hr
  exact ⟨N, A91 c_impl_LaplacianOf c_impl_inner c_impl_det N, L91 c_impl_LaplacianOf c_impl_inner c_impl_det N, (K91 c_impl_LaplacianOf c_impl_inner c_impl_det N a0).trans hN⟩
theorem X91 : Contract Go.Proofs.Try.prog 91 ⟨[net], (.tup (.slice (.slice int)) int), e_impl_response⟩ := C91 X119 X120 X121 fun _ _ h => ⟨N0, h⟩
-- impl_circular
def E100 (c_impl_det : ((List (List Int)) × (List Int) × (List Int) × Unit → Option Int)) : Env := ⟨tys, [], [(121, ⟨[(.slice (.slice int)), (.slice int), (.slice int)], int, c_impl_det⟩)], []⟩
def A100 (_c_impl_det : ((List (List Int)) × (List Int) × (List Int) × Unit → Option Int)) (_N : Nat) : List (Nat × Loop (Ty.den int)) := []
theorem K100 (c_impl_det : ((List (List Int)) × (List Int) × (List Int) × Unit → Option Int)) (N : Nat) (a0 : (List (List Int))) (a1 : (List Int)) (a2 : (List Int)) : fnK N (E100 c_impl_det) Go.Proofs.Try.f100 [(.slice (.slice int)), (.slice int), (.slice int)] int (A100 c_impl_det N) (a0, a1, a2, ()) = r_impl_circular c_impl_det N a0 a1 a2 := by kernel_rfl
theorem L100 (c_impl_det : ((List (List Int)) × (List Int) × (List Int) × Unit → Option Int)) (N : Nat) : LoopsOk N (E100 c_impl_det) (A100 c_impl_det N) Go.Proofs.Try.f100.ntmps (retOf (E100 c_impl_det) Go.Proofs.Try.f100 int) (loopsOf (Go.Proofs.Try.f100.body.getD .skip)) :=
  LoopsOk.of (l := []) (by kernel_rfl) .nil
theorem There100 : There Go.Proofs.Try.prog 100 := ⟨_, Go.Proofs.Try.func100, by kernel_rfl, by kernel_rfl⟩
theorem C100 {c_impl_det : ((List (List Int)) × (List Int) × (List Int) × Unit → Option Int)} (h_c_impl_det : Contract Go.Proofs.Try.prog 121 ⟨[(.slice (.slice int)), (.slice int), (.slice int)], int, c_impl_det⟩) {f : ((List (List Int)) × (List Int) × (List Int) × Unit → Option Int)} (h : ∀ a0 a1 a2 r, f (a0, a1, a2, ()) = some r → ∃ N, r_impl_circular c_impl_det N a0 a1 a2 = some r) : Contract Go.Proofs.Try.prog 100 ⟨[(.slice (.slice int)), (.slice int), (.slice int)], int, f⟩ := by
  refine contract (E := E100 c_impl_det) (envOf table ⟨⟨h_c_impl_det, There121⟩, trivial⟩ trivial) mixed Go.Proofs.Try.func100 (c := Go.Proofs.Try.f100.body.getD .skip) (by kernel_rfl) (Nat.le_of_ble_eq_true (by kernel_rfl)) fun xs r hr => ?_
  obtain ⟨a0, a1, a2, _⟩ := xs
  obtain ⟨N, hN⟩ := h _ _ _ r hr
  exact ⟨N, A100 c_impl_det N, L100 c_impl_det N, (K100 c_impl_det N a0 a1 a2).trans hN⟩
theorem X100 : Contract Go.Proofs.Try.prog 100 ⟨[(.slice (.slice int)), (.slice int), (.slice int)], int, e_impl_circular⟩ := C100 X121 fun _ _ _ _ h => ⟨N0, h⟩
-- impl_size
def E123 : Env := ⟨tys, [], [], []⟩
def A123 (_N : Nat) : List (Nat × Loop (Ty.den (.num .u64))) := []
theorem K123 (N : Nat) (a0 : Int) : fnK N (E123) Go.Proofs.Try.f123 [int] (.num .u64) (A123 N) (a0, ()) = r_impl_size N a0 := by kernel_rfl
theorem L123 (N : Nat) : LoopsOk N (E123) (A123 N) Go.Proofs.Try.f123.ntmps (retOf (E123) Go.Proofs.Try.f123 (.num .u64)) (loopsOf (Go.Proofs.Try.f123.body.getD .skip)) :=
  LoopsOk.of (l := []) (by kernel_rfl) .nil
theorem There123 : There Go.Proofs.Try.prog 123 := ⟨_, Go.Proofs.Try.func123, by kernel_rfl, by kernel_rfl⟩
theorem C123 {f : (Int × Unit → Option Int)} (h : ∀ a0 r, f (a0, ()) = some r → ∃ N, r_impl_size N a0 = some r) : Contract Go.Proofs.Try.prog 123 ⟨[int], (.num .u64), f⟩ := by
  refine contract (E := E123) (envOf table trivial trivial) mixed Go.Proofs.Try.func123 (c := Go.Proofs.Try.f123.body.getD .skip) (by kernel_rfl) (Nat.le_of_ble_eq_true (by kernel_rfl)) fun xs r hr => ?_
  obtain ⟨a0, _⟩ := xs
  obtain ⟨N, hN⟩ := h _ r hr
  exact ⟨N, A123 N, L123 N, (K123 N a0).trans hN⟩
theorem X123 : Contract Go.Proofs.Try.prog 123 ⟨[int], (.num .u64), e_impl_size⟩ := C123 fun _ _ h => ⟨N0, h⟩
-- impl_common
def E122 : Env := ⟨tys, [], [], []⟩
def A122 (N : Nat) : List (Nat × Loop (Ty.den (.num .u64))) := [(0, ⟨[(0, .ro none (.num .u64)), (1, .ro none (.num .u64))], r_impl_common_L0 N⟩)]
theorem K122 (N : Nat) (a0 : Int) (a1 : Int) : fnK N (E122) Go.Proofs.Try.f122 [(.num .u64), (.num .u64)] (.num .u64) (A122 N) (a0, a1, ()) = r_impl_common N a0 a1 := by kernel_rfl
theorem L122 (N : Nat) : LoopsOk N (E122) (A122 N) Go.Proofs.Try.f122.ntmps (retOf (E122) Go.Proofs.Try.f122 (.num .u64)) (loopsOf (Go.Proofs.Try.f122.body.getD .skip)) :=
  LoopsOk.of (l := [(0, lb Go.Proofs.Try.f122 0)]) (by kernel_rfl) (.cons (L := ⟨[(0, .ro none (.num .u64)), (1, .ro none (.num .u64))], r_impl_common_L0 N⟩) (by kernel_rfl) (by intro s kc ke env; kernel_rfl) .nil)
theorem There122 : There Go.Proofs.Try.prog 122 := ⟨_, Go.Proofs.Try.func122, by kernel_rfl, by kernel_rfl⟩
theorem C122 {f : (Int × Int × Unit → Option Int)} (h : ∀ a0 a1 r, f (a0, a1, ()) = some r → ∃ N, r_impl_common N a0 a1 = some r) : Contract Go.Proofs.Try.prog 122 ⟨[(.num .u64), (.num .u64)], (.num .u64), f⟩ := by
  refine contract (E := E122) (envOf table trivial trivial) mixed Go.Proofs.Try.func122 (c := Go.Proofs.Try.f122.body.getD .skip) (by kernel_rfl) (Nat.le_of_ble_eq_true (by kernel_rfl)) fun xs r hr => ?_
  obtain ⟨a0, a1, _⟩ := xs
  obtain ⟨N, hN⟩ := h _ _ r hr
  exact ⟨N, A122 N, L122 N, (K122 N a0 a1).trans hN⟩
theorem X122 : Contract Go.Proofs.Try.prog 122 ⟨[(.num .u64), (.num .u64)], (.num .u64), e_impl_common⟩ := C122 fun _ _ _ h => ⟨N0, h⟩
-- impl_RatioOf
def E92 (c_impl_size : (Int × Unit → Option Int)) (c_impl_common : (Int × Int × Unit → Option Int)) : Env := ⟨tys, [], [(123, ⟨[int], (.num .u64), c_impl_size⟩), (122, ⟨[(.num .u64), (.num .u64)], (.num .u64), c_impl_common⟩)], []⟩
def A92 (_c_impl_size : (Int × Unit → Option Int)) (_c_impl_common : (Int × Int × Unit → Option Int)) (_N : Nat) : List (Nat × Loop (Ty.den ratio)) := []
theorem K92 (c_impl_size : (Int × Unit → Option Int)) (c_impl_common : (Int × Int × Unit → Option Int)) (N : Nat) (a0 : Int) (a1 : Int) : fnK N (E92 c_impl_size c_impl_common) Go.Proofs.Try.f92 [int, int] ratio (A92 c_impl_size c_impl_common N) (a0, a1, ()) = r_impl_RatioOf c_impl_size c_impl_common N a0 a1 := by kernel_rfl
theorem L92 (c_impl_size : (Int × Unit → Option Int)) (c_impl_common : (Int × Int × Unit → Option Int)) (N : Nat) : LoopsOk N (E92 c_impl_size c_impl_common) (A92 c_impl_size c_impl_common N) Go.Proofs.Try.f92.ntmps (retOf (E92 c_impl_size c_impl_common) Go.Proofs.Try.f92 ratio) (loopsOf (Go.Proofs.Try.f92.body.getD .skip)) :=
  LoopsOk.of (l := []) (by kernel_rfl) .nil
theorem There92 : There Go.Proofs.Try.prog 92 := ⟨_, Go.Proofs.Try.func92, by kernel_rfl, by kernel_rfl⟩
theorem C92 {c_impl_size : (Int × Unit → Option Int)} {c_impl_common : (Int × Int × Unit → Option Int)} (h_c_impl_size : Contract Go.Proofs.Try.prog 123 ⟨[int], (.num .u64), c_impl_size⟩) (h_c_impl_common : Contract Go.Proofs.Try.prog 122 ⟨[(.num .u64), (.num .u64)], (.num .u64), c_impl_common⟩) {f : (Int × Int × Unit → Option (Int × Int))} (h : ∀ a0 a1 r, f (a0, a1, ()) = some r → ∃ N, r_impl_RatioOf c_impl_size c_impl_common N a0 a1 = some r) : Contract Go.Proofs.Try.prog 92 ⟨[int, int], ratio, f⟩ := by
  refine contract (E := E92 c_impl_size c_impl_common) (envOf table ⟨⟨h_c_impl_size, There123⟩, ⟨⟨h_c_impl_common, There122⟩, trivial⟩⟩ trivial) mixed Go.Proofs.Try.func92 (c := Go.Proofs.Try.f92.body.getD .skip) (by kernel_rfl) (Nat.le_of_ble_eq_true (by kernel_rfl)) fun xs r hr => ?_
  obtain ⟨a0, a1, _⟩ := xs
  obtain ⟨N, hN⟩ := h _ _ r hr
  exact ⟨N, A92 c_impl_size c_impl_common N, L92 c_impl_size c_impl_common N, (K92 c_impl_size c_impl_common N a0 a1).trans hN⟩
theorem X92 : Contract Go.Proofs.Try.prog 92 ⟨[int, int], ratio, e_impl_RatioOf⟩ := C92 X123 X122 fun _ _ _ h => ⟨N0, h⟩
-- impl_CircularMinor
def E57 (c_impl_NetOk : ((Int × Int × Int × List (Int × Int × Int)) × Unit → Option Bool)) (c_impl_IsCircular : (Int × (List Int) × (List Int) × Unit → Option Bool)) (c_impl_response : ((Int × Int × Int × List (Int × Int × Int)) × Unit → Option ((List (List Int)) × Int))) (c_impl_circular : ((List (List Int)) × (List Int) × (List Int) × Unit → Option Int)) (c_impl_RatioOf : (Int × Int × Unit → Option (Int × Int))) : Env := ⟨tys, [], [(64, ⟨[net], .bool, c_impl_NetOk⟩), (99, ⟨[int, (.slice int), (.slice int)], .bool, c_impl_IsCircular⟩), (91, ⟨[net], (.tup (.slice (.slice int)) int), c_impl_response⟩), (100, ⟨[(.slice (.slice int)), (.slice int), (.slice int)], int, c_impl_circular⟩), (92, ⟨[int, int], ratio, c_impl_RatioOf⟩)], []⟩
def A57 (c_impl_NetOk : ((Int × Int × Int × List (Int × Int × Int)) × Unit → Option Bool)) (c_impl_IsCircular : (Int × (List Int) × (List Int) × Unit → Option Bool)) (c_impl_response : ((Int × Int × Int × List (Int × Int × Int)) × Unit → Option ((List (List Int)) × Int))) (c_impl_circular : ((List (List Int)) × (List Int) × (List Int) × Unit → Option Int)) (c_impl_RatioOf : (Int × Int × Unit → Option (Int × Int))) (N : Nat) : List (Nat × Loop (Ty.den (.tup ratio .bool))) := [(0, ⟨[(1, .ro none (.slice (.num .i64))), (2, .ro none (.slice (.num .i64))), (6, .box true (.pair (.num .i64) (.num .i64))), (8, .own (.slice (.slice (.num .i64)))), (9, .ro none (.num .i64)), (10, .ro none (.num .i64)), (29, .ro none (.num .i64)), (30, .ro none (.num .i64))], r_impl_CircularMinor_L0 c_impl_NetOk c_impl_IsCircular c_impl_response c_impl_circular c_impl_RatioOf N⟩)]
theorem K57 (c_impl_NetOk : ((Int × Int × Int × List (Int × Int × Int)) × Unit → Option Bool)) (c_impl_IsCircular : (Int × (List Int) × (List Int) × Unit → Option Bool)) (c_impl_response : ((Int × Int × Int × List (Int × Int × Int)) × Unit → Option ((List (List Int)) × Int))) (c_impl_circular : ((List (List Int)) × (List Int) × (List Int) × Unit → Option Int)) (c_impl_RatioOf : (Int × Int × Unit → Option (Int × Int))) (N : Nat) (a0 : (Int × Int × Int × List (Int × Int × Int))) (a1 : (List Int)) (a2 : (List Int)) : fnK N (E57 c_impl_NetOk c_impl_IsCircular c_impl_response c_impl_circular c_impl_RatioOf) Go.Proofs.Try.f57 [net, (.slice int), (.slice int)] (.tup ratio .bool) (A57 c_impl_NetOk c_impl_IsCircular c_impl_response c_impl_circular c_impl_RatioOf N) (a0, a1, a2, ()) = r_impl_CircularMinor c_impl_NetOk c_impl_IsCircular c_impl_response c_impl_circular c_impl_RatioOf N a0 a1 a2 := by kernel_rfl
theorem L57 (c_impl_NetOk : ((Int × Int × Int × List (Int × Int × Int)) × Unit → Option Bool)) (c_impl_IsCircular : (Int × (List Int) × (List Int) × Unit → Option Bool)) (c_impl_response : ((Int × Int × Int × List (Int × Int × Int)) × Unit → Option ((List (List Int)) × Int))) (c_impl_circular : ((List (List Int)) × (List Int) × (List Int) × Unit → Option Int)) (c_impl_RatioOf : (Int × Int × Unit → Option (Int × Int))) (N : Nat) : LoopsOk N (E57 c_impl_NetOk c_impl_IsCircular c_impl_response c_impl_circular c_impl_RatioOf) (A57 c_impl_NetOk c_impl_IsCircular c_impl_response c_impl_circular c_impl_RatioOf N) Go.Proofs.Try.f57.ntmps (retOf (E57 c_impl_NetOk c_impl_IsCircular c_impl_response c_impl_circular c_impl_RatioOf) Go.Proofs.Try.f57 (.tup ratio .bool)) (loopsOf (Go.Proofs.Try.f57.body.getD .skip)) :=
  LoopsOk.of (l := [(0, lb Go.Proofs.Try.f57 0)]) (by kernel_rfl) (.cons (L := ⟨[(1, .ro none (.slice (.num .i64))), (2, .ro none (.slice (.num .i64))), (6, .box true (.pair (.num .i64) (.num .i64))), (8, .own (.slice (.slice (.num .i64)))), (9, .ro none (.num .i64)), (10, .ro none (.num .i64)), (29, .ro none (.num .i64)), (30, .ro none (.num .i64))], r_impl_CircularMinor_L0 c_impl_NetOk c_impl_IsCircular c_impl_response c_impl_circular c_impl_RatioOf N⟩) (by kernel_rfl) (by intro s kc ke env; kernel_rfl) .nil)
theorem There57 : There Go.Proofs.Try.prog 57 := ⟨_, Go.Proofs.Try.func57, by kernel_rfl, by kernel_rfl⟩
theorem C57 {c_impl_NetOk : ((Int × Int × Int × List (Int × Int × Int)) × Unit → Option Bool)} {c_impl_IsCircular : (Int × (List Int) × (List Int) × Unit → Option Bool)} {c_impl_response : ((Int × Int × Int × List (Int × Int × Int)) × Unit → Option ((List (List Int)) × Int))} {c_impl_circular : ((List (List Int)) × (List Int) × (List Int) × Unit → Option Int)} {c_impl_RatioOf : (Int × Int × Unit → Option (Int × Int))} (h_c_impl_NetOk : Contract Go.Proofs.Try.prog 64 ⟨[net], .bool, c_impl_NetOk⟩) (h_c_impl_IsCircular : Contract Go.Proofs.Try.prog 99 ⟨[int, (.slice int), (.slice int)], .bool, c_impl_IsCircular⟩) (h_c_impl_response : Contract Go.Proofs.Try.prog 91 ⟨[net], (.tup (.slice (.slice int)) int), c_impl_response⟩) (h_c_impl_circular : Contract Go.Proofs.Try.prog 100 ⟨[(.slice (.slice int)), (.slice int), (.slice int)], int, c_impl_circular⟩) (h_c_impl_RatioOf : Contract Go.Proofs.Try.prog 92 ⟨[int, int], ratio, c_impl_RatioOf⟩) {f : ((Int × Int × Int × List (Int × Int × Int)) × (List Int) × (List Int) × Unit → Option ((Int × Int) × Bool))} (h : ∀ a0 a1 a2 r, f (a0, a1, a2, ()) = some r → ∃ N, r_impl_CircularMinor c_impl_NetOk c_impl_IsCircular c_impl_response c_impl_circular c_impl_RatioOf N a0 a1 a2 = some r) : Contract Go.Proofs.Try.prog 57 ⟨[net, (.slice int), (.slice int)], (.tup ratio .bool), f⟩ := by
  refine contract (E := E57 c_impl_NetOk c_impl_IsCircular c_impl_response c_impl_circular c_impl_RatioOf) (envOf table ⟨⟨h_c_impl_NetOk, There64⟩, ⟨⟨h_c_impl_IsCircular, There99⟩, ⟨⟨h_c_impl_response, There91⟩, ⟨⟨h_c_impl_circular, There100⟩, ⟨⟨h_c_impl_RatioOf, There92⟩, trivial⟩⟩⟩⟩⟩ trivial) mixed Go.Proofs.Try.func57 (c := Go.Proofs.Try.f57.body.getD .skip) (by kernel_rfl) (Nat.le_of_ble_eq_true (by kernel_rfl)) fun xs r hr => ?_
  obtain ⟨a0, a1, a2, _⟩ := xs
  obtain ⟨N, hN⟩ := h _ _ _ r hr
  exact ⟨N, A57 c_impl_NetOk c_impl_IsCircular c_impl_response c_impl_circular c_impl_RatioOf N, L57 c_impl_NetOk c_impl_IsCircular c_impl_response c_impl_circular c_impl_RatioOf N, (K57 c_impl_NetOk c_impl_IsCircular c_impl_response c_impl_circular c_impl_RatioOf N a0 a1 a2).trans hN⟩
theorem X57 : Contract Go.Proofs.Try.prog 57 ⟨[net, (.slice int), (.slice int)], (.tup ratio .bool), e_impl_CircularMinor⟩ := C57 X64 X99 X91 X100 X92 fun _ _ _ _ h => ⟨N0, h⟩
-- laws_eqRatio
def E55 : Env := ⟨tys, [], [], []⟩
def A55 (_N : Nat) : List (Nat × Loop (Ty.den .bool)) := []
theorem K55 (N : Nat) (a0 : (Int × Int)) (a1 : (Int × Int)) : fnK N (E55) Go.Proofs.Try.f55 [ratio, ratio] .bool (A55 N) (a0, a1, ()) = r_laws_eqRatio N a0 a1 := by kernel_rfl
theorem L55 (N : Nat) : LoopsOk N (E55) (A55 N) Go.Proofs.Try.f55.ntmps (retOf (E55) Go.Proofs.Try.f55 .bool) (loopsOf (Go.Proofs.Try.f55.body.getD .skip)) :=
  LoopsOk.of (l := []) (by kernel_rfl) .nil
theorem There55 : There Go.Proofs.Try.prog 55 := ⟨_, Go.Proofs.Try.func55, by kernel_rfl, by kernel_rfl⟩
theorem C55 {f : ((Int × Int) × (Int × Int) × Unit → Option Bool)} (h : ∀ a0 a1 r, f (a0, a1, ()) = some r → ∃ N, r_laws_eqRatio N a0 a1 = some r) : Contract Go.Proofs.Try.prog 55 ⟨[ratio, ratio], .bool, f⟩ := by
  refine contract (E := E55) (envOf table trivial trivial) mixed Go.Proofs.Try.func55 (c := Go.Proofs.Try.f55.body.getD .skip) (by kernel_rfl) (Nat.le_of_ble_eq_true (by kernel_rfl)) fun xs r hr => ?_
  obtain ⟨a0, a1, _⟩ := xs
  obtain ⟨N, hN⟩ := h _ _ r hr
  exact ⟨N, A55 N, L55 N, (K55 N a0 a1).trans hN⟩
theorem X55 : Contract Go.Proofs.Try.prog 55 ⟨[ratio, ratio], .bool, e_laws_eqRatio⟩ := C55 fun _ _ _ h => ⟨N0, h⟩
-- laws_eqWire
def E106 : Env := ⟨tys, [], [], []⟩
def A106 (_N : Nat) : List (Nat × Loop (Ty.den .bool)) := []
theorem K106 (N : Nat) (a0 : (Int × Int × Int)) (a1 : (Int × Int × Int)) : fnK N (E106) Go.Proofs.Try.f106 [wire, wire] .bool (A106 N) (a0, a1, ()) = r_laws_eqWire N a0 a1 := by kernel_rfl
theorem L106 (N : Nat) : LoopsOk N (E106) (A106 N) Go.Proofs.Try.f106.ntmps (retOf (E106) Go.Proofs.Try.f106 .bool) (loopsOf (Go.Proofs.Try.f106.body.getD .skip)) :=
  LoopsOk.of (l := []) (by kernel_rfl) .nil
theorem There106 : There Go.Proofs.Try.prog 106 := ⟨_, Go.Proofs.Try.func106, by kernel_rfl, by kernel_rfl⟩
theorem C106 {f : ((Int × Int × Int) × (Int × Int × Int) × Unit → Option Bool)} (h : ∀ a0 a1 r, f (a0, a1, ()) = some r → ∃ N, r_laws_eqWire N a0 a1 = some r) : Contract Go.Proofs.Try.prog 106 ⟨[wire, wire], .bool, f⟩ := by
  refine contract (E := E106) (envOf table trivial trivial) mixed Go.Proofs.Try.func106 (c := Go.Proofs.Try.f106.body.getD .skip) (by kernel_rfl) (Nat.le_of_ble_eq_true (by kernel_rfl)) fun xs r hr => ?_
  obtain ⟨a0, a1, _⟩ := xs
  obtain ⟨N, hN⟩ := h _ _ r hr
  exact ⟨N, A106 N, L106 N, (K106 N a0 a1).trans hN⟩
theorem X106 : Contract Go.Proofs.Try.prog 106 ⟨[wire, wire], .bool, e_laws_eqWire⟩ := C106 fun _ _ _ h => ⟨N0, h⟩
-- laws_eqWireS
def E67 (c_laws_eqWire : ((Int × Int × Int) × (Int × Int × Int) × Unit → Option Bool)) : Env := ⟨tys, [], [(106, ⟨[wire, wire], .bool, c_laws_eqWire⟩)], []⟩
def A67 (c_laws_eqWire : ((Int × Int × Int) × (Int × Int × Int) × Unit → Option Bool)) (N : Nat) : List (Nat × Loop (Ty.den .bool)) := [(0, ⟨[(0, .ro none (.slice (.pair (.num .i64) (.pair (.num .i64) (.num .i64))))), (1, .ro none (.slice (.pair (.num .i64) (.pair (.num .i64) (.num .i64))))), (5, .ro none (.num .i64))], r_laws_eqWireS_L0 c_laws_eqWire N⟩)]
theorem K67 (c_laws_eqWire : ((Int × Int × Int) × (Int × Int × Int) × Unit → Option Bool)) (N : Nat) (a0 : (List (Int × Int × Int))) (a1 : (List (Int × Int × Int))) : fnK N (E67 c_laws_eqWire) Go.Proofs.Try.f67 [(.slice wire), (.slice wire)] .bool (A67 c_laws_eqWire N) (a0, a1, ()) = r_laws_eqWireS c_laws_eqWire N a0 a1 := by kernel_rfl
theorem L67 (c_laws_eqWire : ((Int × Int × Int) × (Int × Int × Int) × Unit → Option Bool)) (N : Nat) : LoopsOk N (E67 c_laws_eqWire) (A67 c_laws_eqWire N) Go.Proofs.Try.f67.ntmps (retOf (E67 c_laws_eqWire) Go.Proofs.Try.f67 .bool) (loopsOf (Go.Proofs.Try.f67.body.getD .skip)) :=
  LoopsOk.of (l := [(0, lb Go.Proofs.Try.f67 0)]) (by kernel_rfl) (.cons (L := ⟨[(0, .ro none (.slice (.pair (.num .i64) (.pair (.num .i64) (.num .i64))))), (1, .ro none (.slice (.pair (.num .i64) (.pair (.num .i64) (.num .i64))))), (5, .ro none (.num .i64))], r_laws_eqWireS_L0 c_laws_eqWire N⟩) (by kernel_rfl) (by intro s kc ke env; kernel_rfl) .nil)
theorem There67 : There Go.Proofs.Try.prog 67 := ⟨_, Go.Proofs.Try.func67, by kernel_rfl, by kernel_rfl⟩
theorem C67 {c_laws_eqWire : ((Int × Int × Int) × (Int × Int × Int) × Unit → Option Bool)} (h_c_laws_eqWire : Contract Go.Proofs.Try.prog 106 ⟨[wire, wire], .bool, c_laws_eqWire⟩) {f : ((List (Int × Int × Int)) × (List (Int × Int × Int)) × Unit → Option Bool)} (h : ∀ a0 a1 r, f (a0, a1, ()) = some r → ∃ N, r_laws_eqWireS c_laws_eqWire N a0 a1 = some r) : Contract Go.Proofs.Try.prog 67 ⟨[(.slice wire), (.slice wire)], .bool, f⟩ := by
  refine contract (E := E67 c_laws_eqWire) (envOf table ⟨⟨h_c_laws_eqWire, There106⟩, trivial⟩ trivial) mixed Go.Proofs.Try.func67 (c := Go.Proofs.Try.f67.body.getD .skip) (by kernel_rfl) (Nat.le_of_ble_eq_true (by kernel_rfl)) fun xs r hr => ?_
  obtain ⟨a0, a1, _⟩ := xs
  obtain ⟨N, hN⟩ := h _ _ r hr
  exact ⟨N, A67 c_laws_eqWire N, L67 c_laws_eqWire N, (K67 c_laws_eqWire N a0 a1).trans hN⟩
theorem X67 : Contract Go.Proofs.Try.prog 67 ⟨[(.slice wire), (.slice wire)], .bool, e_laws_eqWireS⟩ := C67 X106 fun _ _ _ h => ⟨N0, h⟩
-- laws_eqNet
def E20 (c_laws_eqWireS : ((List (Int × Int × Int)) × (List (Int × Int × Int)) × Unit → Option Bool)) : Env := ⟨tys, [], [(67, ⟨[(.slice wire), (.slice wire)], .bool, c_laws_eqWireS⟩)], []⟩
def A20 (_c_laws_eqWireS : ((List (Int × Int × Int)) × (List (Int × Int × Int)) × Unit → Option Bool)) (_N : Nat) : List (Nat × Loop (Ty.den .bool)) := []
theorem K20 (c_laws_eqWireS : ((List (Int × Int × Int)) × (List (Int × Int × Int)) × Unit → Option Bool)) (N : Nat) (a0 : (Int × Int × Int × List (Int × Int × Int))) (a1 : (Int × Int × Int × List (Int × Int × Int))) : fnK N (E20 c_laws_eqWireS) Go.Proofs.Try.f20 [net, net] .bool (A20 c_laws_eqWireS N) (a0, a1, ()) = r_laws_eqNet c_laws_eqWireS N a0 a1 := by kernel_rfl
theorem L20 (c_laws_eqWireS : ((List (Int × Int × Int)) × (List (Int × Int × Int)) × Unit → Option Bool)) (N : Nat) : LoopsOk N (E20 c_laws_eqWireS) (A20 c_laws_eqWireS N) Go.Proofs.Try.f20.ntmps (retOf (E20 c_laws_eqWireS) Go.Proofs.Try.f20 .bool) (loopsOf (Go.Proofs.Try.f20.body.getD .skip)) :=
  LoopsOk.of (l := []) (by kernel_rfl) .nil
theorem There20 : There Go.Proofs.Try.prog 20 := ⟨_, Go.Proofs.Try.func20, by kernel_rfl, by kernel_rfl⟩
theorem C20 {c_laws_eqWireS : ((List (Int × Int × Int)) × (List (Int × Int × Int)) × Unit → Option Bool)} (h_c_laws_eqWireS : Contract Go.Proofs.Try.prog 67 ⟨[(.slice wire), (.slice wire)], .bool, c_laws_eqWireS⟩) {f : ((Int × Int × Int × List (Int × Int × Int)) × (Int × Int × Int × List (Int × Int × Int)) × Unit → Option Bool)} (h : ∀ a0 a1 r, f (a0, a1, ()) = some r → ∃ N, r_laws_eqNet c_laws_eqWireS N a0 a1 = some r) : Contract Go.Proofs.Try.prog 20 ⟨[net, net], .bool, f⟩ := by
  refine contract (E := E20 c_laws_eqWireS) (envOf table ⟨⟨h_c_laws_eqWireS, There67⟩, trivial⟩ trivial) mixed Go.Proofs.Try.func20 (c := Go.Proofs.Try.f20.body.getD .skip) (by kernel_rfl) (Nat.le_of_ble_eq_true (by kernel_rfl)) fun xs r hr => ?_
  obtain ⟨a0, a1, _⟩ := xs
  obtain ⟨N, hN⟩ := h _ _ r hr
  exact ⟨N, A20 c_laws_eqWireS N, L20 c_laws_eqWireS N, (K20 c_laws_eqWireS N a0 a1).trans hN⟩
theorem X20 : Contract Go.Proofs.Try.prog 20 ⟨[net, net], .bool, e_laws_eqNet⟩ := C20 X67 fun _ _ _ h => ⟨N0, h⟩
-- laws_eqIntS
def E49 : Env := ⟨tys, [], [], []⟩
def A49 (N : Nat) : List (Nat × Loop (Ty.den .bool)) := [(0, ⟨[(0, .ro none (.slice (.num .i64))), (1, .ro none (.slice (.num .i64))), (5, .ro none (.num .i64))], r_laws_eqIntS_L0 N⟩)]
theorem K49 (N : Nat) (a0 : (List Int)) (a1 : (List Int)) : fnK N (E49) Go.Proofs.Try.f49 [(.slice int), (.slice int)] .bool (A49 N) (a0, a1, ()) = r_laws_eqIntS N a0 a1 := by kernel_rfl
theorem L49 (N : Nat) : LoopsOk N (E49) (A49 N) Go.Proofs.Try.f49.ntmps (retOf (E49) Go.Proofs.Try.f49 .bool) (loopsOf (Go.Proofs.Try.f49.body.getD .skip)) :=
  LoopsOk.of (l := [(0, lb Go.Proofs.Try.f49 0)]) (by kernel_rfl) (.cons (L := ⟨[(0, .ro none (.slice (.num .i64))), (1, .ro none (.slice (.num .i64))), (5, .ro none (.num .i64))], r_laws_eqIntS_L0 N⟩) (by kernel_rfl) (by intro s kc ke env; kernel_rfl) .nil)
theorem There49 : There Go.Proofs.Try.prog 49 := ⟨_, Go.Proofs.Try.func49, by kernel_rfl, by kernel_rfl⟩
theorem C49 {f : ((List Int) × (List Int) × Unit → Option Bool)} (h : ∀ a0 a1 r, f (a0, a1, ()) = some r → ∃ N, r_laws_eqIntS N a0 a1 = some r) : Contract Go.Proofs.Try.prog 49 ⟨[(.slice int), (.slice int)], .bool, f⟩ := by
  refine contract (E := E49) (envOf table trivial trivial) mixed Go.Proofs.Try.func49 (c := Go.Proofs.Try.f49.body.getD .skip) (by kernel_rfl) (Nat.le_of_ble_eq_true (by kernel_rfl)) fun xs r hr => ?_
  obtain ⟨a0, a1, _⟩ := xs
  obtain ⟨N, hN⟩ := h _ _ r hr
  exact ⟨N, A49 N, L49 N, (K49 N a0 a1).trans hN⟩
theorem X49 : Contract Go.Proofs.Try.prog 49 ⟨[(.slice int), (.slice int)], .bool, e_laws_eqIntS⟩ := C49 fun _ _ _ h => ⟨N0, h⟩
-- laws_FnExactCircularMinor
def E14 (c_laws_szNet : ((Int × Int × Int × List (Int × Int × Int)) × Int × Unit → Option Int)) (c_laws_toNet : ((Int × Int × Int × List (Int × Int × Int)) × Unit → Option (Int × Int × Int × List (Int × Int × Int)))) (c_laws_toIntS : ((List Int) × Unit → Option (List Int))) (c_spec_CircularMinor : ((Int × Int × Int × List (Int × Int × Int)) × (List Int) × (List Int) × Unit → Option ((Int × Int) × Bool))) (c_impl_CircularMinor : ((Int × Int × Int × List (Int × Int × Int)) × (List Int) × (List Int) × Unit → Option ((Int × Int) × Bool))) (c_laws_eqRatio : ((Int × Int) × (Int × Int) × Unit → Option Bool)) (c_laws_eqNet : ((Int × Int × Int × List (Int × Int × Int)) × (Int × Int × Int × List (Int × Int × Int)) × Unit → Option Bool)) (c_laws_eqIntS : ((List Int) × (List Int) × Unit → Option Bool)) : Env := ⟨tys, [], [(15, ⟨[net, int], int, c_laws_szNet⟩), (17, ⟨[net], net, c_laws_toNet⟩), (46, ⟨[(.slice int)], (.slice int), c_laws_toIntS⟩), (56, ⟨[net, (.slice int), (.slice int)], (.tup ratio .bool), c_spec_CircularMinor⟩), (57, ⟨[net, (.slice int), (.slice int)], (.tup ratio .bool), c_impl_CircularMinor⟩), (55, ⟨[ratio, ratio], .bool, c_laws_eqRatio⟩), (20, ⟨[net, net], .bool, c_laws_eqNet⟩), (49, ⟨[(.slice int), (.slice int)], .bool, c_laws_eqIntS⟩)], []⟩
def A14 (_c_laws_szNet : ((Int × Int × Int × List (Int × Int × Int)) × Int × Unit → Option Int)) (_c_laws_toNet : ((Int × Int × Int × List (Int × Int × Int)) × Unit → Option (Int × Int × Int × List (Int × Int × Int)))) (_c_laws_toIntS : ((List Int) × Unit → Option (List Int))) (_c_spec_CircularMinor : ((Int × Int × Int × List (Int × Int × Int)) × (List Int) × (List Int) × Unit → Option ((Int × Int) × Bool))) (_c_impl_CircularMinor : ((Int × Int × Int × List (Int × Int × Int)) × (List Int) × (List Int) × Unit → Option ((Int × Int) × Bool))) (_c_laws_eqRatio : ((Int × Int) × (Int × Int) × Unit → Option Bool)) (_c_laws_eqNet : ((Int × Int × Int × List (Int × Int × Int)) × (Int × Int × Int × List (Int × Int × Int)) × Unit → Option Bool)) (_c_laws_eqIntS : ((List Int) × (List Int) × Unit → Option Bool)) (_N : Nat) : List (Nat × Loop (Ty.den .bool)) := []
theorem K14 (c_laws_szNet : ((Int × Int × Int × List (Int × Int × Int)) × Int × Unit → Option Int)) (c_laws_toNet : ((Int × Int × Int × List (Int × Int × Int)) × Unit → Option (Int × Int × Int × List (Int × Int × Int)))) (c_laws_toIntS : ((List Int) × Unit → Option (List Int))) (c_spec_CircularMinor : ((Int × Int × Int × List (Int × Int × Int)) × (List Int) × (List Int) × Unit → Option ((Int × Int) × Bool))) (c_impl_CircularMinor : ((Int × Int × Int × List (Int × Int × Int)) × (List Int) × (List Int) × Unit → Option ((Int × Int) × Bool))) (c_laws_eqRatio : ((Int × Int) × (Int × Int) × Unit → Option Bool)) (c_laws_eqNet : ((Int × Int × Int × List (Int × Int × Int)) × (Int × Int × Int × List (Int × Int × Int)) × Unit → Option Bool)) (c_laws_eqIntS : ((List Int) × (List Int) × Unit → Option Bool)) (N : Nat) (a0 : (Int × Int × Int × List (Int × Int × Int))) (a1 : (List Int)) (a2 : (List Int)) : fnK N (E14 c_laws_szNet c_laws_toNet c_laws_toIntS c_spec_CircularMinor c_impl_CircularMinor c_laws_eqRatio c_laws_eqNet c_laws_eqIntS) Go.Proofs.Try.f14 [net, (.slice int), (.slice int)] .bool (A14 c_laws_szNet c_laws_toNet c_laws_toIntS c_spec_CircularMinor c_impl_CircularMinor c_laws_eqRatio c_laws_eqNet c_laws_eqIntS N) (a0, a1, a2, ()) = r_laws_FnExactCircularMinor c_laws_szNet c_laws_toNet c_laws_toIntS c_spec_CircularMinor c_impl_CircularMinor c_laws_eqRatio c_laws_eqNet c_laws_eqIntS N a0 a1 a2 := by kernel_rfl
theorem L14 (c_laws_szNet : ((Int × Int × Int × List (Int × Int × Int)) × Int × Unit → Option Int)) (c_laws_toNet : ((Int × Int × Int × List (Int × Int × Int)) × Unit → Option (Int × Int × Int × List (Int × Int × Int)))) (c_laws_toIntS : ((List Int) × Unit → Option (List Int))) (c_spec_CircularMinor : ((Int × Int × Int × List (Int × Int × Int)) × (List Int) × (List Int) × Unit → Option ((Int × Int) × Bool))) (c_impl_CircularMinor : ((Int × Int × Int × List (Int × Int × Int)) × (List Int) × (List Int) × Unit → Option ((Int × Int) × Bool))) (c_laws_eqRatio : ((Int × Int) × (Int × Int) × Unit → Option Bool)) (c_laws_eqNet : ((Int × Int × Int × List (Int × Int × Int)) × (Int × Int × Int × List (Int × Int × Int)) × Unit → Option Bool)) (c_laws_eqIntS : ((List Int) × (List Int) × Unit → Option Bool)) (N : Nat) : LoopsOk N (E14 c_laws_szNet c_laws_toNet c_laws_toIntS c_spec_CircularMinor c_impl_CircularMinor c_laws_eqRatio c_laws_eqNet c_laws_eqIntS) (A14 c_laws_szNet c_laws_toNet c_laws_toIntS c_spec_CircularMinor c_impl_CircularMinor c_laws_eqRatio c_laws_eqNet c_laws_eqIntS N) Go.Proofs.Try.f14.ntmps (retOf (E14 c_laws_szNet c_laws_toNet c_laws_toIntS c_spec_CircularMinor c_impl_CircularMinor c_laws_eqRatio c_laws_eqNet c_laws_eqIntS) Go.Proofs.Try.f14 .bool) (loopsOf (Go.Proofs.Try.f14.body.getD .skip)) :=
  LoopsOk.of (l := []) (by kernel_rfl) .nil
theorem There14 : There Go.Proofs.Try.prog 14 := ⟨_, Go.Proofs.Try.func14, by kernel_rfl, by kernel_rfl⟩
theorem C14 {c_laws_szNet : ((Int × Int × Int × List (Int × Int × Int)) × Int × Unit → Option Int)} {c_laws_toNet : ((Int × Int × Int × List (Int × Int × Int)) × Unit → Option (Int × Int × Int × List (Int × Int × Int)))} {c_laws_toIntS : ((List Int) × Unit → Option (List Int))} {c_spec_CircularMinor : ((Int × Int × Int × List (Int × Int × Int)) × (List Int) × (List Int) × Unit → Option ((Int × Int) × Bool))} {c_impl_CircularMinor : ((Int × Int × Int × List (Int × Int × Int)) × (List Int) × (List Int) × Unit → Option ((Int × Int) × Bool))} {c_laws_eqRatio : ((Int × Int) × (Int × Int) × Unit → Option Bool)} {c_laws_eqNet : ((Int × Int × Int × List (Int × Int × Int)) × (Int × Int × Int × List (Int × Int × Int)) × Unit → Option Bool)} {c_laws_eqIntS : ((List Int) × (List Int) × Unit → Option Bool)} (h_c_laws_szNet : Contract Go.Proofs.Try.prog 15 ⟨[net, int], int, c_laws_szNet⟩) (h_c_laws_toNet : Contract Go.Proofs.Try.prog 17 ⟨[net], net, c_laws_toNet⟩) (h_c_laws_toIntS : Contract Go.Proofs.Try.prog 46 ⟨[(.slice int)], (.slice int), c_laws_toIntS⟩) (h_c_spec_CircularMinor : Contract Go.Proofs.Try.prog 56 ⟨[net, (.slice int), (.slice int)], (.tup ratio .bool), c_spec_CircularMinor⟩) (h_c_impl_CircularMinor : Contract Go.Proofs.Try.prog 57 ⟨[net, (.slice int), (.slice int)], (.tup ratio .bool), c_impl_CircularMinor⟩) (h_c_laws_eqRatio : Contract Go.Proofs.Try.prog 55 ⟨[ratio, ratio], .bool, c_laws_eqRatio⟩) (h_c_laws_eqNet : Contract Go.Proofs.Try.prog 20 ⟨[net, net], .bool, c_laws_eqNet⟩) (h_c_laws_eqIntS : Contract Go.Proofs.Try.prog 49 ⟨[(.slice int), (.slice int)], .bool, c_laws_eqIntS⟩) {f : ((Int × Int × Int × List (Int × Int × Int)) × (List Int) × (List Int) × Unit → Option Bool)} (h : ∀ a0 a1 a2 r, f (a0, a1, a2, ()) = some r → ∃ N, r_laws_FnExactCircularMinor c_laws_szNet c_laws_toNet c_laws_toIntS c_spec_CircularMinor c_impl_CircularMinor c_laws_eqRatio c_laws_eqNet c_laws_eqIntS N a0 a1 a2 = some r) : Contract Go.Proofs.Try.prog 14 ⟨[net, (.slice int), (.slice int)], .bool, f⟩ := by
  refine contract (E := E14 c_laws_szNet c_laws_toNet c_laws_toIntS c_spec_CircularMinor c_impl_CircularMinor c_laws_eqRatio c_laws_eqNet c_laws_eqIntS) (envOf table ⟨⟨h_c_laws_szNet, There15⟩, ⟨⟨h_c_laws_toNet, There17⟩, ⟨⟨h_c_laws_toIntS, There46⟩, ⟨⟨h_c_spec_CircularMinor, There56⟩, ⟨⟨h_c_impl_CircularMinor, There57⟩, ⟨⟨h_c_laws_eqRatio, There55⟩, ⟨⟨h_c_laws_eqNet, There20⟩, ⟨⟨h_c_laws_eqIntS, There49⟩, trivial⟩⟩⟩⟩⟩⟩⟩⟩ trivial) mixed Go.Proofs.Try.func14 (c := Go.Proofs.Try.f14.body.getD .skip) (by kernel_rfl) (Nat.le_of_ble_eq_true (by kernel_rfl)) fun xs r hr => ?_
  obtain ⟨a0, a1, a2, _⟩ := xs
  obtain ⟨N, hN⟩ := h _ _ _ r hr
  exact ⟨N, A14 c_laws_szNet c_laws_toNet c_laws_toIntS c_spec_CircularMinor c_impl_CircularMinor c_laws_eqRatio c_laws_eqNet c_laws_eqIntS N, L14 c_laws_szNet c_laws_toNet c_laws_toIntS c_spec_CircularMinor c_impl_CircularMinor c_laws_eqRatio c_laws_eqNet c_laws_eqIntS N, (K14 c_laws_szNet c_laws_toNet c_laws_toIntS c_spec_CircularMinor c_impl_CircularMinor c_laws_eqRatio c_laws_eqNet c_laws_eqIntS N a0 a1 a2).trans hN⟩
theorem X14 : Contract Go.Proofs.Try.prog 14 ⟨[net, (.slice int), (.slice int)], .bool, e_laws_FnExactCircularMinor⟩ := C14 X15 X17 X46 X56 X57 X55 X20 X49 fun _ _ _ _ h => ⟨N0, h⟩
end Go.Sx.S
