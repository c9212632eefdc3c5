/- The functions keep their contracts. Conditions: none. -/
import Derived.Test.YtfjnflohpmpoeaaRes
import Derived.Test.YtfjnflohpmpoeaaProg
/- The functions of the program compute what was printed. Conditions: none. -/
namespace Go.Sx.S
open Go Go.Sx Go.Sx.R
def int : Ty := .num .i64
def wire : Ty := .pair int (.pair int int)
def net : Ty := .pair int (.pair int (.pair int (.slice wire)))
def ratio : Ty := .pair int int
def fault : Ty := .pair int int

def tys : List (Nat × Ty) := [(3, int), (4, .bool), (5, (.num .u8)), (21, (.num .i32)), (22, (.slice wire)), (24, net), (26, fault), (28, (.slice wire)), (30, net), (34, fault), (39, (.slice fault)), (52, (.slice (.slice ratio))), (57, (.slice int)), (58, (.slice ratio)), (68, ratio), (77, wire), (87, (.slice (.slice int))), (105, wire), (107, (.slice .bool)), (114, (.num .u64)), (132, (.num .u32))]
theorem table (sp : List (Nat × FnSpec)) (mu : List (Nat × MutSpec)) : tableB Go.Proofs.Try.prog ⟨tys, [], sp, mu⟩ tys = true := by kernel_rfl
theorem mixed : Go.Proofs.Try.prog.follows .mixedOrders = true := by kernel_rfl
-- laws_szWireS
def E58 : Env := ⟨tys, [], [], []⟩
def A58 (_N : Nat) : List (Nat × Loop (Ty.den int)) := []
theorem K58 (N : Nat) (a0 : (List (Int × Int × Int))) (a1 : Int) : fnK N (E58) Go.Proofs.Try.f58 [(.slice wire), int] int (A58 N) (a0, a1, ()) = r_laws_szWireS N a0 a1 := by kernel_rfl
theorem L58 (N : Nat) : LoopsOk N (E58) (A58 N) Go.Proofs.Try.f58.ntmps (retOf (E58) Go.Proofs.Try.f58 int) (loopsOf (Go.Proofs.Try.f58.body.getD .skip)) :=
  LoopsOk.of (l := []) (by kernel_rfl) .nil
theorem There58 : There Go.Proofs.Try.prog 58 := ⟨_, Go.Proofs.Try.func58, by kernel_rfl, by kernel_rfl⟩
theorem C58 {f : ((List (Int × Int × Int)) × Int × Unit → Option Int)} (h : ∀ a0 a1 r, f (a0, a1, ()) = some r → ∃ N, r_laws_szWireS N a0 a1 = some r) : Contract Go.Proofs.Try.prog 58 ⟨[(.slice wire), int], int, f⟩ := by
  refine contract (E := E58) (envOf table trivial trivial) mixed Go.Proofs.Try.func58 (c := Go.Proofs.Try.f58.body.getD .skip) (by kernel_rfl) (Nat.le_of_ble_eq_true (by kernel_rfl)) fun xs r hr => ?_
  obtain ⟨a0, a1, _⟩ := xs
  obtain ⟨N, hN⟩ := h _ _ r hr
  exact ⟨N, A58 N, L58 N, (K58 N a0 a1).trans hN⟩
theorem X58 : Contract Go.Proofs.Try.prog 58 ⟨[(.slice wire), int], int, e_laws_szWireS⟩ := C58 fun _ _ _ h => ⟨N0, h⟩
-- laws_szNet
def E15 (c_laws_szWireS : ((List (Int × Int × Int)) × Int × Unit → Option Int)) : Env := ⟨tys, [], [(58, ⟨[(.slice wire), int], int, c_laws_szWireS⟩)], []⟩
def A15 (_c_laws_szWireS : ((List (Int × Int × Int)) × Int × Unit → Option Int)) (_N : Nat) : List (Nat × Loop (Ty.den int)) := []
theorem K15 (c_laws_szWireS : ((List (Int × Int × Int)) × Int × Unit → Option Int)) (N : Nat) (a0 : (Int × Int × Int × List (Int × Int × Int))) (a1 : Int) : fnK N (E15 c_laws_szWireS) Go.Proofs.Try.f15 [net, int] int (A15 c_laws_szWireS N) (a0, a1, ()) = r_laws_szNet c_laws_szWireS N a0 a1 := by kernel_rfl
theorem L15 (c_laws_szWireS : ((List (Int × Int × Int)) × Int × Unit → Option Int)) (N : Nat) : LoopsOk N (E15 c_laws_szWireS) (A15 c_laws_szWireS N) Go.Proofs.Try.f15.ntmps (retOf (E15 c_laws_szWireS) Go.Proofs.Try.f15 int) (loopsOf (Go.Proofs.Try.f15.body.getD .skip)) :=
  LoopsOk.of (l := []) (by kernel_rfl) .nil
theorem There15 : There Go.Proofs.Try.prog 15 := ⟨_, Go.Proofs.Try.func15, by kernel_rfl, by kernel_rfl⟩
theorem C15 {c_laws_szWireS : ((List (Int × Int × Int)) × Int × Unit → Option Int)} (h_c_laws_szWireS : Contract Go.Proofs.Try.prog 58 ⟨[(.slice wire), int], int, c_laws_szWireS⟩) {f : ((Int × Int × Int × List (Int × Int × Int)) × Int × Unit → Option Int)} (h : ∀ a0 a1 r, f (a0, a1, ()) = some r → ∃ N, r_laws_szNet c_laws_szWireS N a0 a1 = some r) : Contract Go.Proofs.Try.prog 15 ⟨[net, int], int, f⟩ := by
  refine contract (E := E15 c_laws_szWireS) (envOf table ⟨⟨h_c_laws_szWireS, There58⟩, trivial⟩ trivial) mixed Go.Proofs.Try.func15 (c := Go.Proofs.Try.f15.body.getD .skip) (by kernel_rfl) (Nat.le_of_ble_eq_true (by kernel_rfl)) fun xs r hr => ?_
  obtain ⟨a0, a1, _⟩ := xs
  obtain ⟨N, hN⟩ := h _ _ r hr
  exact ⟨N, A15 c_laws_szWireS N, L15 c_laws_szWireS N, (K15 c_laws_szWireS N a0 a1).trans hN⟩
theorem X15 : Contract Go.Proofs.Try.prog 15 ⟨[net, int], int, e_laws_szNet⟩ := C15 X58 fun _ _ _ h => ⟨N0, h⟩
-- laws_toWire
def E102 : Env := ⟨tys, [], [], []⟩
def A102 (_N : Nat) : List (Nat × Loop (Ty.den wire)) := []
theorem K102 (N : Nat) (a0 : (Int × Int × Int)) : fnK N (E102) Go.Proofs.Try.f102 [wire] wire (A102 N) (a0, ()) = r_laws_toWire N a0 := by kernel_rfl
theorem L102 (N : Nat) : LoopsOk N (E102) (A102 N) Go.Proofs.Try.f102.ntmps (retOf (E102) Go.Proofs.Try.f102 wire) (loopsOf (Go.Proofs.Try.f102.body.getD .skip)) :=
  LoopsOk.of (l := []) (by kernel_rfl) .nil
theorem There102 : There Go.Proofs.Try.prog 102 := ⟨_, Go.Proofs.Try.func102, by kernel_rfl, by kernel_rfl⟩
theorem C102 {f : ((Int × Int × Int) × Unit → Option (Int × Int × Int))} (h : ∀ a0 r, f (a0, ()) = some r → ∃ N, r_laws_toWire N a0 = some r) : Contract Go.Proofs.Try.prog 102 ⟨[wire], wire, f⟩ := by
  refine contract (E := E102) (envOf table trivial trivial) mixed Go.Proofs.Try.func102 (c := Go.Proofs.Try.f102.body.getD .skip) (by kernel_rfl) (Nat.le_of_ble_eq_true (by kernel_rfl)) fun xs r hr => ?_
  obtain ⟨a0, _⟩ := xs
  obtain ⟨N, hN⟩ := h _ r hr
  exact ⟨N, A102 N, L102 N, (K102 N a0).trans hN⟩
theorem X102 : Contract Go.Proofs.Try.prog 102 ⟨[wire], wire, e_laws_toWire⟩ := C102 fun _ _ h => ⟨N0, h⟩
-- laws_toWireS
def E63 (c_laws_toWire : ((Int × Int × Int) × Unit → Option (Int × Int × Int))) : Env := ⟨tys, [], [(102, ⟨[wire], wire, c_laws_toWire⟩)], []⟩
def A63 (c_laws_toWire : ((Int × Int × Int) × Unit → Option (Int × Int × Int))) (N : Nat) : List (Nat × Loop (Ty.den (.slice wire))) := [(0, ⟨[(0, .ro none (.slice (.pair (.num .i64) (.pair (.num .i64) (.num .i64))))), (3, .own (.slice (.pair (.num .i64) (.pair (.num .i64) (.num .i64))))), (4, .ro none (.num .i64))], r_laws_toWireS_L0 c_laws_toWire N⟩)]
theorem K63 (c_laws_toWire : ((Int × Int × Int) × Unit → Option (Int × Int × Int))) (N : Nat) (a0 : (List (Int × Int × Int))) : fnK N (E63 c_laws_toWire) Go.Proofs.Try.f63 [(.slice wire)] (.slice wire) (A63 c_laws_toWire N) (a0, ()) = r_laws_toWireS c_laws_toWire N a0 := by kernel_rfl
theorem L63 (c_laws_toWire : ((Int × Int × Int) × Unit → Option (Int × Int × Int))) (N : Nat) : LoopsOk N (E63 c_laws_toWire) (A63 c_laws_toWire N) Go.Proofs.Try.f63.ntmps (retOf (E63 c_laws_toWire) Go.Proofs.Try.f63 (.slice wire)) (loopsOf (Go.Proofs.Try.f63.body.getD .skip)) :=
  LoopsOk.of (l := [(0, lb Go.Proofs.Try.f63 0)]) (by kernel_rfl) (.cons (L := ⟨[(0, .ro none (.slice (.pair (.num .i64) (.pair (.num .i64) (.num .i64))))), (3, .own (.slice (.pair (.num .i64) (.pair (.num .i64) (.num .i64))))), (4, .ro none (.num .i64))], r_laws_toWireS_L0 c_laws_toWire N⟩) (by kernel_rfl) (by intro s kc ke env; kernel_rfl) .nil)
theorem There63 : There Go.Proofs.Try.prog 63 := ⟨_, Go.Proofs.Try.func63, by kernel_rfl, by kernel_rfl⟩
theorem C63 {c_laws_toWire : ((Int × Int × Int) × Unit → Option (Int × Int × Int))} (h_c_laws_toWire : Contract Go.Proofs.Try.prog 102 ⟨[wire], wire, c_laws_toWire⟩) {f : ((List (Int × Int × Int)) × Unit → Option (List (Int × Int × Int)))} (h : ∀ a0 r, f (a0, ()) = some r → ∃ N, r_laws_toWireS c_laws_toWire N a0 = some r) : Contract Go.Proofs.Try.prog 63 ⟨[(.slice wire)], (.slice wire), f⟩ := by
  refine contract (E := E63 c_laws_toWire) (envOf table ⟨⟨h_c_laws_toWire, There102⟩, trivial⟩ trivial) mixed Go.Proofs.Try.func63 (c := Go.Proofs.Try.f63.body.getD .skip) (by kernel_rfl) (Nat.le_of_ble_eq_true (by kernel_rfl)) fun xs r hr => ?_
  obtain ⟨a0, _⟩ := xs
  obtain ⟨N, hN⟩ := h _ r hr
  exact ⟨N, A63 c_laws_toWire N, L63 c_laws_toWire N, (K63 c_laws_toWire N a0).trans hN⟩
theorem X63 : Contract Go.Proofs.Try.prog 63 ⟨[(.slice wire)], (.slice wire), e_laws_toWireS⟩ := C63 X102 fun _ _ h => ⟨N0, h⟩
-- laws_toNet
def E17 (c_laws_toWireS : ((List (Int × Int × Int)) × Unit → Option (List (Int × Int × Int)))) : Env := ⟨tys, [], [(63, ⟨[(.slice wire)], (.slice wire), c_laws_toWireS⟩)], []⟩
def A17 (_c_laws_toWireS : ((List (Int × Int × Int)) × Unit → Option (List (Int × Int × Int)))) (_N : Nat) : List (Nat × Loop (Ty.den net)) := []
theorem K17 (c_laws_toWireS : ((List (Int × Int × Int)) × Unit → Option (List (Int × Int × Int)))) (N : Nat) (a0 : (Int × Int × Int × List (Int × Int × Int))) : fnK N (E17 c_laws_toWireS) Go.Proofs.Try.f17 [net] net (A17 c_laws_toWireS N) (a0, ()) = r_laws_toNet c_laws_toWireS N a0 := by kernel_rfl
theorem L17 (c_laws_toWireS : ((List (Int × Int × Int)) × Unit → Option (List (Int × Int × Int)))) (N : Nat) : LoopsOk N (E17 c_laws_toWireS) (A17 c_laws_toWireS N) Go.Proofs.Try.f17.ntmps (retOf (E17 c_laws_toWireS) Go.Proofs.Try.f17 net) (loopsOf (Go.Proofs.Try.f17.body.getD .skip)) :=
  LoopsOk.of (l := []) (by kernel_rfl) .nil
theorem There17 : There Go.Proofs.Try.prog 17 := ⟨_, Go.Proofs.Try.func17, by kernel_rfl, by kernel_rfl⟩
theorem C17 {c_laws_toWireS : ((List (Int × Int × Int)) × Unit → Option (List (Int × Int × Int)))} (h_c_laws_toWireS : Contract Go.Proofs.Try.prog 63 ⟨[(.slice wire)], (.slice wire), c_laws_toWireS⟩) {f : ((Int × Int × Int × List (Int × Int × Int)) × Unit → Option (Int × Int × Int × List (Int × Int × Int)))} (h : ∀ a0 r, f (a0, ()) = some r → ∃ N, r_laws_toNet c_laws_toWireS N a0 = some r) : Contract Go.Proofs.Try.prog 17 ⟨[net], net, f⟩ := by
  refine contract (E := E17 c_laws_toWireS) (envOf table ⟨⟨h_c_laws_toWireS, There63⟩, trivial⟩ trivial) mixed Go.Proofs.Try.func17 (c := Go.Proofs.Try.f17.body.getD .skip) (by kernel_rfl) (Nat.le_of_ble_eq_true (by kernel_rfl)) fun xs r hr => ?_
  obtain ⟨a0, _⟩ := xs
  obtain ⟨N, hN⟩ := h _ r hr
  exact ⟨N, A17 c_laws_toWireS N, L17 c_laws_toWireS N, (K17 c_laws_toWireS N a0).trans hN⟩
theorem X17 : Contract Go.Proofs.Try.prog 17 ⟨[net], net, e_laws_toNet⟩ := C17 X63 fun _ _ h => ⟨N0, h⟩
-- laws_toFault
def E18 : Env := ⟨tys, [], [], []⟩
def A18 (_N : Nat) : List (Nat × Loop (Ty.den fault)) := []
theorem K18 (N : Nat) (a0 : (Int × Int)) : fnK N (E18) Go.Proofs.Try.f18 [fault] fault (A18 N) (a0, ()) = r_laws_toFault N a0 := by kernel_rfl
theorem L18 (N : Nat) : LoopsOk N (E18) (A18 N) Go.Proofs.Try.f18.ntmps (retOf (E18) Go.Proofs.Try.f18 fault) (loopsOf (Go.Proofs.Try.f18.body.getD .skip)) :=
  LoopsOk.of (l := []) (by kernel_rfl) .nil
theorem There18 : There Go.Proofs.Try.prog 18 := ⟨_, Go.Proofs.Try.func18, by kernel_rfl, by kernel_rfl⟩
theorem C18 {f : ((Int × Int) × Unit → Option (Int × Int))} (h : ∀ a0 r, f (a0, ()) = some r → ∃ N, r_laws_toFault N a0 = some r) : Contract Go.Proofs.Try.prog 18 ⟨[fault], fault, f⟩ := by
  refine contract (E := E18) (envOf table trivial trivial) mixed Go.Proofs.Try.func18 (c := Go.Proofs.Try.f18.body.getD .skip) (by kernel_rfl) (Nat.le_of_ble_eq_true (by kernel_rfl)) fun xs r hr => ?_
  obtain ⟨a0, _⟩ := xs
  obtain ⟨N, hN⟩ := h _ r hr
  exact ⟨N, A18 N, L18 N, (K18 N a0).trans hN⟩
theorem X18 : Contract Go.Proofs.Try.prog 18 ⟨[fault], fault, e_laws_toFault⟩ := C18 fun _ _ h => ⟨N0, h⟩
-- spec_l01In
def E60 : Env := ⟨tys, [], [], []⟩
def A60 (_N : Nat) : List (Nat × Loop (Ty.den .bool)) := []
theorem K60 (N : Nat) (a0 : Int) (a1 : Int) (a2 : Int) : fnK N (E60) Go.Proofs.Try.f60 [int, int, int] .bool (A60 N) (a0, a1, a2, ()) = r_spec_l01In N a0 a1 a2 := by kernel_rfl
theorem L60 (N : Nat) : LoopsOk N (E60) (A60 N) Go.Proofs.Try.f60.ntmps (retOf (E60) Go.Proofs.Try.f60 .bool) (loopsOf (Go.Proofs.Try.f60.body.getD .skip)) :=
  LoopsOk.of (l := []) (by kernel_rfl) .nil
theorem There60 : There Go.Proofs.Try.prog 60 := ⟨_, Go.Proofs.Try.func60, by kernel_rfl, by kernel_rfl⟩
theorem C60 {f : (Int × Int × Int × Unit → Option Bool)} (h : ∀ a0 a1 a2 r, f (a0, a1, a2, ()) = some r → ∃ N, r_spec_l01In N a0 a1 a2 = some r) : Contract Go.Proofs.Try.prog 60 ⟨[int, int, int], .bool, f⟩ := by
  refine contract (E := E60) (envOf table trivial trivial) mixed Go.Proofs.Try.func60 (c := Go.Proofs.Try.f60.body.getD .skip) (by kernel_rfl) (Nat.le_of_ble_eq_true (by kernel_rfl)) fun xs r hr => ?_
  obtain ⟨a0, a1, a2, _⟩ := xs
  obtain ⟨N, hN⟩ := h _ _ _ r hr
  exact ⟨N, A60 N, L60 N, (K60 N a0 a1 a2).trans hN⟩
theorem X60 : Contract Go.Proofs.Try.prog 60 ⟨[int, int, int], .bool, e_spec_l01In⟩ := C60 fun _ _ _ _ h => ⟨N0, h⟩
-- spec_l03Has
def E125 : Env := ⟨tys, [], [], []⟩
def A125 (N : Nat) : List (Nat × Loop (Ty.den .bool)) := [(0, ⟨[(1, .ro none (.num .i64)), (7, .ro none (.slice (.num .i64))), (8, .ro none (.num .i64)), (9, .ro none (.num .i64))], r_spec_l03Has_L0 N⟩)]
theorem K125 (N : Nat) (a0 : (List Int)) (a1 : Int) : fnK N (E125) Go.Proofs.Try.f125 [(.slice int), int] .bool (A125 N) (a0, a1, ()) = r_spec_l03Has N a0 a1 := by kernel_rfl
theorem L125 (N : Nat) : LoopsOk N (E125) (A125 N) Go.Proofs.Try.f125.ntmps (retOf (E125) Go.Proofs.Try.f125 .bool) (loopsOf (Go.Proofs.Try.f125.body.getD .skip)) :=
  LoopsOk.of (l := [(0, lb Go.Proofs.Try.f125 0)]) (by kernel_rfl) (.cons (L := ⟨[(1, .ro none (.num .i64)), (7, .ro none (.slice (.num .i64))), (8, .ro none (.num .i64)), (9, .ro none (.num .i64))], r_spec_l03Has_L0 N⟩) (by kernel_rfl) (by intro s kc ke env; kernel_rfl) .nil)
theorem There125 : There Go.Proofs.Try.prog 125 := ⟨_, Go.Proofs.Try.func125, by kernel_rfl, by kernel_rfl⟩
theorem C125 {f : ((List Int) × Int × Unit → Option Bool)} (h : ∀ a0 a1 r, f (a0, a1, ()) = some r → ∃ N, r_spec_l03Has N a0 a1 = some r) : Contract Go.Proofs.Try.prog 125 ⟨[(.slice int), int], .bool, f⟩ := by
  refine contract (E := E125) (envOf table trivial trivial) mixed Go.Proofs.Try.func125 (c := Go.Proofs.Try.f125.body.getD .skip) (by kernel_rfl) (Nat.le_of_ble_eq_true (by kernel_rfl)) fun xs r hr => ?_
  obtain ⟨a0, a1, _⟩ := xs
  obtain ⟨N, hN⟩ := h _ _ r hr
  exact ⟨N, A125 N, L125 N, (K125 N a0 a1).trans hN⟩
theorem X125 : Contract Go.Proofs.Try.prog 125 ⟨[(.slice int), int], .bool, e_spec_l03Has⟩ := C125 fun _ _ _ h => ⟨N0, h⟩
-- spec_l03Reach
def E101 (c_spec_l03Has : ((List Int) × Int × Unit → Option Bool)) : Env := ⟨tys, [], [(125, ⟨[(.slice int), int], .bool, c_spec_l03Has⟩)], []⟩
def A101 (c_spec_l03Has : ((List Int) × Int × Unit → Option Bool)) (N : Nat) : List (Nat × Loop (Ty.den (.slice int))) := [(0, ⟨[(0, .ro none (.slice (.pair (.num .i64) (.pair (.num .i64) (.num .i64))))), (5, .own (.slice (.num .i64))), (6, .ro none (.num .i64))], r_spec_l03Reach_L0 c_spec_l03Has N⟩), (2, ⟨[(0, .ro none (.slice (.pair (.num .i64) (.pair (.num .i64) (.num .i64))))), (5, .own (.slice (.num .i64))), (6, .ro none (.num .i64)), (17, .ro none (.slice (.pair (.num .i64) (.pair (.num .i64) (.num .i64))))), (18, .ro none (.num .i64)), (19, .ro none (.num .i64))], r_spec_l03Reach_L2 c_spec_l03Has N⟩)]
theorem K101 (c_spec_l03Has : ((List Int) × Int × Unit → Option Bool)) (N : Nat) (a0 : (List (Int × Int × Int))) (a1 : Int) : fnK N (E101 c_spec_l03Has) Go.Proofs.Try.f101 [(.slice wire), int] (.slice int) (A101 c_spec_l03Has N) (a0, a1, ()) = r_spec_l03Reach c_spec_l03Has N a0 a1 := by kernel_rfl
theorem L101 (c_spec_l03Has : ((List Int) × Int × Unit → Option Bool)) (N : Nat) : LoopsOk N (E101 c_spec_l03Has) (A101 c_spec_l03Has N) Go.Proofs.Try.f101.ntmps (retOf (E101 c_spec_l03Has) Go.Proofs.Try.f101 (.slice int)) (loopsOf (Go.Proofs.Try.f101.body.getD .skip)) :=
  LoopsOk.of (l := [(0, lb Go.Proofs.Try.f101 0), (2, lb Go.Proofs.Try.f101 1)]) (by kernel_rfl) (.cons (L := ⟨[(0, .ro none (.slice (.pair (.num .i64) (.pair (.num .i64) (.num .i64))))), (5, .own (.slice (.num .i64))), (6, .ro none (.num .i64))], r_spec_l03Reach_L0 c_spec_l03Has N⟩) (by kernel_rfl) (by intro s kc ke env; kernel_rfl) (.cons (L := ⟨[(0, .ro none (.slice (.pair (.num .i64) (.pair (.num .i64) (.num .i64))))), (5, .own (.slice (.num .i64))), (6, .ro none (.num .i64)), (17, .ro none (.slice (.pair (.num .i64) (.pair (.num .i64) (.num .i64))))), (18, .ro none (.num .i64)), (19, .ro none (.num .i64))], r_spec_l03Reach_L2 c_spec_l03Has N⟩) (by kernel_rfl) (by intro s kc ke env; kernel_rfl) .nil))
theorem There101 : There Go.Proofs.Try.prog 101 := ⟨_, Go.Proofs.Try.func101, by kernel_rfl, by kernel_rfl⟩
theorem C101 {c_spec_l03Has : ((List Int) × Int × Unit → Option Bool)} (h_c_spec_l03Has : Contract Go.Proofs.Try.prog 125 ⟨[(.slice int), int], .bool, c_spec_l03Has⟩) {f : ((List (Int × Int × Int)) × Int × Unit → Option (List Int))} (h : ∀ a0 a1 r, f (a0, a1, ()) = some r → ∃ N, r_spec_l03Reach c_spec_l03Has N a0 a1 = some r) : Contract Go.Proofs.Try.prog 101 ⟨[(.slice wire), int], (.slice int), f⟩ := by
  refine contract (E := E101 c_spec_l03Has) (envOf table ⟨⟨h_c_spec_l03Has, There125⟩, trivial⟩ trivial) mixed Go.Proofs.Try.func101 (c := Go.Proofs.Try.f101.body.getD .skip) (by kernel_rfl) (Nat.le_of_ble_eq_true (by kernel_rfl)) fun xs r hr => ?_
  obtain ⟨a0, a1, _⟩ := xs
  obtain ⟨N, hN⟩ := h _ _ r hr
  exact ⟨N, A101 c_spec_l03Has N, L101 c_spec_l03Has N, (K101 c_spec_l03Has N a0 a1).trans hN⟩
theorem X101 : Contract Go.Proofs.Try.prog 101 ⟨[(.slice wire), int], (.slice int), e_spec_l03Reach⟩ := C101 X125 fun _ _ _ h => ⟨N0, h⟩
-- spec_NetOk
def E59 (c_spec_l01In : (Int × Int × Int × Unit → Option Bool)) (c_spec_l03Reach : ((List (Int × Int × Int)) × Int × Unit → Option (List Int))) : Env := ⟨tys, [], [(60, ⟨[int, int, int], .bool, c_spec_l01In⟩), (101, ⟨[(.slice wire), int], (.slice int), c_spec_l03Reach⟩)], []⟩
def A59 (c_spec_l01In : (Int × Int × Int × Unit → Option Bool)) (c_spec_l03Reach : ((List (Int × Int × Int)) × Int × Unit → Option (List Int))) (N : Nat) : List (Nat × Loop (Ty.den .bool)) := [(0, ⟨[(1, .box false (.pair (.num .i64) (.pair (.num .i64) (.pair (.num .i64) (.slice (.pair (.num .i64) (.pair (.num .i64) (.num .i64)))))))), (24, .ro none (.slice (.pair (.num .i64) (.pair (.num .i64) (.num .i64))))), (25, .ro none (.num .i64)), (26, .ro none (.num .i64))], r_spec_NetOk_L0 c_spec_l01In c_spec_l03Reach N⟩)]
theorem K59 (c_spec_l01In : (Int × Int × Int × Unit → Option Bool)) (c_spec_l03Reach : ((List (Int × Int × Int)) × Int × Unit → Option (List Int))) (N : Nat) (a0 : (Int × Int × Int × List (Int × Int × Int))) : fnK N (E59 c_spec_l01In c_spec_l03Reach) Go.Proofs.Try.f59 [net] .bool (A59 c_spec_l01In c_spec_l03Reach N) (a0, ()) = r_spec_NetOk c_spec_l01In c_spec_l03Reach N a0 := by kernel_rfl
theorem L59 (c_spec_l01In : (Int × Int × Int × Unit → Option Bool)) (c_spec_l03Reach : ((List (Int × Int × Int)) × Int × Unit → Option (List Int))) (N : Nat) : LoopsOk N (E59 c_spec_l01In c_spec_l03Reach) (A59 c_spec_l01In c_spec_l03Reach N) Go.Proofs.Try.f59.ntmps (retOf (E59 c_spec_l01In c_spec_l03Reach) Go.Proofs.Try.f59 .bool) (loopsOf (Go.Proofs.Try.f59.body.getD .skip)) :=
  LoopsOk.of (l := [(0, lb Go.Proofs.Try.f59 0)]) (by kernel_rfl) (.cons (L := ⟨[(1, .box false (.pair (.num .i64) (.pair (.num .i64) (.pair (.num .i64) (.slice (.pair (.num .i64) (.pair (.num .i64) (.num .i64)))))))), (24, .ro none (.slice (.pair (.num .i64) (.pair (.num .i64) (.num .i64))))), (25, .ro none (.num .i64)), (26, .ro none (.num .i64))], r_spec_NetOk_L0 c_spec_l01In c_spec_l03Reach N⟩) (by kernel_rfl) (by intro s kc ke env; kernel_rfl) .nil)
theorem There59 : There Go.Proofs.Try.prog 59 := ⟨_, Go.Proofs.Try.func59, by kernel_rfl, by kernel_rfl⟩
theorem C59 {c_spec_l01In : (Int × Int × Int × Unit → Option Bool)} {c_spec_l03Reach : ((List (Int × Int × Int)) × Int × Unit → Option (List Int))} (h_c_spec_l01In : Contract Go.Proofs.Try.prog 60 ⟨[int, int, int], .bool, c_spec_l01In⟩) (h_c_spec_l03Reach : Contract Go.Proofs.Try.prog 101 ⟨[(.slice wire), int], (.slice int), c_spec_l03Reach⟩) {f : ((Int × Int × Int × List (Int × Int × Int)) × Unit → Option Bool)} (h : ∀ a0 r, f (a0, ()) = some r → ∃ N, r_spec_NetOk c_spec_l01In c_spec_l03Reach N a0 = some r) : Contract Go.Proofs.Try.prog 59 ⟨[net], .bool, f⟩ := by
  refine contract (E := E59 c_spec_l01In c_spec_l03Reach) (envOf table ⟨⟨h_c_spec_l01In, There60⟩, ⟨⟨h_c_spec_l03Reach, There101⟩, trivial⟩⟩ trivial) mixed Go.Proofs.Try.func59 (c := Go.Proofs.Try.f59.body.getD .skip) (by kernel_rfl) (Nat.le_of_ble_eq_true (by kernel_rfl)) fun xs r hr => ?_
  obtain ⟨a0, _⟩ := xs
  obtain ⟨N, hN⟩ := h _ r hr
  exact ⟨N, A59 c_spec_l01In c_spec_l03Reach N, L59 c_spec_l01In c_spec_l03Reach N, (K59 c_spec_l01In c_spec_l03Reach N a0).trans hN⟩
theorem X59 : Contract Go.Proofs.Try.prog 59 ⟨[net], .bool, e_spec_NetOk⟩ := C59 X60 X101 fun _ _ h => ⟨N0, h⟩
-- spec_l10Copy
def E61 : Env := ⟨tys, [], [], []⟩
def A61 (_N : Nat) : List (Nat × Loop (Ty.den net)) := []
theorem K61 (N : Nat) (a0 : (Int × Int × Int × List (Int × Int × Int))) : fnK N (E61) Go.Proofs.Try.f61 [net] net (A61 N) (a0, ()) = r_spec_l10Copy N a0 := by kernel_rfl
theorem L61 (N : Nat) : LoopsOk N (E61) (A61 N) Go.Proofs.Try.f61.ntmps (retOf (E61) Go.Proofs.Try.f61 net) (loopsOf (Go.Proofs.Try.f61.body.getD .skip)) :=
  LoopsOk.of (l := []) (by kernel_rfl) .nil
theorem There61 : There Go.Proofs.Try.prog 61 := ⟨_, Go.Proofs.Try.func61, by kernel_rfl, by kernel_rfl⟩
theorem C61 {f : ((Int × Int × Int × List (Int × Int × Int)) × Unit → Option (Int × Int × Int × List (Int × Int × Int)))} (h : ∀ a0 r, f (a0, ()) = some r → ∃ N, r_spec_l10Copy N a0 = some r) : Contract Go.Proofs.Try.prog 61 ⟨[net], net, f⟩ := by
  refine contract (E := E61) (envOf table trivial trivial) mixed Go.Proofs.Try.func61 (c := Go.Proofs.Try.f61.body.getD .skip) (by kernel_rfl) (Nat.le_of_ble_eq_true (by kernel_rfl)) fun xs r hr => ?_
  obtain ⟨a0, _⟩ := xs
  obtain ⟨N, hN⟩ := h _ r hr
  exact ⟨N, A61 N, L61 N, (K61 N a0).trans hN⟩
theorem X61 : Contract Go.Proofs.Try.prog 61 ⟨[net], net, e_spec_l10Copy⟩ := C61 fun _ _ h => ⟨N0, h⟩
-- spec_l03Drop
def E62 : Env := ⟨tys, [], [], []⟩
def A62 (N : Nat) : List (Nat × Loop (Ty.den (.slice wire))) := [(0, ⟨[(3, .own (.slice (.pair (.num .i64) (.pair (.num .i64) (.num .i64))))), (7, .ro none (.slice (.pair (.num .i64) (.pair (.num .i64) (.num .i64))))), (8, .ro none (.num .i64)), (9, .ro none (.num .i64))], r_spec_l03Drop_L0 N⟩)]
theorem K62 (N : Nat) (a0 : (List (Int × Int × Int))) : fnK N (E62) Go.Proofs.Try.f62 [(.slice wire)] (.slice wire) (A62 N) (a0, ()) = r_spec_l03Drop N a0 := by kernel_rfl
theorem L62 (N : Nat) : LoopsOk N (E62) (A62 N) Go.Proofs.Try.f62.ntmps (retOf (E62) Go.Proofs.Try.f62 (.slice wire)) (loopsOf (Go.Proofs.Try.f62.body.getD .skip)) :=
  LoopsOk.of (l := [(0, lb Go.Proofs.Try.f62 0)]) (by kernel_rfl) (.cons (L := ⟨[(3, .own (.slice (.pair (.num .i64) (.pair (.num .i64) (.num .i64))))), (7, .ro none (.slice (.pair (.num .i64) (.pair (.num .i64) (.num .i64))))), (8, .ro none (.num .i64)), (9, .ro none (.num .i64))], r_spec_l03Drop_L0 N⟩) (by kernel_rfl) (by intro s kc ke env; kernel_rfl) .nil)
theorem There62 : There Go.Proofs.Try.prog 62 := ⟨_, Go.Proofs.Try.func62, by kernel_rfl, by kernel_rfl⟩
theorem C62 {f : ((List (Int × Int × Int)) × Unit → Option (List (Int × Int × Int)))} (h : ∀ a0 r, f (a0, ()) = some r → ∃ N, r_spec_l03Drop N a0 = some r) : Contract Go.Proofs.Try.prog 62 ⟨[(.slice wire)], (.slice wire), f⟩ := by
  refine contract (E := E62) (envOf table trivial trivial) mixed Go.Proofs.Try.func62 (c := Go.Proofs.Try.f62.body.getD .skip) (by kernel_rfl) (Nat.le_of_ble_eq_true (by kernel_rfl)) fun xs r hr => ?_
  obtain ⟨a0, _⟩ := xs
  obtain ⟨N, hN⟩ := h _ r hr
  exact ⟨N, A62 N, L62 N, (K62 N a0).trans hN⟩
theorem X62 : Contract Go.Proofs.Try.prog 62 ⟨[(.slice wire)], (.slice wire), e_spec_l03Drop⟩ := C62 fun _ _ h => ⟨N0, h⟩
-- spec_ApplyFault
def E16 (c_spec_NetOk : ((Int × Int × Int × List (Int × Int × Int)) × Unit → Option Bool)) (c_spec_l01In : (Int × Int × Int × Unit → Option Bool)) (c_spec_l10Copy : ((Int × Int × Int × List (Int × Int × Int)) × Unit → Option (Int × Int × Int × List (Int × Int × Int)))) (c_spec_l03Drop : ((List (Int × Int × Int)) × Unit → Option (List (Int × Int × Int)))) : Env := ⟨tys, [], [(59, ⟨[net], .bool, c_spec_NetOk⟩), (60, ⟨[int, int, int], .bool, c_spec_l01In⟩), (61, ⟨[net], net, c_spec_l10Copy⟩), (62, ⟨[(.slice wire)], (.slice wire), c_spec_l03Drop⟩)], []⟩
def A16 (_c_spec_NetOk : ((Int × Int × Int × List (Int × Int × Int)) × Unit → Option Bool)) (_c_spec_l01In : (Int × Int × Int × Unit → Option Bool)) (_c_spec_l10Copy : ((Int × Int × Int × List (Int × Int × Int)) × Unit → Option (Int × Int × Int × List (Int × Int × Int)))) (_c_spec_l03Drop : ((List (Int × Int × Int)) × Unit → Option (List (Int × Int × Int)))) (_N : Nat) : List (Nat × Loop (Ty.den (.tup net .bool))) := []
theorem K16 (c_spec_NetOk : ((Int × Int × Int × List (Int × Int × Int)) × Unit → Option Bool)) (c_spec_l01In : (Int × Int × Int × Unit → Option Bool)) (c_spec_l10Copy : ((Int × Int × Int × List (Int × Int × Int)) × Unit → Option (Int × Int × Int × List (Int × Int × Int)))) (c_spec_l03Drop : ((List (Int × Int × Int)) × Unit → Option (List (Int × Int × Int)))) (N : Nat) (a0 : (Int × Int × Int × List (Int × Int × Int))) (a1 : (Int × Int)) : fnK N (E16 c_spec_NetOk c_spec_l01In c_spec_l10Copy c_spec_l03Drop) Go.Proofs.Try.f16 [net, fault] (.tup net .bool) (A16 c_spec_NetOk c_spec_l01In c_spec_l10Copy c_spec_l03Drop N) (a0, a1, ()) = r_spec_ApplyFault c_spec_NetOk c_spec_l01In c_spec_l10Copy c_spec_l03Drop N a0 a1 := by kernel_rfl
theorem L16 (c_spec_NetOk : ((Int × Int × Int × List (Int × Int × Int)) × Unit → Option Bool)) (c_spec_l01In : (Int × Int × Int × Unit → Option Bool)) (c_spec_l10Copy : ((Int × Int × Int × List (Int × Int × Int)) × Unit → Option (Int × Int × Int × List (Int × Int × Int)))) (c_spec_l03Drop : ((List (Int × Int × Int)) × Unit → Option (List (Int × Int × Int)))) (N : Nat) : LoopsOk N (E16 c_spec_NetOk c_spec_l01In c_spec_l10Copy c_spec_l03Drop) (A16 c_spec_NetOk c_spec_l01In c_spec_l10Copy c_spec_l03Drop N) Go.Proofs.Try.f16.ntmps (retOf (E16 c_spec_NetOk c_spec_l01In c_spec_l10Copy c_spec_l03Drop) Go.Proofs.Try.f16 (.tup net .bool)) (loopsOf (Go.Proofs.Try.f16.body.getD .skip)) :=
  LoopsOk.of (l := []) (by kernel_rfl) .nil
theorem There16 : There Go.Proofs.Try.prog 16 := ⟨_, Go.Proofs.Try.func16, by kernel_rfl, by kernel_rfl⟩
theorem C16 {c_spec_NetOk : ((Int × Int × Int × List (Int × Int × Int)) × Unit → Option Bool)} {c_spec_l01In : (Int × Int × Int × Unit → Option Bool)} {c_spec_l10Copy : ((Int × Int × Int × List (Int × Int × Int)) × Unit → Option (Int × Int × Int × List (Int × Int × Int)))} {c_spec_l03Drop : ((List (Int × Int × Int)) × Unit → Option (List (Int × Int × Int)))} (h_c_spec_NetOk : Contract Go.Proofs.Try.prog 59 ⟨[net], .bool, c_spec_NetOk⟩) (h_c_spec_l01In : Contract Go.Proofs.Try.prog 60 ⟨[int, int, int], .bool, c_spec_l01In⟩) (h_c_spec_l10Copy : Contract Go.Proofs.Try.prog 61 ⟨[net], net, c_spec_l10Copy⟩) (h_c_spec_l03Drop : Contract Go.Proofs.Try.prog 62 ⟨[(.slice wire)], (.slice wire), c_spec_l03Drop⟩) {f : ((Int × Int × Int × List (Int × Int × Int)) × (Int × Int) × Unit → Option ((Int × Int × Int × List (Int × Int × Int)) × Bool))} (h : ∀ a0 a1 r, f (a0, a1, ()) = some r → ∃ N, r_spec_ApplyFault c_spec_NetOk c_spec_l01In c_spec_l10Copy c_spec_l03Drop N a0 a1 = some r) : Contract Go.Proofs.Try.prog 16 ⟨[net, fault], (.tup net .bool), f⟩ := by
  refine contract (E := E16 c_spec_NetOk c_spec_l01In c_spec_l10Copy c_spec_l03Drop) (envOf table ⟨⟨h_c_spec_NetOk, There59⟩, ⟨⟨h_c_spec_l01In, There60⟩, ⟨⟨h_c_spec_l10Copy, There61⟩, ⟨⟨h_c_spec_l03Drop, There62⟩, trivial⟩⟩⟩⟩ trivial) mixed Go.Proofs.Try.func16 (c := Go.Proofs.Try.f16.body.getD .skip) (by kernel_rfl) (Nat.le_of_ble_eq_true (by kernel_rfl)) fun xs r hr => ?_
  obtain ⟨a0, a1, _⟩ := xs
  obtain ⟨N, hN⟩ := h _ _ r hr
  exact ⟨N, A16 c_spec_NetOk c_spec_l01In c_spec_l10Copy c_spec_l03Drop N, L16 c_spec_NetOk c_spec_l01In c_spec_l10Copy c_spec_l03Drop N, (K16 c_spec_NetOk c_spec_l01In c_spec_l10Copy c_spec_l03Drop N a0 a1).trans hN⟩
theorem X16 : Contract Go.Proofs.Try.prog 16 ⟨[net, fault], (.tup net .bool), e_spec_ApplyFault⟩ := C16 X59 X60 X61 X62 fun _ _ _ h => ⟨N0, h⟩
-- slices_Index_bool
def E130 : Env := ⟨tys, [], [], []⟩
def A130 (N : Nat) : List (Nat × Loop (Ty.den int)) := [(0, ⟨[(0, .ro none (.slice .bool)), (1, .ro none .bool), (7, .ro none (.num .i64)), (8, .ro none (.num .i64))], r_slices_Index_bool_L0 N⟩)]
theorem K130 (N : Nat) (a0 : (List Bool)) (a1 : Bool) : fnK N (E130) Go.Proofs.Try.f130 [(.slice .bool), .bool] int (A130 N) (a0, a1, ()) = r_slices_Index_bool N a0 a1 := by kernel_rfl
theorem L130 (N : Nat) : LoopsOk N (E130) (A130 N) Go.Proofs.Try.f130.ntmps (retOf (E130) Go.Proofs.Try.f130 int) (loopsOf (Go.Proofs.Try.f130.body.getD .skip)) :=
  LoopsOk.of (l := [(0, lb Go.Proofs.Try.f130 0)]) (by kernel_rfl) (.cons (L := ⟨[(0, .ro none (.slice .bool)), (1, .ro none .bool), (7, .ro none (.num .i64)), (8, .ro none (.num .i64))], r_slices_Index_bool_L0 N⟩) (by kernel_rfl) (by intro s kc ke env; kernel_rfl) .nil)
theorem There130 : There Go.Proofs.Try.prog 130 := ⟨_, Go.Proofs.Try.func130, by kernel_rfl, by kernel_rfl⟩
theorem C130 {f : ((List Bool) × Bool × Unit → Option Int)} (h : ∀ a0 a1 r, f (a0, a1, ()) = some r → ∃ N, r_slices_Index_bool N a0 a1 = some r) : Contract Go.Proofs.Try.prog 130 ⟨[(.slice .bool), .bool], int, f⟩ := by
  refine contract (E := E130) (envOf table trivial trivial) mixed Go.Proofs.Try.func130 (c := Go.Proofs.Try.f130.body.getD .skip) (by kernel_rfl) (Nat.le_of_ble_eq_true (by kernel_rfl)) fun xs r hr => ?_
  obtain ⟨a0, a1, _⟩ := xs
  obtain ⟨N, hN⟩ := h _ _ r hr
  exact ⟨N, A130 N, L130 N, (K130 N a0 a1).trans hN⟩
theorem X130 : Contract Go.Proofs.Try.prog 130 ⟨[(.slice .bool), .bool], int, e_slices_Index_bool⟩ := C130 fun _ _ _ h => ⟨N0, h⟩
-- slices_Contains_bool
def E104 (c_slices_Index_bool : ((List Bool) × Bool × Unit → Option Int)) : Env := ⟨tys, [], [(130, ⟨[(.slice .bool), .bool], int, c_slices_Index_bool⟩)], []⟩
def A104 (_c_slices_Index_bool : ((List Bool) × Bool × Unit → Option Int)) (_N : Nat) : List (Nat × Loop (Ty.den .bool)) := []
theorem K104 (c_slices_Index_bool : ((List Bool) × Bool × Unit → Option Int)) (N : Nat) (a0 : (List Bool)) (a1 : Bool) : fnK N (E104 c_slices_Index_bool) Go.Proofs.Try.f104 [(.slice .bool), .bool] .bool (A104 c_slices_Index_bool N) (a0, a1, ()) = r_slices_Contains_bool c_slices_Index_bool N a0 a1 := by kernel_rfl
theorem L104 (c_slices_Index_bool : ((List Bool) × Bool × Unit → Option Int)) (N : Nat) : LoopsOk N (E104 c_slices_Index_bool) (A104 c_slices_Index_bool N) Go.Proofs.Try.f104.ntmps (retOf (E104 c_slices_Index_bool) Go.Proofs.Try.f104 .bool) (loopsOf (Go.Proofs.Try.f104.body.getD .skip)) :=
  LoopsOk.of (l := []) (by kernel_rfl) .nil
theorem There104 : There Go.Proofs.Try.prog 104 := ⟨_, Go.Proofs.Try.func104, by kernel_rfl, by kernel_rfl⟩
theorem C104 {c_slices_Index_bool : ((List Bool) × Bool × Unit → Option Int)} (h_c_slices_Index_bool : Contract Go.Proofs.Try.prog 130 ⟨[(.slice .bool), .bool], int, c_slices_Index_bool⟩) {f : ((List Bool) × Bool × Unit → Option Bool)} (h : ∀ a0 a1 r, f (a0, a1, ()) = some r → ∃ N, r_slices_Contains_bool c_slices_Index_bool N a0 a1 = some r) : Contract Go.Proofs.Try.prog 104 ⟨[(.slice .bool), .bool], .bool, f⟩ := by
  refine contract (E := E104 c_slices_Index_bool) (envOf table ⟨⟨h_c_slices_Index_bool, There130⟩, trivial⟩ trivial) mixed Go.Proofs.Try.func104 (c := Go.Proofs.Try.f104.body.getD .skip) (by kernel_rfl) (Nat.le_of_ble_eq_true (by kernel_rfl)) fun xs r hr => ?_
  obtain ⟨a0, a1, _⟩ := xs
  obtain ⟨N, hN⟩ := h _ _ r hr
  exact ⟨N, A104 c_slices_Index_bool N, L104 c_slices_Index_bool N, (K104 c_slices_Index_bool N a0 a1).trans hN⟩
theorem X104 : Contract Go.Proofs.Try.prog 104 ⟨[(.slice .bool), .bool], .bool, e_slices_Contains_bool⟩ := C104 X130 fun _ _ _ h => ⟨N0, h⟩
-- cmp_isNaN_int
def E133 : Env := ⟨tys, [], [], []⟩
def A133 (_N : Nat) : List (Nat × Loop (Ty.den .bool)) := []
theorem K133 (N : Nat) (a0 : Int) : fnK N (E133) Go.Proofs.Try.f133 [int] .bool (A133 N) (a0, ()) = r_cmp_isNaN_int N a0 := by kernel_rfl
theorem L133 (N : Nat) : LoopsOk N (E133) (A133 N) Go.Proofs.Try.f133.ntmps (retOf (E133) Go.Proofs.Try.f133 .bool) (loopsOf (Go.Proofs.Try.f133.body.getD .skip)) :=
  LoopsOk.of (l := []) (by kernel_rfl) .nil
theorem There133 : There Go.Proofs.Try.prog 133 := ⟨_, Go.Proofs.Try.func133, by kernel_rfl, by kernel_rfl⟩
theorem C133 {f : (Int × Unit → Option Bool)} (h : ∀ a0 r, f (a0, ()) = some r → ∃ N, r_cmp_isNaN_int N a0 = some r) : Contract Go.Proofs.Try.prog 133 ⟨[int], .bool, f⟩ := by
  refine contract (E := E133) (envOf table trivial trivial) mixed Go.Proofs.Try.func133 (c := Go.Proofs.Try.f133.body.getD .skip) (by kernel_rfl) (Nat.le_of_ble_eq_true (by kernel_rfl)) fun xs r hr => ?_
  obtain ⟨a0, _⟩ := xs
  obtain ⟨N, hN⟩ := h _ r hr
  exact ⟨N, A133 N, L133 N, (K133 N a0).trans hN⟩
theorem X133 : Contract Go.Proofs.Try.prog 133 ⟨[int], .bool, e_cmp_isNaN_int⟩ := C133 fun _ _ h => ⟨N0, h⟩
-- cmp_Compare_int
def E129 (c_cmp_isNaN_int : (Int × Unit → Option Bool)) : Env := ⟨tys, [], [(133, ⟨[int], .bool, c_cmp_isNaN_int⟩)], []⟩
def A129 (_c_cmp_isNaN_int : (Int × Unit → Option Bool)) (_N : Nat) : List (Nat × Loop (Ty.den int)) := []
theorem K129 (c_cmp_isNaN_int : (Int × Unit → Option Bool)) (N : Nat) (a0 : Int) (a1 : Int) : fnK N (E129 c_cmp_isNaN_int) Go.Proofs.Try.f129 [int, int] int (A129 c_cmp_isNaN_int N) (a0, a1, ()) = r_cmp_Compare_int c_cmp_isNaN_int N a0 a1 := by kernel_rfl
theorem L129 (c_cmp_isNaN_int : (Int × Unit → Option Bool)) (N : Nat) : LoopsOk N (E129 c_cmp_isNaN_int) (A129 c_cmp_isNaN_int N) Go.Proofs.Try.f129.ntmps (retOf (E129 c_cmp_isNaN_int) Go.Proofs.Try.f129 int) (loopsOf (Go.Proofs.Try.f129.body.getD .skip)) :=
  LoopsOk.of (l := []) (by kernel_rfl) .nil
theorem There129 : There Go.Proofs.Try.prog 129 := ⟨_, Go.Proofs.Try.func129, by kernel_rfl, by kernel_rfl⟩
theorem C129 {c_cmp_isNaN_int : (Int × Unit → Option Bool)} (h_c_cmp_isNaN_int : Contract Go.Proofs.Try.prog 133 ⟨[int], .bool, c_cmp_isNaN_int⟩) {f : (Int × Int × Unit → Option Int)} (h : ∀ a0 a1 r, f (a0, a1, ()) = some r → ∃ N, r_cmp_Compare_int c_cmp_isNaN_int N a0 a1 = some r) : Contract Go.Proofs.Try.prog 129 ⟨[int, int], int, f⟩ := by
  refine contract (E := E129 c_cmp_isNaN_int) (envOf table ⟨⟨h_c_cmp_isNaN_int, There133⟩, trivial⟩ trivial) mixed Go.Proofs.Try.func129 (c := Go.Proofs.Try.f129.body.getD .skip) (by kernel_rfl) (Nat.le_of_ble_eq_true (by kernel_rfl)) fun xs r hr => ?_
  obtain ⟨a0, a1, _⟩ := xs
  obtain ⟨N, hN⟩ := h _ _ r hr
  exact ⟨N, A129 c_cmp_isNaN_int N, L129 c_cmp_isNaN_int N, (K129 c_cmp_isNaN_int N a0 a1).trans hN⟩
theorem X129 : Contract Go.Proofs.Try.prog 129 ⟨[int, int], int, e_cmp_Compare_int⟩ := C129 X133 fun _ _ _ h => ⟨N0, h⟩
-- cmp_Or_int
def E128 : Env := ⟨tys, [], [], []⟩
def A128 (N : Nat) : List (Nat × Loop (Ty.den int)) := [(0, ⟨[(3, .ro none (.num .i64)), (6, .ro none (.slice (.num .i64))), (7, .ro none (.num .i64)), (8, .ro none (.num .i64))], r_cmp_Or_int_L0 N⟩)]
theorem K128 (N : Nat) (a0 : (List Int)) : fnK N (E128) Go.Proofs.Try.f128 [(.slice int)] int (A128 N) (a0, ()) = r_cmp_Or_int N a0 := by kernel_rfl
theorem L128 (N : Nat) : LoopsOk N (E128) (A128 N) Go.Proofs.Try.f128.ntmps (retOf (E128) Go.Proofs.Try.f128 int) (loopsOf (Go.Proofs.Try.f128.body.getD .skip)) :=
  LoopsOk.of (l := [(0, lb Go.Proofs.Try.f128 0)]) (by kernel_rfl) (.cons (L := ⟨[(3, .ro none (.num .i64)), (6, .ro none (.slice (.num .i64))), (7, .ro none (.num .i64)), (8, .ro none (.num .i64))], r_cmp_Or_int_L0 N⟩) (by kernel_rfl) (by intro s kc ke env; kernel_rfl) .nil)
theorem There128 : There Go.Proofs.Try.prog 128 := ⟨_, Go.Proofs.Try.func128, by kernel_rfl, by kernel_rfl⟩
theorem C128 {f : ((List Int) × Unit → Option Int)} (h : ∀ a0 r, f (a0, ()) = some r → ∃ N, r_cmp_Or_int N a0 = some r) : Contract Go.Proofs.Try.prog 128 ⟨[(.slice int)], int, f⟩ := by
  refine contract (E := E128) (envOf table trivial trivial) mixed Go.Proofs.Try.func128 (c := Go.Proofs.Try.f128.body.getD .skip) (by kernel_rfl) (Nat.le_of_ble_eq_true (by kernel_rfl)) fun xs r hr => ?_
  obtain ⟨a0, _⟩ := xs
  obtain ⟨N, hN⟩ := h _ r hr
  exact ⟨N, A128 N, L128 N, (K128 N a0).trans hN⟩
theorem X128 : Contract Go.Proofs.Try.prog 128 ⟨[(.slice int)], int, e_cmp_Or_int⟩ := C128 fun _ _ h => ⟨N0, h⟩
-- impl_byEnds
def E103 (c_cmp_Compare_int : (Int × Int × Unit → Option Int)) (c_cmp_Or_int : ((List Int) × Unit → Option Int)) : Env := ⟨tys, [], [(129, ⟨[int, int], int, c_cmp_Compare_int⟩), (128, ⟨[(.slice int)], int, c_cmp_Or_int⟩)], []⟩
def A103 (_c_cmp_Compare_int : (Int × Int × Unit → Option Int)) (_c_cmp_Or_int : ((List Int) × Unit → Option Int)) (_N : Nat) : List (Nat × Loop (Ty.den int)) := []
theorem K103 (c_cmp_Compare_int : (Int × Int × Unit → Option Int)) (c_cmp_Or_int : ((List Int) × Unit → Option Int)) (N : Nat) (a0 : (Int × Int × Int)) (a1 : (Int × Int × Int)) : fnK N (E103 c_cmp_Compare_int c_cmp_Or_int) Go.Proofs.Try.f103 [wire, wire] int (A103 c_cmp_Compare_int c_cmp_Or_int N) (a0, a1, ()) = r_impl_byEnds c_cmp_Compare_int c_cmp_Or_int N a0 a1 := by kernel_rfl
theorem L103 (c_cmp_Compare_int : (Int × Int × Unit → Option Int)) (c_cmp_Or_int : ((List Int) × Unit → Option Int)) (N : Nat) : LoopsOk N (E103 c_cmp_Compare_int c_cmp_Or_int) (A103 c_cmp_Compare_int c_cmp_Or_int N) Go.Proofs.Try.f103.ntmps (retOf (E103 c_cmp_Compare_int c_cmp_Or_int) Go.Proofs.Try.f103 int) (loopsOf (Go.Proofs.Try.f103.body.getD .skip)) :=
  LoopsOk.of (l := []) (by kernel_rfl) .nil
theorem There103 : There Go.Proofs.Try.prog 103 := ⟨_, Go.Proofs.Try.func103, by kernel_rfl, by kernel_rfl⟩
theorem C103 {c_cmp_Compare_int : (Int × Int × Unit → Option Int)} {c_cmp_Or_int : ((List Int) × Unit → Option Int)} (h_c_cmp_Compare_int : Contract Go.Proofs.Try.prog 129 ⟨[int, int], int, c_cmp_Compare_int⟩) (h_c_cmp_Or_int : Contract Go.Proofs.Try.prog 128 ⟨[(.slice int)], int, c_cmp_Or_int⟩) {f : ((Int × Int × Int) × (Int × Int × Int) × Unit → Option Int)} (h : ∀ a0 a1 r, f (a0, a1, ()) = some r → ∃ N, r_impl_byEnds c_cmp_Compare_int c_cmp_Or_int N a0 a1 = some r) : Contract Go.Proofs.Try.prog 103 ⟨[wire, wire], int, f⟩ := by
  refine contract (E := E103 c_cmp_Compare_int c_cmp_Or_int) (envOf table ⟨⟨h_c_cmp_Compare_int, There129⟩, ⟨⟨h_c_cmp_Or_int, There128⟩, trivial⟩⟩ trivial) mixed Go.Proofs.Try.func103 (c := Go.Proofs.Try.f103.body.getD .skip) (by kernel_rfl) (Nat.le_of_ble_eq_true (by kernel_rfl)) fun xs r hr => ?_
  obtain ⟨a0, a1, _⟩ := xs
  obtain ⟨N, hN⟩ := h _ _ r hr
  exact ⟨N, A103 c_cmp_Compare_int c_cmp_Or_int N, L103 c_cmp_Compare_int c_cmp_Or_int N, (K103 c_cmp_Compare_int c_cmp_Or_int N a0 a1).trans hN⟩
theorem X103 : Contract Go.Proofs.Try.prog 103 ⟨[wire, wire], int, e_impl_byEnds⟩ := C103 X129 X128 fun _ _ _ h => ⟨N0, h⟩
-- impl_NetOk
def E64 (c_slices_Contains_bool : ((List Bool) × Bool × Unit → Option Bool)) (c_impl_byEnds : ((Int × Int × Int) × (Int × Int × Int) × Unit → Option Int)) : Env := ⟨tys, [], [(104, ⟨[(.slice .bool), .bool], .bool, c_slices_Contains_bool⟩), (103, ⟨[wire, wire], int, c_impl_byEnds⟩)], []⟩
def A64 (c_slices_Contains_bool : ((List Bool) × Bool × Unit → Option Bool)) (c_impl_byEnds : ((Int × Int × Int) × (Int × Int × Int) × Unit → Option Int)) (N : Nat) : List (Nat × Loop (Ty.den .bool)) := [(0, ⟨[(1, .box false (.pair (.num .i64) (.pair (.num .i64) (.pair (.num .i64) (.slice (.pair (.num .i64) (.pair (.num .i64) (.num .i64)))))))), (39, .ro none (.slice (.pair (.num .i64) (.pair (.num .i64) (.num .i64))))), (40, .ro none (.num .i64)), (41, .ro none (.num .i64))], r_impl_NetOk_L0 c_slices_Contains_bool c_impl_byEnds N⟩), (2, ⟨[(1, .box false (.pair (.num .i64) (.pair (.num .i64) (.pair (.num .i64) (.slice (.pair (.num .i64) (.pair (.num .i64) (.num .i64)))))))), (5, .own (.slice .bool)), (95, .ro none (.num .i64)), (96, .ro none (.num .i64))], r_impl_NetOk_L2 c_slices_Contains_bool c_impl_byEnds N⟩), (4, ⟨[(1, .box false (.pair (.num .i64) (.pair (.num .i64) (.pair (.num .i64) (.slice (.pair (.num .i64) (.pair (.num .i64) (.num .i64)))))))), (5, .own (.slice .bool)), (95, .ro none (.num .i64)), (96, .ro none (.num .i64)), (99, .ro none (.slice (.pair (.num .i64) (.pair (.num .i64) (.num .i64))))), (100, .ro none (.num .i64)), (101, .ro none (.num .i64))], r_impl_NetOk_L4 c_slices_Contains_bool c_impl_byEnds N⟩)]
theorem K64 (c_slices_Contains_bool : ((List Bool) × Bool × Unit → Option Bool)) (c_impl_byEnds : ((Int × Int × Int) × (Int × Int × Int) × Unit → Option Int)) (N : Nat) (a0 : (Int × Int × Int × List (Int × Int × Int))) : fnK N (E64 c_slices_Contains_bool c_impl_byEnds) Go.Proofs.Try.f64 [net] .bool (A64 c_slices_Contains_bool c_impl_byEnds N) (a0, ()) = r_impl_NetOk c_slices_Contains_bool c_impl_byEnds N a0 := by kernel_rfl
theorem L64 (c_slices_Contains_bool : ((List Bool) × Bool × Unit → Option Bool)) (c_impl_byEnds : ((Int × Int × Int) × (Int × Int × Int) × Unit → Option Int)) (N : Nat) : LoopsOk N (E64 c_slices_Contains_bool c_impl_byEnds) (A64 c_slices_Contains_bool c_impl_byEnds N) Go.Proofs.Try.f64.ntmps (retOf (E64 c_slices_Contains_bool c_impl_byEnds) Go.Proofs.Try.f64 .bool) (loopsOf (Go.Proofs.Try.f64.body.getD .skip)) :=
  LoopsOk.of (l := [(0, lb Go.Proofs.Try.f64 0), (2, lb Go.Proofs.Try.f64 1), (4, lb Go.Proofs.Try.f64 2)]) (by kernel_rfl) (.cons (L := ⟨[(1, .box false (.pair (.num .i64) (.pair (.num .i64) (.pair (.num .i64) (.slice (.pair (.num .i64) (.pair (.num .i64) (.num .i64)))))))), (39, .ro none (.slice (.pair (.num .i64) (.pair (.num .i64) (.num .i64))))), (40, .ro none (.num .i64)), (41, .ro none (.num .i64))], r_impl_NetOk_L0 c_slices_Contains_bool c_impl_byEnds N⟩) (by kernel_rfl) (by intro s kc ke env; kernel_rfl) (.cons (L := ⟨[(1, .box false (.pair (.num .i64) (.pair (.num .i64) (.pair (.num .i64) (.slice (.pair (.num .i64) (.pair (.num .i64) (.num .i64)))))))), (5, .own (.slice .bool)), (95, .ro none (.num .i64)), (96, .ro none (.num .i64))], r_impl_NetOk_L2 c_slices_Contains_bool c_impl_byEnds N⟩) (by kernel_rfl) (by intro s kc ke env; kernel_rfl) (.cons (L := ⟨[(1, .box false (.pair (.num .i64) (.pair (.num .i64) (.pair (.num .i64) (.slice (.pair (.num .i64) (.pair (.num .i64) (.num .i64)))))))), (5, .own (.slice .bool)), (95, .ro none (.num .i64)), (96, .ro none (.num .i64)), (99, .ro none (.slice (.pair (.num .i64) (.pair (.num .i64) (.num .i64))))), (100, .ro none (.num .i64)), (101, .ro none (.num .i64))], r_impl_NetOk_L4 c_slices_Contains_bool c_impl_byEnds N⟩) (by kernel_rfl) (by intro s kc ke env; kernel_rfl) .nil)))
theorem There64 : There Go.Proofs.Try.prog 64 := ⟨_, Go.Proofs.Try.func64, by kernel_rfl, by kernel_rfl⟩
theorem C64 {c_slices_Contains_bool : ((List Bool) × Bool × Unit → Option Bool)} {c_impl_byEnds : ((Int × Int × Int) × (Int × Int × Int) × Unit → Option Int)} (h_c_slices_Contains_bool : Contract Go.Proofs.Try.prog 104 ⟨[(.slice .bool), .bool], .bool, c_slices_Contains_bool⟩) (h_c_impl_byEnds : Contract Go.Proofs.Try.prog 103 ⟨[wire, wire], int, c_impl_byEnds⟩) {f : ((Int × Int × Int × List (Int × Int × Int)) × Unit → Option Bool)} (h : ∀ a0 r, f (a0, ()) = some r → ∃ N, r_impl_NetOk c_slices_Contains_bool c_impl_byEnds N a0 = some r) : Contract Go.Proofs.Try.prog 64 ⟨[net], .bool, f⟩ := by
  refine contract (E := E64 c_slices_Contains_bool c_impl_byEnds) (envOf table ⟨⟨h_c_slices_Contains_bool, There104⟩, ⟨⟨h_c_impl_byEnds, There103⟩, trivial⟩⟩ trivial) mixed Go.Proofs.Try.func64 (c := Go.Proofs.Try.f64.body.getD .skip) (by kernel_rfl) (Nat.le_of_ble_eq_true (by kernel_rfl)) fun xs r hr => ?_
  obtain ⟨a0, _⟩ := xs
  obtain ⟨N, hN⟩ := h _ r hr
  exact ⟨N, A64 c_slices_Contains_bool c_impl_byEnds N, L64 c_slices_Contains_bool c_impl_byEnds N, (K64 c_slices_Contains_bool c_impl_byEnds N a0).trans hN⟩
theorem X64 : Contract Go.Proofs.Try.prog 64 ⟨[net], .bool, e_impl_NetOk⟩ := C64 X104 X103 fun _ _ h => ⟨N0, h⟩
-- impl_isWire
def E65 : Env := ⟨tys, [], [], []⟩
def A65 (_N : Nat) : List (Nat × Loop (Ty.den .bool)) := []
theorem K65 (N : Nat) (a0 : (Int × Int × Int × List (Int × Int × Int))) (a1 : Int) : fnK N (E65) Go.Proofs.Try.f65 [net, int] .bool (A65 N) (a0, a1, ()) = r_impl_isWire N a0 a1 := by kernel_rfl
theorem L65 (N : Nat) : LoopsOk N (E65) (A65 N) Go.Proofs.Try.f65.ntmps (retOf (E65) Go.Proofs.Try.f65 .bool) (loopsOf (Go.Proofs.Try.f65.body.getD .skip)) :=
  LoopsOk.of (l := []) (by kernel_rfl) .nil
theorem There65 : There Go.Proofs.Try.prog 65 := ⟨_, Go.Proofs.Try.func65, by kernel_rfl, by kernel_rfl⟩
theorem C65 {f : ((Int × Int × Int × List (Int × Int × Int)) × Int × Unit → Option Bool)} (h : ∀ a0 a1 r, f (a0, a1, ()) = some r → ∃ N, r_impl_isWire N a0 a1 = some r) : Contract Go.Proofs.Try.prog 65 ⟨[net, int], .bool, f⟩ := by
  refine contract (E := E65) (envOf table trivial trivial) mixed Go.Proofs.Try.func65 (c := Go.Proofs.Try.f65.body.getD .skip) (by kernel_rfl) (Nat.le_of_ble_eq_true (by kernel_rfl)) fun xs r hr => ?_
  obtain ⟨a0, a1, _⟩ := xs
  obtain ⟨N, hN⟩ := h _ _ r hr
  exact ⟨N, A65 N, L65 N, (K65 N a0 a1).trans hN⟩
theorem X65 : Contract Go.Proofs.Try.prog 65 ⟨[net, int], .bool, e_impl_isWire⟩ := C65 fun _ _ _ h => ⟨N0, h⟩
-- impl_isNode
def E105 : Env := ⟨tys, [], [], []⟩
def A105 (_N : Nat) : List (Nat × Loop (Ty.den .bool)) := []
theorem K105 (N : Nat) (a0 : (Int × Int × Int × List (Int × Int × Int))) (a1 : Int) : fnK N (E105) Go.Proofs.Try.f105 [net, int] .bool (A105 N) (a0, a1, ()) = r_impl_isNode N a0 a1 := by kernel_rfl
theorem L105 (N : Nat) : LoopsOk N (E105) (A105 N) Go.Proofs.Try.f105.ntmps (retOf (E105) Go.Proofs.Try.f105 .bool) (loopsOf (Go.Proofs.Try.f105.body.getD .skip)) :=
  LoopsOk.of (l := []) (by kernel_rfl) .nil
theorem There105 : There Go.Proofs.Try.prog 105 := ⟨_, Go.Proofs.Try.func105, by kernel_rfl, by kernel_rfl⟩
theorem C105 {f : ((Int × Int × Int × List (Int × Int × Int)) × Int × Unit → Option Bool)} (h : ∀ a0 a1 r, f (a0, a1, ()) = some r → ∃ N, r_impl_isNode N a0 a1 = some r) : Contract Go.Proofs.Try.prog 105 ⟨[net, int], .bool, f⟩ := by
  refine contract (E := E105) (envOf table trivial trivial) mixed Go.Proofs.Try.func105 (c := Go.Proofs.Try.f105.body.getD .skip) (by kernel_rfl) (Nat.le_of_ble_eq_true (by kernel_rfl)) fun xs r hr => ?_
  obtain ⟨a0, a1, _⟩ := xs
  obtain ⟨N, hN⟩ := h _ _ r hr
  exact ⟨N, A105 N, L105 N, (K105 N a0 a1).trans hN⟩
theorem X105 : Contract Go.Proofs.Try.prog 105 ⟨[net, int], .bool, e_impl_isNode⟩ := C105 fun _ _ _ h => ⟨N0, h⟩
-- impl_WeightBetween
def E74 : Env := ⟨tys, [], [], []⟩
def A74 (N : Nat) : List (Nat × Loop (Ty.den int)) := [(0, ⟨[(1, .ro none (.num .i64)), (2, .ro none (.num .i64)), (10, .ro none (.slice (.pair (.num .i64) (.pair (.num .i64) (.num .i64))))), (11, .ro none (.num .i64)), (12, .ro none (.num .i64))], r_impl_WeightBetween_L0 N⟩)]
theorem K74 (N : Nat) (a0 : (Int × Int × Int × List (Int × Int × Int))) (a1 : Int) (a2 : Int) : fnK N (E74) Go.Proofs.Try.f74 [net, int, int] int (A74 N) (a0, a1, a2, ()) = r_impl_WeightBetween N a0 a1 a2 := by kernel_rfl
theorem L74 (N : Nat) : LoopsOk N (E74) (A74 N) Go.Proofs.Try.f74.ntmps (retOf (E74) Go.Proofs.Try.f74 int) (loopsOf (Go.Proofs.Try.f74.body.getD .skip)) :=
  LoopsOk.of (l := [(0, lb Go.Proofs.Try.f74 0)]) (by kernel_rfl) (.cons (L := ⟨[(1, .ro none (.num .i64)), (2, .ro none (.num .i64)), (10, .ro none (.slice (.pair (.num .i64) (.pair (.num .i64) (.num .i64))))), (11, .ro none (.num .i64)), (12, .ro none (.num .i64))], r_impl_WeightBetween_L0 N⟩) (by kernel_rfl) (by intro s kc ke env; kernel_rfl) .nil)
theorem There74 : There Go.Proofs.Try.prog 74 := ⟨_, Go.Proofs.Try.func74, by kernel_rfl, by kernel_rfl⟩
theorem C74 {f : ((Int × Int × Int × List (Int × Int × Int)) × Int × Int × Unit → Option Int)} (h : ∀ a0 a1 a2 r, f (a0, a1, a2, ()) = some r → ∃ N, r_impl_WeightBetween N a0 a1 a2 = some r) : Contract Go.Proofs.Try.prog 74 ⟨[net, int, int], int, f⟩ := by
  refine contract (E := E74) (envOf table trivial trivial) mixed Go.Proofs.Try.func74 (c := Go.Proofs.Try.f74.body.getD .skip) (by kernel_rfl) (Nat.le_of_ble_eq_true (by kernel_rfl)) fun xs r hr => ?_
  obtain ⟨a0, a1, a2, _⟩ := xs
  obtain ⟨N, hN⟩ := h _ _ _ r hr
  exact ⟨N, A74 N, L74 N, (K74 N a0 a1 a2).trans hN⟩
theorem X74 : Contract Go.Proofs.Try.prog 74 ⟨[net, int, int], int, e_impl_WeightBetween⟩ := C74 fun _ _ _ _ h => ⟨N0, h⟩
-- impl_table
def E75 (c_impl_WeightBetween : ((Int × Int × Int × List (Int × Int × Int)) × Int × Int × Unit → Option Int)) : Env := ⟨tys, [], [(74, ⟨[net, int, int], int, c_impl_WeightBetween⟩)], []⟩
def A75 (c_impl_WeightBetween : ((Int × Int × Int × List (Int × Int × Int)) × Int × Int × Unit → Option Int)) (N : Nat) : List (Nat × Loop (Ty.den (.slice (.slice int)))) := [(0, ⟨[(1, .box false (.pair (.num .i64) (.pair (.num .i64) (.pair (.num .i64) (.slice (.pair (.num .i64) (.pair (.num .i64) (.num .i64)))))))), (3, .own (.slice (.slice (.num .i64)))), (10, .ro none (.num .i64)), (11, .ro none (.num .i64))], r_impl_table_L0 c_impl_WeightBetween N⟩), (2, ⟨[(1, .box false (.pair (.num .i64) (.pair (.num .i64) (.pair (.num .i64) (.slice (.pair (.num .i64) (.pair (.num .i64) (.num .i64)))))))), (3, .own (.slice (.slice (.num .i64)))), (4, .ro none (.num .i64)), (10, .ro none (.num .i64)), (11, .ro none (.num .i64)), (24, .ro none (.num .i64)), (25, .ro none (.num .i64))], r_impl_table_L2 c_impl_WeightBetween N⟩)]
theorem K75 (c_impl_WeightBetween : ((Int × Int × Int × List (Int × Int × Int)) × Int × Int × Unit → Option Int)) (N : Nat) (a0 : (Int × Int × Int × List (Int × Int × Int))) : fnK N (E75 c_impl_WeightBetween) Go.Proofs.Try.f75 [net] (.slice (.slice int)) (A75 c_impl_WeightBetween N) (a0, ()) = r_impl_table c_impl_WeightBetween N a0 := by kernel_rfl
theorem L75 (c_impl_WeightBetween : ((Int × Int × Int × List (Int × Int × Int)) × Int × Int × Unit → Option Int)) (N : Nat) : LoopsOk N (E75 c_impl_WeightBetween) (A75 c_impl_WeightBetween N) Go.Proofs.Try.f75.ntmps (retOf (E75 c_impl_WeightBetween) Go.Proofs.Try.f75 (.slice (.slice int))) (loopsOf (Go.Proofs.Try.f75.body.getD .skip)) :=
  LoopsOk.of (l := [(0, lb Go.Proofs.Try.f75 0), (2, lb Go.Proofs.Try.f75 1)]) (by kernel_rfl) (.cons (L := ⟨[(1, .box false (.pair (.num .i64) (.pair (.num .i64) (.pair (.num .i64) (.slice (.pair (.num .i64) (.pair (.num .i64) (.num .i64)))))))), (3, .own (.slice (.slice (.num .i64)))), (10, .ro none (.num .i64)), (11, .ro none (.num .i64))], r_impl_table_L0 c_impl_WeightBetween N⟩) (by kernel_rfl) (by intro s kc ke env; kernel_rfl) (.cons (L := ⟨[(1, .box false (.pair (.num .i64) (.pair (.num .i64) (.pair (.num .i64) (.slice (.pair (.num .i64) (.pair (.num .i64) (.num .i64)))))))), (3, .own (.slice (.slice (.num .i64)))), (4, .ro none (.num .i64)), (10, .ro none (.num .i64)), (11, .ro none (.num .i64)), (24, .ro none (.num .i64)), (25, .ro none (.num .i64))], r_impl_table_L2 c_impl_WeightBetween N⟩) (by kernel_rfl) (by intro s kc ke env; kernel_rfl) .nil))
theorem There75 : There Go.Proofs.Try.prog 75 := ⟨_, Go.Proofs.Try.func75, by kernel_rfl, by kernel_rfl⟩
theorem C75 {c_impl_WeightBetween : ((Int × Int × Int × List (Int × Int × Int)) × Int × Int × Unit → Option Int)} (h_c_impl_WeightBetween : Contract Go.Proofs.Try.prog 74 ⟨[net, int, int], int, c_impl_WeightBetween⟩) {f : ((Int × Int × Int × List (Int × Int × Int)) × Unit → Option (List (List Int)))} (h : ∀ a0 r, f (a0, ()) = some r → ∃ N, r_impl_table c_impl_WeightBetween N a0 = some r) : Contract Go.Proofs.Try.prog 75 ⟨[net], (.slice (.slice int)), f⟩ := by
  refine contract (E := E75 c_impl_WeightBetween) (envOf table ⟨⟨h_c_impl_WeightBetween, There74⟩, trivial⟩ trivial) mixed Go.Proofs.Try.func75 (c := Go.Proofs.Try.f75.body.getD .skip) (by kernel_rfl) (Nat.le_of_ble_eq_true (by kernel_rfl)) fun xs r hr => ?_
  obtain ⟨a0, _⟩ := xs
  obtain ⟨N, hN⟩ := h _ r hr
  exact ⟨N, A75 c_impl_WeightBetween N, L75 c_impl_WeightBetween N, (K75 c_impl_WeightBetween N a0).trans hN⟩
theorem X75 : Contract Go.Proofs.Try.prog 75 ⟨[net], (.slice (.slice int)), e_impl_table⟩ := C75 X74 fun _ _ h => ⟨N0, h⟩
-- impl_size
def E123 : Env := ⟨tys, [], [], []⟩
def A123 (_N : Nat) : List (Nat × Loop (Ty.den (.num .u64))) := []
theorem K123 (N : Nat) (a0 : Int) : fnK N (E123) Go.Proofs.Try.f123 [int] (.num .u64) (A123 N) (a0, ()) = r_impl_size N a0 := by kernel_rfl
theorem L123 (N : Nat) : LoopsOk N (E123) (A123 N) Go.Proofs.Try.f123.ntmps (retOf (E123) Go.Proofs.Try.f123 (.num .u64)) (loopsOf (Go.Proofs.Try.f123.body.getD .skip)) :=
  LoopsOk.of (l := []) (by kernel_rfl) .nil
theorem There123 : There Go.Proofs.Try.prog 123 := ⟨_, Go.Proofs.Try.func123, by kernel_rfl, by kernel_rfl⟩
theorem C123 {f : (Int × Unit → Option Int)} (h : ∀ a0 r, f (a0, ()) = some r → ∃ N, r_impl_size N a0 = some r) : Contract Go.Proofs.Try.prog 123 ⟨[int], (.num .u64), f⟩ := by
  refine contract (E := E123) (envOf table trivial trivial) mixed Go.Proofs.Try.func123 (c := Go.Proofs.Try.f123.body.getD .skip) (by kernel_rfl) (Nat.le_of_ble_eq_true (by kernel_rfl)) fun xs r hr => ?_
  obtain ⟨a0, _⟩ := xs
  obtain ⟨N, hN⟩ := h _ r hr
  exact ⟨N, A123 N, L123 N, (K123 N a0).trans hN⟩
theorem X123 : Contract Go.Proofs.Try.prog 123 ⟨[int], (.num .u64), e_impl_size⟩ := C123 fun _ _ h => ⟨N0, h⟩
-- impl_common
def E122 : Env := ⟨tys, [], [], []⟩
def A122 (N : Nat) : List (Nat × Loop (Ty.den (.num .u64))) := [(0, ⟨[(0, .ro none (.num .u64)), (1, .ro none (.num .u64))], r_impl_common_L0 N⟩)]
theorem K122 (N : Nat) (a0 : Int) (a1 : Int) : fnK N (E122) Go.Proofs.Try.f122 [(.num .u64), (.num .u64)] (.num .u64) (A122 N) (a0, a1, ()) = r_impl_common N a0 a1 := by kernel_rfl
theorem L122 (N : Nat) : LoopsOk N (E122) (A122 N) Go.Proofs.Try.f122.ntmps (retOf (E122) Go.Proofs.Try.f122 (.num .u64)) (loopsOf (Go.Proofs.Try.f122.body.getD .skip)) :=
  LoopsOk.of (l := [(0, lb Go.Proofs.Try.f122 0)]) (by kernel_rfl) (.cons (L := ⟨[(0, .ro none (.num .u64)), (1, .ro none (.num .u64))], r_impl_common_L0 N⟩) (by kernel_rfl) (by intro s kc ke env; kernel_rfl) .nil)
theorem There122 : There Go.Proofs.Try.prog 122 := ⟨_, Go.Proofs.Try.func122, by kernel_rfl, by kernel_rfl⟩
theorem C122 {f : (Int × Int × Unit → Option Int)} (h : ∀ a0 a1 r, f (a0, a1, ()) = some r → ∃ N, r_impl_common N a0 a1 = some r) : Contract Go.Proofs.Try.prog 122 ⟨[(.num .u64), (.num .u64)], (.num .u64), f⟩ := by
  refine contract (E := E122) (envOf table trivial trivial) mixed Go.Proofs.Try.func122 (c := Go.Proofs.Try.f122.body.getD .skip) (by kernel_rfl) (Nat.le_of_ble_eq_true (by kernel_rfl)) fun xs r hr => ?_
  obtain ⟨a0, a1, _⟩ := xs
  obtain ⟨N, hN⟩ := h _ _ r hr
  exact ⟨N, A122 N, L122 N, (K122 N a0 a1).trans hN⟩
theorem X122 : Contract Go.Proofs.Try.prog 122 ⟨[(.num .u64), (.num .u64)], (.num .u64), e_impl_common⟩ := C122 fun _ _ _ h => ⟨N0, h⟩
-- impl_GcdOf
def E109 (c_impl_size : (Int × Unit → Option Int)) (c_impl_common : (Int × Int × Unit → Option Int)) : Env := ⟨tys, [], [(123, ⟨[int], (.num .u64), c_impl_size⟩), (122, ⟨[(.num .u64), (.num .u64)], (.num .u64), c_impl_common⟩)], []⟩
def A109 (_c_impl_size : (Int × Unit → Option Int)) (_c_impl_common : (Int × Int × Unit → Option Int)) (_N : Nat) : List (Nat × Loop (Ty.den int)) := []
theorem K109 (c_impl_size : (Int × Unit → Option Int)) (c_impl_common : (Int × Int × Unit → Option Int)) (N : Nat) (a0 : Int) (a1 : Int) : fnK N (E109 c_impl_size c_impl_common) Go.Proofs.Try.f109 [int, int] int (A109 c_impl_size c_impl_common N) (a0, a1, ()) = r_impl_GcdOf c_impl_size c_impl_common N a0 a1 := by kernel_rfl
theorem L109 (c_impl_size : (Int × Unit → Option Int)) (c_impl_common : (Int × Int × Unit → Option Int)) (N : Nat) : LoopsOk N (E109 c_impl_size c_impl_common) (A109 c_impl_size c_impl_common N) Go.Proofs.Try.f109.ntmps (retOf (E109 c_impl_size c_impl_common) Go.Proofs.Try.f109 int) (loopsOf (Go.Proofs.Try.f109.body.getD .skip)) :=
  LoopsOk.of (l := []) (by kernel_rfl) .nil
theorem There109 : There Go.Proofs.Try.prog 109 := ⟨_, Go.Proofs.Try.func109, by kernel_rfl, by kernel_rfl⟩
theorem C109 {c_impl_size : (Int × Unit → Option Int)} {c_impl_common : (Int × Int × Unit → Option Int)} (h_c_impl_size : Contract Go.Proofs.Try.prog 123 ⟨[int], (.num .u64), c_impl_size⟩) (h_c_impl_common : Contract Go.Proofs.Try.prog 122 ⟨[(.num .u64), (.num .u64)], (.num .u64), c_impl_common⟩) {f : (Int × Int × Unit → Option Int)} (h : ∀ a0 a1 r, f (a0, a1, ()) = some r → ∃ N, r_impl_GcdOf c_impl_size c_impl_common N a0 a1 = some r) : Contract Go.Proofs.Try.prog 109 ⟨[int, int], int, f⟩ := by
  refine contract (E := E109 c_impl_size c_impl_common) (envOf table ⟨⟨h_c_impl_size, There123⟩, ⟨⟨h_c_impl_common, There122⟩, trivial⟩⟩ trivial) mixed Go.Proofs.Try.func109 (c := Go.Proofs.Try.f109.body.getD .skip) (by kernel_rfl) (Nat.le_of_ble_eq_true (by kernel_rfl)) fun xs r hr => ?_
  obtain ⟨a0, a1, _⟩ := xs
  obtain ⟨N, hN⟩ := h _ _ r hr
  exact ⟨N, A109 c_impl_size c_impl_common N, L109 c_impl_size c_impl_common N, (K109 c_impl_size c_impl_common N a0 a1).trans hN⟩
theorem X109 : Contract Go.Proofs.Try.prog 109 ⟨[int, int], int, e_impl_GcdOf⟩ := C109 X123 X122 fun _ _ _ h => ⟨N0, h⟩
-- impl_netOf
def E76 (c_impl_NetOk : ((Int × Int × Int × List (Int × Int × Int)) × Unit → Option Bool)) (c_impl_GcdOf : (Int × Int × Unit → Option Int)) : Env := ⟨tys, [], [(64, ⟨[net], .bool, c_impl_NetOk⟩), (109, ⟨[int, int], int, c_impl_GcdOf⟩)], []⟩
def A76 (c_impl_NetOk : ((Int × Int × Int × List (Int × Int × Int)) × Unit → Option Bool)) (c_impl_GcdOf : (Int × Int × Unit → Option Int)) (N : Nat) : List (Nat × Loop (Ty.den (.tup net .bool))) := [(0, ⟨[(2, .ro none (.slice (.slice (.num .i64)))), (3, .ro none .bool), (8, .box true (.pair (.num .i64) (.pair (.num .i64) (.pair (.num .i64) (.slice (.pair (.num .i64) (.pair (.num .i64) (.num .i64)))))))), (10, .box true (.pair (.num .i64) (.pair (.num .i64) (.pair (.num .i64) (.slice (.pair (.num .i64) (.pair (.num .i64) (.num .i64)))))))), (11, .ro none (.num .i64)), (23, .ro none (.num .i64)), (24, .ro none (.num .i64))], r_impl_netOf_L0 c_impl_NetOk c_impl_GcdOf N⟩), (4, ⟨[(8, .box true (.pair (.num .i64) (.pair (.num .i64) (.pair (.num .i64) (.slice (.pair (.num .i64) (.pair (.num .i64) (.num .i64)))))))), (10, .box true (.pair (.num .i64) (.pair (.num .i64) (.pair (.num .i64) (.slice (.pair (.num .i64) (.pair (.num .i64) (.num .i64)))))))), (11, .ro none (.num .i64)), (65, .ro none (.num .i64)), (66, .ro none (.num .i64))], r_impl_netOf_L4 c_impl_NetOk c_impl_GcdOf N⟩), (2, ⟨[(2, .ro none (.slice (.slice (.num .i64)))), (3, .ro none .bool), (8, .box true (.pair (.num .i64) (.pair (.num .i64) (.pair (.num .i64) (.slice (.pair (.num .i64) (.pair (.num .i64) (.num .i64)))))))), (10, .box true (.pair (.num .i64) (.pair (.num .i64) (.pair (.num .i64) (.slice (.pair (.num .i64) (.pair (.num .i64) (.num .i64)))))))), (11, .ro none (.num .i64)), (12, .ro none (.num .i64)), (13, .ro none (.num .i64)), (23, .ro none (.num .i64)), (24, .ro none (.num .i64))], r_impl_netOf_L2 c_impl_NetOk c_impl_GcdOf N⟩)]
theorem K76 (c_impl_NetOk : ((Int × Int × Int × List (Int × Int × Int)) × Unit → Option Bool)) (c_impl_GcdOf : (Int × Int × Unit → Option Int)) (N : Nat) (a0 : Int) (a1 : Int) (a2 : (List (List Int))) (a3 : Bool) : fnK N (E76 c_impl_NetOk c_impl_GcdOf) Go.Proofs.Try.f76 [int, int, (.slice (.slice int)), .bool] (.tup net .bool) (A76 c_impl_NetOk c_impl_GcdOf N) (a0, a1, a2, a3, ()) = r_impl_netOf c_impl_NetOk c_impl_GcdOf N a0 a1 a2 a3 := by kernel_rfl
theorem L76 (c_impl_NetOk : ((Int × Int × Int × List (Int × Int × Int)) × Unit → Option Bool)) (c_impl_GcdOf : (Int × Int × Unit → Option Int)) (N : Nat) : LoopsOk N (E76 c_impl_NetOk c_impl_GcdOf) (A76 c_impl_NetOk c_impl_GcdOf N) Go.Proofs.Try.f76.ntmps (retOf (E76 c_impl_NetOk c_impl_GcdOf) Go.Proofs.Try.f76 (.tup net .bool)) (loopsOf (Go.Proofs.Try.f76.body.getD .skip)) :=
  LoopsOk.of (l := [(0, lb Go.Proofs.Try.f76 0), (2, lb Go.Proofs.Try.f76 1), (4, lb Go.Proofs.Try.f76 2)]) (by kernel_rfl) (.cons (L := ⟨[(2, .ro none (.slice (.slice (.num .i64)))), (3, .ro none .bool), (8, .box true (.pair (.num .i64) (.pair (.num .i64) (.pair (.num .i64) (.slice (.pair (.num .i64) (.pair (.num .i64) (.num .i64)))))))), (10, .box true (.pair (.num .i64) (.pair (.num .i64) (.pair (.num .i64) (.slice (.pair (.num .i64) (.pair (.num .i64) (.num .i64)))))))), (11, .ro none (.num .i64)), (23, .ro none (.num .i64)), (24, .ro none (.num .i64))], r_impl_netOf_L0 c_impl_NetOk c_impl_GcdOf N⟩) (by kernel_rfl) (by intro s kc ke env; kernel_rfl) (.cons (L := ⟨[(2, .ro none (.slice (.slice (.num .i64)))), (3, .ro none .bool), (8, .box true (.pair (.num .i64) (.pair (.num .i64) (.pair (.num .i64) (.slice (.pair (.num .i64) (.pair (.num .i64) (.num .i64)))))))), (10, .box true (.pair (.num .i64) (.pair (.num .i64) (.pair (.num .i64) (.slice (.pair (.num .i64) (.pair (.num .i64) (.num .i64)))))))), (11, .ro none (.num .i64)), (12, .ro none (.num .i64)), (13, .ro none (.num .i64)), (23, .ro none (.num .i64)), (24, .ro none (.num .i64))], r_impl_netOf_L2 c_impl_NetOk c_impl_GcdOf N⟩) (by kernel_rfl) (by intro s kc ke env; kernel_rfl) (.cons (L := ⟨[(8, .box true (.pair (.num .i64) (.pair (.num .i64) (.pair (.num .i64) (.slice (.pair (.num .i64) (.pair (.num .i64) (.num .i64)))))))), (10, .box true (.pair (.num .i64) (.pair (.num .i64) (.pair (.num .i64) (.slice (.pair (.num .i64) (.pair (.num .i64) (.num .i64)))))))), (11, .ro none (.num .i64)), (65, .ro none (.num .i64)), (66, .ro none (.num .i64))], r_impl_netOf_L4 c_impl_NetOk c_impl_GcdOf N⟩) (by kernel_rfl) (by intro s kc ke env; kernel_rfl) .nil)))
theorem There76 : There Go.Proofs.Try.prog 76 := ⟨_, Go.Proofs.Try.func76, by kernel_rfl, by kernel_rfl⟩
theorem C76 {c_impl_NetOk : ((Int × Int × Int × List (Int × Int × Int)) × Unit → Option Bool)} {c_impl_GcdOf : (Int × Int × Unit → Option Int)} (h_c_impl_NetOk : Contract Go.Proofs.Try.prog 64 ⟨[net], .bool, c_impl_NetOk⟩) (h_c_impl_GcdOf : Contract Go.Proofs.Try.prog 109 ⟨[int, int], int, c_impl_GcdOf⟩) {f : (Int × Int × (List (List Int)) × Bool × Unit → Option ((Int × Int × Int × List (Int × Int × Int)) × Bool))} (h : ∀ a0 a1 a2 a3 r, f (a0, a1, a2, a3, ()) = some r → ∃ N, r_impl_netOf c_impl_NetOk c_impl_GcdOf N a0 a1 a2 a3 = some r) : Contract Go.Proofs.Try.prog 76 ⟨[int, int, (.slice (.slice int)), .bool], (.tup net .bool), f⟩ := by
  refine contract (E := E76 c_impl_NetOk c_impl_GcdOf) (envOf table ⟨⟨h_c_impl_NetOk, There64⟩, ⟨⟨h_c_impl_GcdOf, There109⟩, trivial⟩⟩ trivial) mixed Go.Proofs.Try.func76 (c := Go.Proofs.Try.f76.body.getD .skip) (by kernel_rfl) (Nat.le_of_ble_eq_true (by kernel_rfl)) fun xs r hr => ?_
  obtain ⟨a0, a1, a2, a3, _⟩ := xs
  obtain ⟨N, hN⟩ := h _ _ _ _ r hr
  exact ⟨N, A76 c_impl_NetOk c_impl_GcdOf N, L76 c_impl_NetOk c_impl_GcdOf N, (K76 c_impl_NetOk c_impl_GcdOf N a0 a1 a2 a3).trans hN⟩
theorem X76 : Contract Go.Proofs.Try.prog 76 ⟨[int, int, (.slice (.slice int)), .bool], (.tup net .bool), e_impl_netOf⟩ := C76 X64 X109 fun _ _ _ _ _ h => ⟨N0, h⟩
-- impl_PutWire
def E66 (c_impl_NetOk : ((Int × Int × Int × List (Int × Int × Int)) × Unit → Option Bool)) (c_impl_isNode : ((Int × Int × Int × List (Int × Int × Int)) × Int × Unit → Option Bool)) (c_impl_table : ((Int × Int × Int × List (Int × Int × Int)) × Unit → Option (List (List Int)))) (c_impl_netOf : (Int × Int × (List (List Int)) × Bool × Unit → Option ((Int × Int × Int × List (Int × Int × Int)) × Bool))) : Env := ⟨tys, [], [(64, ⟨[net], .bool, c_impl_NetOk⟩), (105, ⟨[net, int], .bool, c_impl_isNode⟩), (75, ⟨[net], (.slice (.slice int)), c_impl_table⟩), (76, ⟨[int, int, (.slice (.slice int)), .bool], (.tup net .bool), c_impl_netOf⟩)], []⟩
def A66 (_c_impl_NetOk : ((Int × Int × Int × List (Int × Int × Int)) × Unit → Option Bool)) (_c_impl_isNode : ((Int × Int × Int × List (Int × Int × Int)) × Int × Unit → Option Bool)) (_c_impl_table : ((Int × Int × Int × List (Int × Int × Int)) × Unit → Option (List (List Int)))) (_c_impl_netOf : (Int × Int × (List (List Int)) × Bool × Unit → Option ((Int × Int × Int × List (Int × Int × Int)) × Bool))) (_N : Nat) : List (Nat × Loop (Ty.den (.tup net .bool))) := []
theorem K66 (c_impl_NetOk : ((Int × Int × Int × List (Int × Int × Int)) × Unit → Option Bool)) (c_impl_isNode : ((Int × Int × Int × List (Int × Int × Int)) × Int × Unit → Option Bool)) (c_impl_table : ((Int × Int × Int × List (Int × Int × Int)) × Unit → Option (List (List Int)))) (c_impl_netOf : (Int × Int × (List (List Int)) × Bool × Unit → Option ((Int × Int × Int × List (Int × Int × Int)) × Bool))) (N : Nat) (a0 : (Int × Int × Int × List (Int × Int × Int))) (a1 : Int) (a2 : Int) (a3 : Int) : fnK N (E66 c_impl_NetOk c_impl_isNode c_impl_table c_impl_netOf) Go.Proofs.Try.f66 [net, int, int, int] (.tup net .bool) (A66 c_impl_NetOk c_impl_isNode c_impl_table c_impl_netOf N) (a0, a1, a2, a3, ()) = r_impl_PutWire c_impl_NetOk c_impl_isNode c_impl_table c_impl_netOf N a0 a1 a2 a3 := by kernel_rfl
theorem L66 (c_impl_NetOk : ((Int × Int × Int × List (Int × Int × Int)) × Unit → Option Bool)) (c_impl_isNode : ((Int × Int × Int × List (Int × Int × Int)) × Int × Unit → Option Bool)) (c_impl_table : ((Int × Int × Int × List (Int × Int × Int)) × Unit → Option (List (List Int)))) (c_impl_netOf : (Int × Int × (List (List Int)) × Bool × Unit → Option ((Int × Int × Int × List (Int × Int × Int)) × Bool))) (N : Nat) : LoopsOk N (E66 c_impl_NetOk c_impl_isNode c_impl_table c_impl_netOf) (A66 c_impl_NetOk c_impl_isNode c_impl_table c_impl_netOf N) Go.Proofs.Try.f66.ntmps (retOf (E66 c_impl_NetOk c_impl_isNode c_impl_table c_impl_netOf) Go.Proofs.Try.f66 (.tup net .bool)) (loopsOf (Go.Proofs.Try.f66.body.getD .skip)) :=
  LoopsOk.of (l := []) (by kernel_rfl) .nil
theorem There66 : There Go.Proofs.Try.prog 66 := ⟨_, Go.Proofs.Try.func66, by kernel_rfl, by kernel_rfl⟩
theorem C66 {c_impl_NetOk : ((Int × Int × Int × List (Int × Int × Int)) × Unit → Option Bool)} {c_impl_isNode : ((Int × Int × Int × List (Int × Int × Int)) × Int × Unit → Option Bool)} {c_impl_table : ((Int × Int × Int × List (Int × Int × Int)) × Unit → Option (List (List Int)))} {c_impl_netOf : (Int × Int × (List (List Int)) × Bool × Unit → Option ((Int × Int × Int × List (Int × Int × Int)) × Bool))} (h_c_impl_NetOk : Contract Go.Proofs.Try.prog 64 ⟨[net], .bool, c_impl_NetOk⟩) (h_c_impl_isNode : Contract Go.Proofs.Try.prog 105 ⟨[net, int], .bool, c_impl_isNode⟩) (h_c_impl_table : Contract Go.Proofs.Try.prog 75 ⟨[net], (.slice (.slice int)), c_impl_table⟩) (h_c_impl_netOf : Contract Go.Proofs.Try.prog 76 ⟨[int, int, (.slice (.slice int)), .bool], (.tup net .bool), c_impl_netOf⟩) {f : ((Int × Int × Int × List (Int × Int × Int)) × Int × Int × Int × Unit → Option ((Int × Int × Int × List (Int × Int × Int)) × Bool))} (h : ∀ a0 a1 a2 a3 r, f (a0, a1, a2, a3, ()) = some r → ∃ N, r_impl_PutWire c_impl_NetOk c_impl_isNode c_impl_table c_impl_netOf N a0 a1 a2 a3 = some r) : Contract Go.Proofs.Try.prog 66 ⟨[net, int, int, int], (.tup net .bool), f⟩ := by
  refine contract (E := E66 c_impl_NetOk c_impl_isNode c_impl_table c_impl_netOf) (envOf table ⟨⟨h_c_impl_NetOk, There64⟩, ⟨⟨h_c_impl_isNode, There105⟩, ⟨⟨h_c_impl_table, There75⟩, ⟨⟨h_c_impl_netOf, There76⟩, trivial⟩⟩⟩⟩ trivial) mixed Go.Proofs.Try.func66 (c := Go.Proofs.Try.f66.body.getD .skip) (by kernel_rfl) (Nat.le_of_ble_eq_true (by kernel_rfl)) fun xs r hr => ?_
  obtain ⟨a0, a1, a2, a3, _⟩ := xs
  obtain ⟨N, hN⟩ := h _ _ _ _ r hr
  exact ⟨N, A66 c_impl_NetOk c_impl_isNode c_impl_table c_impl_netOf N, L66 c_impl_NetOk c_impl_isNode c_impl_table c_impl_netOf N, (K66 c_impl_NetOk c_impl_isNode c_impl_table c_impl_netOf N a0 a1 a2 a3).trans hN⟩
theorem X66 : Contract Go.Proofs.Try.prog 66 ⟨[net, int, int, int], (.tup net .bool), e_impl_PutWire⟩ := C66 X64 X105 X75 X76 fun _ _ _ _ _ h => ⟨N0, h⟩
-- impl_ApplyFault
def E19 (c_impl_NetOk : ((Int × Int × Int × List (Int × Int × Int)) × Unit → Option Bool)) (c_impl_isWire : ((Int × Int × Int × List (Int × Int × Int)) × Int × Unit → Option Bool)) (c_impl_PutWire : ((Int × Int × Int × List (Int × Int × Int)) × Int × Int × Int × Unit → Option ((Int × Int × Int × List (Int × Int × Int)) × Bool))) : Env := ⟨tys, [], [(64, ⟨[net], .bool, c_impl_NetOk⟩), (65, ⟨[net, int], .bool, c_impl_isWire⟩), (66, ⟨[net, int, int, int], (.tup net .bool), c_impl_PutWire⟩)], []⟩
def A19 (_c_impl_NetOk : ((Int × Int × Int × List (Int × Int × Int)) × Unit → Option Bool)) (_c_impl_isWire : ((Int × Int × Int × List (Int × Int × Int)) × Int × Unit → Option Bool)) (_c_impl_PutWire : ((Int × Int × Int × List (Int × Int × Int)) × Int × Int × Int × Unit → Option ((Int × Int × Int × List (Int × Int × Int)) × Bool))) (_N : Nat) : List (Nat × Loop (Ty.den (.tup net .bool))) := []
theorem K19 (c_impl_NetOk : ((Int × Int × Int × List (Int × Int × Int)) × Unit → Option Bool)) (c_impl_isWire : ((Int × Int × Int × List (Int × Int × Int)) × Int × Unit → Option Bool)) (c_impl_PutWire : ((Int × Int × Int × List (Int × Int × Int)) × Int × Int × Int × Unit → Option ((Int × Int × Int × List (Int × Int × Int)) × Bool))) (N : Nat) (a0 : (Int × Int × Int × List (Int × Int × Int))) (a1 : (Int × Int)) : fnK N (E19 c_impl_NetOk c_impl_isWire c_impl_PutWire) Go.Proofs.Try.f19 [net, fault] (.tup net .bool) (A19 c_impl_NetOk c_impl_isWire c_impl_PutWire N) (a0, a1, ()) = r_impl_ApplyFault c_impl_NetOk c_impl_isWire c_impl_PutWire N a0 a1 := by kernel_rfl
theorem L19 (c_impl_NetOk : ((Int × Int × Int × List (Int × Int × Int)) × Unit → Option Bool)) (c_impl_isWire : ((Int × Int × Int × List (Int × Int × Int)) × Int × Unit → Option Bool)) (c_impl_PutWire : ((Int × Int × Int × List (Int × Int × Int)) × Int × Int × Int × Unit → Option ((Int × Int × Int × List (Int × Int × Int)) × Bool))) (N : Nat) : LoopsOk N (E19 c_impl_NetOk c_impl_isWire c_impl_PutWire) (A19 c_impl_NetOk c_impl_isWire c_impl_PutWire N) Go.Proofs.Try.f19.ntmps (retOf (E19 c_impl_NetOk c_impl_isWire c_impl_PutWire) Go.Proofs.Try.f19 (.tup net .bool)) (loopsOf (Go.Proofs.Try.f19.body.getD .skip)) :=
  LoopsOk.of (l := []) (by kernel_rfl) .nil
theorem There19 : There Go.Proofs.Try.prog 19 := ⟨_, Go.Proofs.Try.func19, by kernel_rfl, by kernel_rfl⟩
theorem C19 {c_impl_NetOk : ((Int × Int × Int × List (Int × Int × Int)) × Unit → Option Bool)} {c_impl_isWire : ((Int × Int × Int × List (Int × Int × Int)) × Int × Unit → Option Bool)} {c_impl_PutWire : ((Int × Int × Int × List (Int × Int × Int)) × Int × Int × Int × Unit → Option ((Int × Int × Int × List (Int × Int × Int)) × Bool))} (h_c_impl_NetOk : Contract Go.Proofs.Try.prog 64 ⟨[net], .bool, c_impl_NetOk⟩) (h_c_impl_isWire : Contract Go.Proofs.Try.prog 65 ⟨[net, int], .bool, c_impl_isWire⟩) (h_c_impl_PutWire : Contract Go.Proofs.Try.prog 66 ⟨[net, int, int, int], (.tup net .bool), c_impl_PutWire⟩) {f : ((Int × Int × Int × List (Int × Int × Int)) × (Int × Int) × Unit → Option ((Int × Int × Int × List (Int × Int × Int)) × Bool))} (h : ∀ a0 a1 r, f (a0, a1, ()) = some r → ∃ N, r_impl_ApplyFault c_impl_NetOk c_impl_isWire c_impl_PutWire N a0 a1 = some r) : Contract Go.Proofs.Try.prog 19 ⟨[net, fault], (.tup net .bool), f⟩ := by
  refine contract (E := E19 c_impl_NetOk c_impl_isWire c_impl_PutWire) (envOf table ⟨⟨h_c_impl_NetOk, There64⟩, ⟨⟨h_c_impl_isWire, There65⟩, ⟨⟨h_c_impl_PutWire, There66⟩, trivial⟩⟩⟩ trivial) mixed Go.Proofs.Try.func19 (c := Go.Proofs.Try.f19.body.getD .skip) (by kernel_rfl) (Nat.le_of_ble_eq_true (by kernel_rfl)) fun xs r hr => ?_
  obtain ⟨a0, a1, _⟩ := xs
  obtain ⟨N, hN⟩ := h _ _ r hr
  exact ⟨N, A19 c_impl_NetOk c_impl_isWire c_impl_PutWire N, L19 c_impl_NetOk c_impl_isWire c_impl_PutWire N, (K19 c_impl_NetOk c_impl_isWire c_impl_PutWire N a0 a1).trans hN⟩
theorem X19 : Contract Go.Proofs.Try.prog 19 ⟨[net, fault], (.tup net .bool), e_impl_ApplyFault⟩ := C19 X64 X65 X66 fun _ _ _ h => ⟨N0, h⟩
-- laws_eqWire
def E106 : Env := ⟨tys, [], [], []⟩
def A106 (_N : Nat) : List (Nat × Loop (Ty.den .bool)) := []
theorem K106 (N : Nat) (a0 : (Int × Int × Int)) (a1 : (Int × Int × Int)) : fnK N (E106) Go.Proofs.Try.f106 [wire, wire] .bool (A106 N) (a0, a1, ()) = r_laws_eqWire N a0 a1 := by kernel_rfl
theorem L106 (N : Nat) : LoopsOk N (E106) (A106 N) Go.Proofs.Try.f106.ntmps (retOf (E106) Go.Proofs.Try.f106 .bool) (loopsOf (Go.Proofs.Try.f106.body.getD .skip)) :=
  LoopsOk.of (l := []) (by kernel_rfl) .nil
theorem There106 : There Go.Proofs.Try.prog 106 := ⟨_, Go.Proofs.Try.func106, by kernel_rfl, by kernel_rfl⟩
theorem C106 {f : ((Int × Int × Int) × (Int × Int × Int) × Unit → Option Bool)} (h : ∀ a0 a1 r, f (a0, a1, ()) = some r → ∃ N, r_laws_eqWire N a0 a1 = some r) : Contract Go.Proofs.Try.prog 106 ⟨[wire, wire], .bool, f⟩ := by
  refine contract (E := E106) (envOf table trivial trivial) mixed Go.Proofs.Try.func106 (c := Go.Proofs.Try.f106.body.getD .skip) (by kernel_rfl) (Nat.le_of_ble_eq_true (by kernel_rfl)) fun xs r hr => ?_
  obtain ⟨a0, a1, _⟩ := xs
  obtain ⟨N, hN⟩ := h _ _ r hr
  exact ⟨N, A106 N, L106 N, (K106 N a0 a1).trans hN⟩
theorem X106 : Contract Go.Proofs.Try.prog 106 ⟨[wire, wire], .bool, e_laws_eqWire⟩ := C106 fun _ _ _ h => ⟨N0, h⟩
-- laws_eqWireS
def E67 (c_laws_eqWire : ((Int × Int × Int) × (Int × Int × Int) × Unit → Option Bool)) : Env := ⟨tys, [], [(106, ⟨[wire, wire], .bool, c_laws_eqWire⟩)], []⟩
def A67 (c_laws_eqWire : ((Int × Int × Int) × (Int × Int × Int) × Unit → Option Bool)) (N : Nat) : List (Nat × Loop (Ty.den .bool)) := [(0, ⟨[(0, .ro none (.slice (.pair (.num .i64) (.pair (.num .i64) (.num .i64))))), (1, .ro none (.slice (.pair (.num .i64) (.pair (.num .i64) (.num .i64))))), (5, .ro none (.num .i64))], r_laws_eqWireS_L0 c_laws_eqWire N⟩)]
theorem K67 (c_laws_eqWire : ((Int × Int × Int) × (Int × Int × Int) × Unit → Option Bool)) (N : Nat) (a0 : (List (Int × Int × Int))) (a1 : (List (Int × Int × Int))) : fnK N (E67 c_laws_eqWire) Go.Proofs.Try.f67 [(.slice wire), (.slice wire)] .bool (A67 c_laws_eqWire N) (a0, a1, ()) = r_laws_eqWireS c_laws_eqWire N a0 a1 := by kernel_rfl
theorem L67 (c_laws_eqWire : ((Int × Int × Int) × (Int × Int × Int) × Unit → Option Bool)) (N : Nat) : LoopsOk N (E67 c_laws_eqWire) (A67 c_laws_eqWire N) Go.Proofs.Try.f67.ntmps (retOf (E67 c_laws_eqWire) Go.Proofs.Try.f67 .bool) (loopsOf (Go.Proofs.Try.f67.body.getD .skip)) :=
  LoopsOk.of (l := [(0, lb Go.Proofs.Try.f67 0)]) (by kernel_rfl) (.cons (L := ⟨[(0, .ro none (.slice (.pair (.num .i64) (.pair (.num .i64) (.num .i64))))), (1, .ro none (.slice (.pair (.num .i64) (.pair (.num .i64) (.num .i64))))), (5, .ro none (.num .i64))], r_laws_eqWireS_L0 c_laws_eqWire N⟩) (by kernel_rfl) (by intro s kc ke env; kernel_rfl) .nil)
theorem There67 : There Go.Proofs.Try.prog 67 := ⟨_, Go.Proofs.Try.func67, by kernel_rfl, by kernel_rfl⟩
theorem C67 {c_laws_eqWire : ((Int × Int × Int) × (Int × Int × Int) × Unit → Option Bool)} (h_c_laws_eqWire : Contract Go.Proofs.Try.prog 106 ⟨[wire, wire], .bool, c_laws_eqWire⟩) {f : ((List (Int × Int × Int)) × (List (Int × Int × Int)) × Unit → Option Bool)} (h : ∀ a0 a1 r, f (a0, a1, ()) = some r → ∃ N, r_laws_eqWireS c_laws_eqWire N a0 a1 = some r) : Contract Go.Proofs.Try.prog 67 ⟨[(.slice wire), (.slice wire)], .bool, f⟩ := by
  refine contract (E := E67 c_laws_eqWire) (envOf table ⟨⟨h_c_laws_eqWire, There106⟩, trivial⟩ trivial) mixed Go.Proofs.Try.func67 (c := Go.Proofs.Try.f67.body.getD .skip) (by kernel_rfl) (Nat.le_of_ble_eq_true (by kernel_rfl)) fun xs r hr => ?_
  obtain ⟨a0, a1, _⟩ := xs
  obtain ⟨N, hN⟩ := h _ _ r hr
  exact ⟨N, A67 c_laws_eqWire N, L67 c_laws_eqWire N, (K67 c_laws_eqWire N a0 a1).trans hN⟩
theorem X67 : Contract Go.Proofs.Try.prog 67 ⟨[(.slice wire), (.slice wire)], .bool, e_laws_eqWireS⟩ := C67 X106 fun _ _ _ h => ⟨N0, h⟩
-- laws_eqNet
def E20 (c_laws_eqWireS : ((List (Int × Int × Int)) × (List (Int × Int × Int)) × Unit → Option Bool)) : Env := ⟨tys, [], [(67, ⟨[(.slice wire), (.slice wire)], .bool, c_laws_eqWireS⟩)], []⟩
def A20 (_c_laws_eqWireS : ((List (Int × Int × Int)) × (List (Int × Int × Int)) × Unit → Option Bool)) (_N : Nat) : List (Nat × Loop (Ty.den .bool)) := []
theorem K20 (c_laws_eqWireS : ((List (Int × Int × Int)) × (List (Int × Int × Int)) × Unit → Option Bool)) (N : Nat) (a0 : (Int × Int × Int × List (Int × Int × Int))) (a1 : (Int × Int × Int × List (Int × Int × Int))) : fnK N (E20 c_laws_eqWireS) Go.Proofs.Try.f20 [net, net] .bool (A20 c_laws_eqWireS N) (a0, a1, ()) = r_laws_eqNet c_laws_eqWireS N a0 a1 := by kernel_rfl
theorem L20 (c_laws_eqWireS : ((List (Int × Int × Int)) × (List (Int × Int × Int)) × Unit → Option Bool)) (N : Nat) : LoopsOk N (E20 c_laws_eqWireS) (A20 c_laws_eqWireS N) Go.Proofs.Try.f20.ntmps (retOf (E20 c_laws_eqWireS) Go.Proofs.Try.f20 .bool) (loopsOf (Go.Proofs.Try.f20.body.getD .skip)) :=
  LoopsOk.of (l := []) (by kernel_rfl) .nil
theorem There20 : There Go.Proofs.Try.prog 20 := ⟨_, Go.Proofs.Try.func20, by kernel_rfl, by kernel_rfl⟩
theorem C20 {c_laws_eqWireS : ((List (Int × Int × Int)) × (List (Int × Int × Int)) × Unit → Option Bool)} (h_c_laws_eqWireS : Contract Go.Proofs.Try.prog 67 ⟨[(.slice wire), (.slice wire)], .bool, c_laws_eqWireS⟩) {f : ((Int × Int × Int × List (Int × Int × Int)) × (Int × Int × Int × List (Int × Int × Int)) × Unit → Option Bool)} (h : ∀ a0 a1 r, f (a0, a1, ()) = some r → ∃ N, r_laws_eqNet c_laws_eqWireS N a0 a1 = some r) : Contract Go.Proofs.Try.prog 20 ⟨[net, net], .bool, f⟩ := by
  refine contract (E := E20 c_laws_eqWireS) (envOf table ⟨⟨h_c_laws_eqWireS, There67⟩, trivial⟩ trivial) mixed Go.Proofs.Try.func20 (c := Go.Proofs.Try.f20.body.getD .skip) (by kernel_rfl) (Nat.le_of_ble_eq_true (by kernel_rfl)) fun xs r hr => ?_
  obtain ⟨a0, a1, _⟩ := xs
  obtain ⟨N, hN⟩ := h _ _ r hr
  exact ⟨N, A20 c_laws_eqWireS N, L20 c_laws_eqWireS N, (K20 c_laws_eqWireS N a0 a1).trans hN⟩
theorem X20 : Contract Go.Proofs.Try.prog 20 ⟨[net, net], .bool, e_laws_eqNet⟩ := C20 X67 fun _ _ _ h => ⟨N0, h⟩
-- laws_markWireS
def E68 : Env := ⟨tys, [], [], []⟩
def A68 (N : Nat) : List (Nat × Loop (Ty.den (.slice wire) × resDen (some int))) := [(0, ⟨[(0, .own (.slice (.pair (.num .i64) (.pair (.num .i64) (.num .i64))))), (1, .ro none (.num .i64)), (5, .ro none (.num .i64))], r_laws_markWireS_L0 N⟩)]
theorem K68 (m_laws_markWireS_ : ((List (Int × Int × Int)) → (Int × Unit) → Option ((List (Int × Int × Int)) × Int))) (N : Nat) (a0 : (List (Int × Int × Int))) (a1 : Int) : fnMut N (E68) Go.Proofs.Try.f68 ⟨(.slice wire), 0, [int], some int, m_laws_markWireS_⟩ (A68 N) a0 (a1, ()) = r_laws_markWireS N a0 a1 := by kernel_rfl
theorem L68 (m_laws_markWireS_ : ((List (Int × Int × Int)) → (Int × Unit) → Option ((List (Int × Int × Int)) × Int))) (N : Nat) : LoopsOk N (E68) (A68 N) Go.Proofs.Try.f68.ntmps (retM (E68) Go.Proofs.Try.f68 ⟨(.slice wire), 0, [int], some int, m_laws_markWireS_⟩) (loopsOf (Go.Proofs.Try.f68.body.getD .skip)) :=
  LoopsOk.of (l := [(0, lb Go.Proofs.Try.f68 0)]) (by kernel_rfl) (.cons (L := ⟨[(0, .own (.slice (.pair (.num .i64) (.pair (.num .i64) (.num .i64))))), (1, .ro none (.num .i64)), (5, .ro none (.num .i64))], r_laws_markWireS_L0 N⟩) (by kernel_rfl) (by intro s kc ke env; kernel_rfl) .nil)
theorem There68 : There Go.Proofs.Try.prog 68 := ⟨_, Go.Proofs.Try.func68, by kernel_rfl, by kernel_rfl⟩
theorem C68 {f : ((List (Int × Int × Int)) → (Int × Unit) → Option ((List (Int × Int × Int)) × Int))} (h : ∀ a0 a1 r, f a0 (a1, ()) = some r → ∃ N, r_laws_markWireS N a0 a1 = some r) : MutC Go.Proofs.Try.prog 68 ⟨(.slice wire), 0, [int], some int, f⟩ := by
  refine mutC (E := E68) (envOf table trivial trivial) mixed Go.Proofs.Try.func68 (c := Go.Proofs.Try.f68.body.getD .skip) (by kernel_rfl) (Nat.le_of_ble_eq_true (by kernel_rfl)) (Nat.le_of_ble_eq_true (by kernel_rfl)) (by kernel_rfl) fun a0 xs r hr => ?_
  obtain ⟨a1, _⟩ := xs
  obtain ⟨N, hN⟩ := h _ _ r hr
  exact ⟨N, A68 N, L68 f N, (K68 f N a0 a1).trans hN⟩
theorem X68 : MutC Go.Proofs.Try.prog 68 ⟨(.slice wire), 0, [int], some int, e_laws_markWireS⟩ := C68 fun _ _ _ h => ⟨N0, h⟩
-- laws_markNet
theorem There21 : There Go.Proofs.Try.prog 21 := ⟨_, Go.Proofs.Try.func21, by kernel_rfl, by kernel_rfl⟩
theorem X21 : MutC Go.Proofs.Try.prog 21 ⟨net, 0, [int], some int, e_laws_markNet⟩ :=
  mutC_net (envOf (mu := []) (sp := []) table trivial trivial) (D := 30) (S := 28) (by kernel_rfl) (by kernel_rfl) (by kernel_rfl) X68 There68 Go.Proofs.Try.func21 rfl rfl rfl

-- laws_heldWireS
def E69 : Env := ⟨tys, [], [], []⟩
def A69 (N : Nat) : List (Nat × Loop (Ty.den int)) := [(0, ⟨[(0, .ro none (.slice (.pair (.num .i64) (.pair (.num .i64) (.num .i64))))), (1, .ro none (.num .i64)), (5, .ro none (.num .i64))], r_laws_heldWireS_L0 N⟩)]
theorem K69 (N : Nat) (a0 : (List (Int × Int × Int))) (a1 : Int) : fnK N (E69) Go.Proofs.Try.f69 [(.slice wire), int] int (A69 N) (a0, a1, ()) = r_laws_heldWireS N a0 a1 := by kernel_rfl
theorem L69 (N : Nat) : LoopsOk N (E69) (A69 N) Go.Proofs.Try.f69.ntmps (retOf (E69) Go.Proofs.Try.f69 int) (loopsOf (Go.Proofs.Try.f69.body.getD .skip)) :=
  LoopsOk.of (l := [(0, lb Go.Proofs.Try.f69 0)]) (by kernel_rfl) (.cons (L := ⟨[(0, .ro none (.slice (.pair (.num .i64) (.pair (.num .i64) (.num .i64))))), (1, .ro none (.num .i64)), (5, .ro none (.num .i64))], r_laws_heldWireS_L0 N⟩) (by kernel_rfl) (by intro s kc ke env; kernel_rfl) .nil)
theorem There69 : There Go.Proofs.Try.prog 69 := ⟨_, Go.Proofs.Try.func69, by kernel_rfl, by kernel_rfl⟩
theorem C69 {f : ((List (Int × Int × Int)) × Int × Unit → Option Int)} (h : ∀ a0 a1 r, f (a0, a1, ()) = some r → ∃ N, r_laws_heldWireS N a0 a1 = some r) : Contract Go.Proofs.Try.prog 69 ⟨[(.slice wire), int], int, f⟩ := by
  refine contract (E := E69) (envOf table trivial trivial) mixed Go.Proofs.Try.func69 (c := Go.Proofs.Try.f69.body.getD .skip) (by kernel_rfl) (Nat.le_of_ble_eq_true (by kernel_rfl)) fun xs r hr => ?_
  obtain ⟨a0, a1, _⟩ := xs
  obtain ⟨N, hN⟩ := h _ _ r hr
  exact ⟨N, A69 N, L69 N, (K69 N a0 a1).trans hN⟩
theorem X69 : Contract Go.Proofs.Try.prog 69 ⟨[(.slice wire), int], int, e_laws_heldWireS⟩ := C69 fun _ _ _ h => ⟨N0, h⟩
-- laws_heldNet
def E22 (c_laws_heldWireS : ((List (Int × Int × Int)) × Int × Unit → Option Int)) : Env := ⟨tys, [], [(69, ⟨[(.slice wire), int], int, c_laws_heldWireS⟩)], []⟩
def A22 (_c_laws_heldWireS : ((List (Int × Int × Int)) × Int × Unit → Option Int)) (_N : Nat) : List (Nat × Loop (Ty.den int)) := []
theorem K22 (c_laws_heldWireS : ((List (Int × Int × Int)) × Int × Unit → Option Int)) (N : Nat) (a0 : (Int × Int × Int × List (Int × Int × Int))) (a1 : Int) : fnK N (E22 c_laws_heldWireS) Go.Proofs.Try.f22 [net, int] int (A22 c_laws_heldWireS N) (a0, a1, ()) = r_laws_heldNet c_laws_heldWireS N a0 a1 := by kernel_rfl
theorem L22 (c_laws_heldWireS : ((List (Int × Int × Int)) × Int × Unit → Option Int)) (N : Nat) : LoopsOk N (E22 c_laws_heldWireS) (A22 c_laws_heldWireS N) Go.Proofs.Try.f22.ntmps (retOf (E22 c_laws_heldWireS) Go.Proofs.Try.f22 int) (loopsOf (Go.Proofs.Try.f22.body.getD .skip)) :=
  LoopsOk.of (l := []) (by kernel_rfl) .nil
theorem There22 : There Go.Proofs.Try.prog 22 := ⟨_, Go.Proofs.Try.func22, by kernel_rfl, by kernel_rfl⟩
theorem C22 {c_laws_heldWireS : ((List (Int × Int × Int)) × Int × Unit → Option Int)} (h_c_laws_heldWireS : Contract Go.Proofs.Try.prog 69 ⟨[(.slice wire), int], int, c_laws_heldWireS⟩) {f : ((Int × Int × Int × List (Int × Int × Int)) × Int × Unit → Option Int)} (h : ∀ a0 a1 r, f (a0, a1, ()) = some r → ∃ N, r_laws_heldNet c_laws_heldWireS N a0 a1 = some r) : Contract Go.Proofs.Try.prog 22 ⟨[net, int], int, f⟩ := by
  refine contract (E := E22 c_laws_heldWireS) (envOf table ⟨⟨h_c_laws_heldWireS, There69⟩, trivial⟩ trivial) mixed Go.Proofs.Try.func22 (c := Go.Proofs.Try.f22.body.getD .skip) (by kernel_rfl) (Nat.le_of_ble_eq_true (by kernel_rfl)) fun xs r hr => ?_
  obtain ⟨a0, a1, _⟩ := xs
  obtain ⟨N, hN⟩ := h _ _ r hr
  exact ⟨N, A22 c_laws_heldWireS N, L22 c_laws_heldWireS N, (K22 c_laws_heldWireS N a0 a1).trans hN⟩
theorem X22 : Contract Go.Proofs.Try.prog 22 ⟨[net, int], int, e_laws_heldNet⟩ := C22 X69 fun _ _ _ h => ⟨N0, h⟩
-- laws_FnExactApplyFault
def E3 (c_laws_szNet : ((Int × Int × Int × List (Int × Int × Int)) × Int × Unit → Option Int)) (c_laws_toNet : ((Int × Int × Int × List (Int × Int × Int)) × Unit → Option (Int × Int × Int × List (Int × Int × Int)))) (c_laws_toFault : ((Int × Int) × Unit → Option (Int × Int))) (c_spec_ApplyFault : ((Int × Int × Int × List (Int × Int × Int)) × (Int × Int) × Unit → Option ((Int × Int × Int × List (Int × Int × Int)) × Bool))) (c_impl_ApplyFault : ((Int × Int × Int × List (Int × Int × Int)) × (Int × Int) × Unit → Option ((Int × Int × Int × List (Int × Int × Int)) × Bool))) (c_laws_eqNet : ((Int × Int × Int × List (Int × Int × Int)) × (Int × Int × Int × List (Int × Int × Int)) × Unit → Option Bool)) (m_laws_markNet : ((Int × Int × Int × List (Int × Int × Int)) → (Int × Unit) → Option ((Int × Int × Int × List (Int × Int × Int)) × Int))) (c_laws_heldNet : ((Int × Int × Int × List (Int × Int × Int)) × Int × Unit → Option Int)) : Env := ⟨tys, [], [(15, ⟨[net, int], int, c_laws_szNet⟩), (17, ⟨[net], net, c_laws_toNet⟩), (18, ⟨[fault], fault, c_laws_toFault⟩), (16, ⟨[net, fault], (.tup net .bool), c_spec_ApplyFault⟩), (19, ⟨[net, fault], (.tup net .bool), c_impl_ApplyFault⟩), (20, ⟨[net, net], .bool, c_laws_eqNet⟩), (22, ⟨[net, int], int, c_laws_heldNet⟩)], [(21, ⟨net, 0, [int], some int, m_laws_markNet⟩)]⟩
def A3 (_c_laws_szNet : ((Int × Int × Int × List (Int × Int × Int)) × Int × Unit → Option Int)) (_c_laws_toNet : ((Int × Int × Int × List (Int × Int × Int)) × Unit → Option (Int × Int × Int × List (Int × Int × Int)))) (_c_laws_toFault : ((Int × Int) × Unit → Option (Int × Int))) (_c_spec_ApplyFault : ((Int × Int × Int × List (Int × Int × Int)) × (Int × Int) × Unit → Option ((Int × Int × Int × List (Int × Int × Int)) × Bool))) (_c_impl_ApplyFault : ((Int × Int × Int × List (Int × Int × Int)) × (Int × Int) × Unit → Option ((Int × Int × Int × List (Int × Int × Int)) × Bool))) (_c_laws_eqNet : ((Int × Int × Int × List (Int × Int × Int)) × (Int × Int × Int × List (Int × Int × Int)) × Unit → Option Bool)) (_m_laws_markNet : ((Int × Int × Int × List (Int × Int × Int)) → (Int × Unit) → Option ((Int × Int × Int × List (Int × Int × Int)) × Int))) (_c_laws_heldNet : ((Int × Int × Int × List (Int × Int × Int)) × Int × Unit → Option Int)) (_N : Nat) : List (Nat × Loop (Ty.den .bool)) := []
theorem K3 (c_laws_szNet : ((Int × Int × Int × List (Int × Int × Int)) × Int × Unit → Option Int)) (c_laws_toNet : ((Int × Int × Int × List (Int × Int × Int)) × Unit → Option (Int × Int × Int × List (Int × Int × Int)))) (c_laws_toFault : ((Int × Int) × Unit → Option (Int × Int))) (c_spec_ApplyFault : ((Int × Int × Int × List (Int × Int × Int)) × (Int × Int) × Unit → Option ((Int × Int × Int × List (Int × Int × Int)) × Bool))) (c_impl_ApplyFault : ((Int × Int × Int × List (Int × Int × Int)) × (Int × Int) × Unit → Option ((Int × Int × Int × List (Int × Int × Int)) × Bool))) (c_laws_eqNet : ((Int × Int × Int × List (Int × Int × Int)) × (Int × Int × Int × List (Int × Int × Int)) × Unit → Option Bool)) (m_laws_markNet : ((Int × Int × Int × List (Int × Int × Int)) → (Int × Unit) → Option ((Int × Int × Int × List (Int × Int × Int)) × Int))) (c_laws_heldNet : ((Int × Int × Int × List (Int × Int × Int)) × Int × Unit → Option Int)) (N : Nat) (a0 : (Int × Int × Int × List (Int × Int × Int))) (a1 : (Int × Int)) : fnK N (E3 c_laws_szNet c_laws_toNet c_laws_toFault c_spec_ApplyFault c_impl_ApplyFault c_laws_eqNet m_laws_markNet c_laws_heldNet) Go.Proofs.Try.f3 [net, fault] .bool (A3 c_laws_szNet c_laws_toNet c_laws_toFault c_spec_ApplyFault c_impl_ApplyFault c_laws_eqNet m_laws_markNet c_laws_heldNet N) (a0, a1, ()) = r_laws_FnExactApplyFault c_laws_szNet c_laws_toNet c_laws_toFault c_spec_ApplyFault c_impl_ApplyFault c_laws_eqNet m_laws_markNet c_laws_heldNet N a0 a1 := by kernel_rfl
theorem L3 (c_laws_szNet : ((Int × Int × Int × List (Int × Int × Int)) × Int × Unit → Option Int)) (c_laws_toNet : ((Int × Int × Int × List (Int × Int × Int)) × Unit → Option (Int × Int × Int × List (Int × Int × Int)))) (c_laws_toFault : ((Int × Int) × Unit → Option (Int × Int))) (c_spec_ApplyFault : ((Int × Int × Int × List (Int × Int × Int)) × (Int × Int) × Unit → Option ((Int × Int × Int × List (Int × Int × Int)) × Bool))) (c_impl_ApplyFault : ((Int × Int × Int × List (Int × Int × Int)) × (Int × Int) × Unit → Option ((Int × Int × Int × List (Int × Int × Int)) × Bool))) (c_laws_eqNet : ((Int × Int × Int × List (Int × Int × Int)) × (Int × Int × Int × List (Int × Int × Int)) × Unit → Option Bool)) (m_laws_markNet : ((Int × Int × Int × List (Int × Int × Int)) → (Int × Unit) → Option ((Int × Int × Int × List (Int × Int × Int)) × Int))) (c_laws_heldNet : ((Int × Int × Int × List (Int × Int × Int)) × Int × Unit → Option Int)) (N : Nat) : LoopsOk N (E3 c_laws_szNet c_laws_toNet c_laws_toFault c_spec_ApplyFault c_impl_ApplyFault c_laws_eqNet m_laws_markNet c_laws_heldNet) (A3 c_laws_szNet c_laws_toNet c_laws_toFault c_spec_ApplyFault c_impl_ApplyFault c_laws_eqNet m_laws_markNet c_laws_heldNet N) Go.Proofs.Try.f3.ntmps (retOf (E3 c_laws_szNet c_laws_toNet c_laws_toFault c_spec_ApplyFault c_impl_ApplyFault c_laws_eqNet m_laws_markNet c_laws_heldNet) Go.Proofs.Try.f3 .bool) (loopsOf (Go.Proofs.Try.f3.body.getD .skip)) :=
  LoopsOk.of (l := []) (by kernel_rfl) .nil
theorem There3 : There Go.Proofs.Try.prog 3 := ⟨_, Go.Proofs.Try.func3, by kernel_rfl, by kernel_rfl⟩
theorem C3 {c_laws_szNet : ((Int × Int × Int × List (Int × Int × Int)) × Int × Unit → Option Int)} {c_laws_toNet : ((Int × Int × Int × List (Int × Int × Int)) × Unit → Option (Int × Int × Int × List (Int × Int × Int)))} {c_laws_toFault : ((Int × Int) × Unit → Option (Int × Int))} {c_spec_ApplyFault : ((Int × Int × Int × List (Int × Int × Int)) × (Int × Int) × Unit → Option ((Int × Int × Int × List (Int × Int × Int)) × Bool))} {c_impl_ApplyFault : ((Int × Int × Int × List (Int × Int × Int)) × (Int × Int) × Unit → Option ((Int × Int × Int × List (Int × Int × Int)) × Bool))} {c_laws_eqNet : ((Int × Int × Int × List (Int × Int × Int)) × (Int × Int × Int × List (Int × Int × Int)) × Unit → Option Bool)} {m_laws_markNet : ((Int × Int × Int × List (Int × Int × Int)) → (Int × Unit) → Option ((Int × Int × Int × List (Int × Int × Int)) × Int))} {c_laws_heldNet : ((Int × Int × Int × List (Int × Int × Int)) × Int × Unit → Option Int)} (h_c_laws_szNet : Contract Go.Proofs.Try.prog 15 ⟨[net, int], int, c_laws_szNet⟩) (h_c_laws_toNet : Contract Go.Proofs.Try.prog 17 ⟨[net], net, c_laws_toNet⟩) (h_c_laws_toFault : Contract Go.Proofs.Try.prog 18 ⟨[fault], fault, c_laws_toFault⟩) (h_c_spec_ApplyFault : Contract Go.Proofs.Try.prog 16 ⟨[net, fault], (.tup net .bool), c_spec_ApplyFault⟩) (h_c_impl_ApplyFault : Contract Go.Proofs.Try.prog 19 ⟨[net, fault], (.tup net .bool), c_impl_ApplyFault⟩) (h_c_laws_eqNet : Contract Go.Proofs.Try.prog 20 ⟨[net, net], .bool, c_laws_eqNet⟩) (h_m_laws_markNet : MutC Go.Proofs.Try.prog 21 ⟨net, 0, [int], some int, m_laws_markNet⟩) (h_c_laws_heldNet : Contract Go.Proofs.Try.prog 22 ⟨[net, int], int, c_laws_heldNet⟩) {f : ((Int × Int × Int × List (Int × Int × Int)) × (Int × Int) × Unit → Option Bool)} (h : ∀ a0 a1 r, f (a0, a1, ()) = some r → ∃ N, r_laws_FnExactApplyFault c_laws_szNet c_laws_toNet c_laws_toFault c_spec_ApplyFault c_impl_ApplyFault c_laws_eqNet m_laws_markNet c_laws_heldNet N a0 a1 = some r) : Contract Go.Proofs.Try.prog 3 ⟨[net, fault], .bool, f⟩ := by
  refine contract (E := E3 c_laws_szNet c_laws_toNet c_laws_toFault c_spec_ApplyFault c_impl_ApplyFault c_laws_eqNet m_laws_markNet c_laws_heldNet) (envOf table ⟨⟨h_c_laws_szNet, There15⟩, ⟨⟨h_c_laws_toNet, There17⟩, ⟨⟨h_c_laws_toFault, There18⟩, ⟨⟨h_c_spec_ApplyFault, There16⟩, ⟨⟨h_c_impl_ApplyFault, There19⟩, ⟨⟨h_c_laws_eqNet, There20⟩, ⟨⟨h_c_laws_heldNet, There22⟩, trivial⟩⟩⟩⟩⟩⟩⟩ ⟨⟨h_m_laws_markNet, There21⟩, trivial⟩) mixed Go.Proofs.Try.func3 (c := Go.Proofs.Try.f3.body.getD .skip) (by kernel_rfl) (Nat.le_of_ble_eq_true (by kernel_rfl)) fun xs r hr => ?_
  obtain ⟨a0, a1, _⟩ := xs
  obtain ⟨N, hN⟩ := h _ _ r hr
  exact ⟨N, A3 c_laws_szNet c_laws_toNet c_laws_toFault c_spec_ApplyFault c_impl_ApplyFault c_laws_eqNet m_laws_markNet c_laws_heldNet N, L3 c_laws_szNet c_laws_toNet c_laws_toFault c_spec_ApplyFault c_impl_ApplyFault c_laws_eqNet m_laws_markNet c_laws_heldNet N, (K3 c_laws_szNet c_laws_toNet c_laws_toFault c_spec_ApplyFault c_impl_ApplyFault c_laws_eqNet m_laws_markNet c_laws_heldNet N a0 a1).trans hN⟩
theorem X3 : Contract Go.Proofs.Try.prog 3 ⟨[net, fault], .bool, e_laws_FnExactApplyFault⟩ := C3 X15 X17 X18 X16 X19 X20 X21 X22 fun _ _ _ h => ⟨N0, h⟩
-- spec_AllFaults
def E23 (c_spec_NetOk : ((Int × Int × Int × List (Int × Int × Int)) × Unit → Option Bool)) (c_spec_ApplyFault : ((Int × Int × Int × List (Int × Int × Int)) × (Int × Int) × Unit → Option ((Int × Int × Int × List (Int × Int × Int)) × Bool))) : Env := ⟨tys, [], [(59, ⟨[net], .bool, c_spec_NetOk⟩), (16, ⟨[net, fault], (.tup net .bool), c_spec_ApplyFault⟩)], []⟩
def A23 (c_spec_NetOk : ((Int × Int × Int × List (Int × Int × Int)) × Unit → Option Bool)) (c_spec_ApplyFault : ((Int × Int × Int × List (Int × Int × Int)) × (Int × Int) × Unit → Option ((Int × Int × Int × List (Int × Int × Int)) × Bool))) (N : Nat) : List (Nat × Loop (Ty.den (.slice fault))) := [(0, ⟨[(1, .box false (.pair (.num .i64) (.pair (.num .i64) (.pair (.num .i64) (.slice (.pair (.num .i64) (.pair (.num .i64) (.num .i64)))))))), (3, .own (.slice (.pair (.num .i64) (.num .i64)))), (15, .ro none (.num .i64)), (16, .ro none (.num .i64))], r_spec_AllFaults_L0 c_spec_NetOk c_spec_ApplyFault N⟩), (2, ⟨[(1, .box false (.pair (.num .i64) (.pair (.num .i64) (.pair (.num .i64) (.slice (.pair (.num .i64) (.pair (.num .i64) (.num .i64)))))))), (3, .own (.slice (.pair (.num .i64) (.num .i64)))), (4, .ro none (.num .i64)), (5, .ro none (.num .i64)), (15, .ro none (.num .i64)), (16, .ro none (.num .i64))], r_spec_AllFaults_L2 c_spec_NetOk c_spec_ApplyFault N⟩)]
theorem K23 (c_spec_NetOk : ((Int × Int × Int × List (Int × Int × Int)) × Unit → Option Bool)) (c_spec_ApplyFault : ((Int × Int × Int × List (Int × Int × Int)) × (Int × Int) × Unit → Option ((Int × Int × Int × List (Int × Int × Int)) × Bool))) (N : Nat) (a0 : (Int × Int × Int × List (Int × Int × Int))) : fnK N (E23 c_spec_NetOk c_spec_ApplyFault) Go.Proofs.Try.f23 [net] (.slice fault) (A23 c_spec_NetOk c_spec_ApplyFault N) (a0, ()) = r_spec_AllFaults c_spec_NetOk c_spec_ApplyFault N a0 := by kernel_rfl
theorem L23 (c_spec_NetOk : ((Int × Int × Int × List (Int × Int × Int)) × Unit → Option Bool)) (c_spec_ApplyFault : ((Int × Int × Int × List (Int × Int × Int)) × (Int × Int) × Unit → Option ((Int × Int × Int × List (Int × Int × Int)) × Bool))) (N : Nat) : LoopsOk N (E23 c_spec_NetOk c_spec_ApplyFault) (A23 c_spec_NetOk c_spec_ApplyFault N) Go.Proofs.Try.f23.ntmps (retOf (E23 c_spec_NetOk c_spec_ApplyFault) Go.Proofs.Try.f23 (.slice fault)) (loopsOf (Go.Proofs.Try.f23.body.getD .skip)) :=
  LoopsOk.of (l := [(0, lb Go.Proofs.Try.f23 0), (2, lb Go.Proofs.Try.f23 1)]) (by kernel_rfl) (.cons (L := ⟨[(1, .box false (.pair (.num .i64) (.pair (.num .i64) (.pair (.num .i64) (.slice (.pair (.num .i64) (.pair (.num .i64) (.num .i64)))))))), (3, .own (.slice (.pair (.num .i64) (.num .i64)))), (15, .ro none (.num .i64)), (16, .ro none (.num .i64))], r_spec_AllFaults_L0 c_spec_NetOk c_spec_ApplyFault N⟩) (by kernel_rfl) (by intro s kc ke env; kernel_rfl) (.cons (L := ⟨[(1, .box false (.pair (.num .i64) (.pair (.num .i64) (.pair (.num .i64) (.slice (.pair (.num .i64) (.pair (.num .i64) (.num .i64)))))))), (3, .own (.slice (.pair (.num .i64) (.num .i64)))), (4, .ro none (.num .i64)), (5, .ro none (.num .i64)), (15, .ro none (.num .i64)), (16, .ro none (.num .i64))], r_spec_AllFaults_L2 c_spec_NetOk c_spec_ApplyFault N⟩) (by kernel_rfl) (by intro s kc ke env; kernel_rfl) .nil))
theorem There23 : There Go.Proofs.Try.prog 23 := ⟨_, Go.Proofs.Try.func23, by kernel_rfl, by kernel_rfl⟩
theorem C23 {c_spec_NetOk : ((Int × Int × Int × List (Int × Int × Int)) × Unit → Option Bool)} {c_spec_ApplyFault : ((Int × Int × Int × List (Int × Int × Int)) × (Int × Int) × Unit → Option ((Int × Int × Int × List (Int × Int × Int)) × Bool))} (h_c_spec_NetOk : Contract Go.Proofs.Try.prog 59 ⟨[net], .bool, c_spec_NetOk⟩) (h_c_spec_ApplyFault : Contract Go.Proofs.Try.prog 16 ⟨[net, fault], (.tup net .bool), c_spec_ApplyFault⟩) {f : ((Int × Int × Int × List (Int × Int × Int)) × Unit → Option (List (Int × Int)))} (h : ∀ a0 r, f (a0, ()) = some r → ∃ N, r_spec_AllFaults c_spec_NetOk c_spec_ApplyFault N a0 = some r) : Contract Go.Proofs.Try.prog 23 ⟨[net], (.slice fault), f⟩ := by
  refine contract (E := E23 c_spec_NetOk c_spec_ApplyFault) (envOf table ⟨⟨h_c_spec_NetOk, There59⟩, ⟨⟨h_c_spec_ApplyFault, There16⟩, trivial⟩⟩ trivial) mixed Go.Proofs.Try.func23 (c := Go.Proofs.Try.f23.body.getD .skip) (by kernel_rfl) (Nat.le_of_ble_eq_true (by kernel_rfl)) fun xs r hr => ?_
  obtain ⟨a0, _⟩ := xs
  obtain ⟨N, hN⟩ := h _ r hr
  exact ⟨N, A23 c_spec_NetOk c_spec_ApplyFault N, L23 c_spec_NetOk c_spec_ApplyFault N, (K23 c_spec_NetOk c_spec_ApplyFault N a0).trans hN⟩
theorem X23 : Contract Go.Proofs.Try.prog 23 ⟨[net], (.slice fault), e_spec_AllFaults⟩ := C23 X59 X16 fun _ _ h => ⟨N0, h⟩
-- impl_AllFaults
def E24 (c_impl_NetOk : ((Int × Int × Int × List (Int × Int × Int)) × Unit → Option Bool)) (c_impl_ApplyFault : ((Int × Int × Int × List (Int × Int × Int)) × (Int × Int) × Unit → Option ((Int × Int × Int × List (Int × Int × Int)) × Bool))) : Env := ⟨tys, [], [(64, ⟨[net], .bool, c_impl_NetOk⟩), (19, ⟨[net, fault], (.tup net .bool), c_impl_ApplyFault⟩)], []⟩
def A24 (c_impl_NetOk : ((Int × Int × Int × List (Int × Int × Int)) × Unit → Option Bool)) (c_impl_ApplyFault : ((Int × Int × Int × List (Int × Int × Int)) × (Int × Int) × Unit → Option ((Int × Int × Int × List (Int × Int × Int)) × Bool))) (N : Nat) : List (Nat × Loop (Ty.den (.slice fault))) := [(0, ⟨[(1, .box false (.pair (.num .i64) (.pair (.num .i64) (.pair (.num .i64) (.slice (.pair (.num .i64) (.pair (.num .i64) (.num .i64)))))))), (3, .own (.slice (.pair (.num .i64) (.num .i64)))), (15, .ro none (.num .i64)), (16, .ro none (.num .i64))], r_impl_AllFaults_L0 c_impl_NetOk c_impl_ApplyFault N⟩), (2, ⟨[(1, .box false (.pair (.num .i64) (.pair (.num .i64) (.pair (.num .i64) (.slice (.pair (.num .i64) (.pair (.num .i64) (.num .i64)))))))), (3, .own (.slice (.pair (.num .i64) (.num .i64)))), (4, .ro none (.num .i64)), (15, .ro none (.num .i64)), (16, .ro none (.num .i64)), (19, .ro none (.num .i64))], r_impl_AllFaults_L2 c_impl_NetOk c_impl_ApplyFault N⟩)]
theorem K24 (c_impl_NetOk : ((Int × Int × Int × List (Int × Int × Int)) × Unit → Option Bool)) (c_impl_ApplyFault : ((Int × Int × Int × List (Int × Int × Int)) × (Int × Int) × Unit → Option ((Int × Int × Int × List (Int × Int × Int)) × Bool))) (N : Nat) (a0 : (Int × Int × Int × List (Int × Int × Int))) : fnK N (E24 c_impl_NetOk c_impl_ApplyFault) Go.Proofs.Try.f24 [net] (.slice fault) (A24 c_impl_NetOk c_impl_ApplyFault N) (a0, ()) = r_impl_AllFaults c_impl_NetOk c_impl_ApplyFault N a0 := by kernel_rfl
theorem L24 (c_impl_NetOk : ((Int × Int × Int × List (Int × Int × Int)) × Unit → Option Bool)) (c_impl_ApplyFault : ((Int × Int × Int × List (Int × Int × Int)) × (Int × Int) × Unit → Option ((Int × Int × Int × List (Int × Int × Int)) × Bool))) (N : Nat) : LoopsOk N (E24 c_impl_NetOk c_impl_ApplyFault) (A24 c_impl_NetOk c_impl_ApplyFault N) Go.Proofs.Try.f24.ntmps (retOf (E24 c_impl_NetOk c_impl_ApplyFault) Go.Proofs.Try.f24 (.slice fault)) (loopsOf (Go.Proofs.Try.f24.body.getD .skip)) :=
  LoopsOk.of (l := [(0, lb Go.Proofs.Try.f24 0), (2, lb Go.Proofs.Try.f24 1)]) (by kernel_rfl) (.cons (L := ⟨[(1, .box false (.pair (.num .i64) (.pair (.num .i64) (.pair (.num .i64) (.slice (.pair (.num .i64) (.pair (.num .i64) (.num .i64)))))))), (3, .own (.slice (.pair (.num .i64) (.num .i64)))), (15, .ro none (.num .i64)), (16, .ro none (.num .i64))], r_impl_AllFaults_L0 c_impl_NetOk c_impl_ApplyFault N⟩) (by kernel_rfl) (by intro s kc ke env; kernel_rfl) (.cons (L := ⟨[(1, .box false (.pair (.num .i64) (.pair (.num .i64) (.pair (.num .i64) (.slice (.pair (.num .i64) (.pair (.num .i64) (.num .i64)))))))), (3, .own (.slice (.pair (.num .i64) (.num .i64)))), (4, .ro none (.num .i64)), (15, .ro none (.num .i64)), (16, .ro none (.num .i64)), (19, .ro none (.num .i64))], r_impl_AllFaults_L2 c_impl_NetOk c_impl_ApplyFault N⟩) (by kernel_rfl) (by intro s kc ke env; kernel_rfl) .nil))
theorem There24 : There Go.Proofs.Try.prog 24 := ⟨_, Go.Proofs.Try.func24, by kernel_rfl, by kernel_rfl⟩
theorem C24 {c_impl_NetOk : ((Int × Int × Int × List (Int × Int × Int)) × Unit → Option Bool)} {c_impl_ApplyFault : ((Int × Int × Int × List (Int × Int × Int)) × (Int × Int) × Unit → Option ((Int × Int × Int × List (Int × Int × Int)) × Bool))} (h_c_impl_NetOk : Contract Go.Proofs.Try.prog 64 ⟨[net], .bool, c_impl_NetOk⟩) (h_c_impl_ApplyFault : Contract Go.Proofs.Try.prog 19 ⟨[net, fault], (.tup net .bool), c_impl_ApplyFault⟩) {f : ((Int × Int × Int × List (Int × Int × Int)) × Unit → Option (List (Int × Int)))} (h : ∀ a0 r, f (a0, ()) = some r → ∃ N, r_impl_AllFaults c_impl_NetOk c_impl_ApplyFault N a0 = some r) : Contract Go.Proofs.Try.prog 24 ⟨[net], (.slice fault), f⟩ := by
  refine contract (E := E24 c_impl_NetOk c_impl_ApplyFault) (envOf table ⟨⟨h_c_impl_NetOk, There64⟩, ⟨⟨h_c_impl_ApplyFault, There19⟩, trivial⟩⟩ trivial) mixed Go.Proofs.Try.func24 (c := Go.Proofs.Try.f24.body.getD .skip) (by kernel_rfl) (Nat.le_of_ble_eq_true (by kernel_rfl)) fun xs r hr => ?_
  obtain ⟨a0, _⟩ := xs
  obtain ⟨N, hN⟩ := h _ r hr
  exact ⟨N, A24 c_impl_NetOk c_impl_ApplyFault N, L24 c_impl_NetOk c_impl_ApplyFault N, (K24 c_impl_NetOk c_impl_ApplyFault N a0).trans hN⟩
theorem X24 : Contract Go.Proofs.Try.prog 24 ⟨[net], (.slice fault), e_impl_AllFaults⟩ := C24 X64 X19 fun _ _ h => ⟨N0, h⟩
-- laws_eqFault
def E70 : Env := ⟨tys, [], [], []⟩
def A70 (_N : Nat) : List (Nat × Loop (Ty.den .bool)) := []
theorem K70 (N : Nat) (a0 : (Int × Int)) (a1 : (Int × Int)) : fnK N (E70) Go.Proofs.Try.f70 [fault, fault] .bool (A70 N) (a0, a1, ()) = r_laws_eqFault N a0 a1 := by kernel_rfl
theorem L70 (N : Nat) : LoopsOk N (E70) (A70 N) Go.Proofs.Try.f70.ntmps (retOf (E70) Go.Proofs.Try.f70 .bool) (loopsOf (Go.Proofs.Try.f70.body.getD .skip)) :=
  LoopsOk.of (l := []) (by kernel_rfl) .nil
theorem There70 : There Go.Proofs.Try.prog 70 := ⟨_, Go.Proofs.Try.func70, by kernel_rfl, by kernel_rfl⟩
theorem C70 {f : ((Int × Int) × (Int × Int) × Unit → Option Bool)} (h : ∀ a0 a1 r, f (a0, a1, ()) = some r → ∃ N, r_laws_eqFault N a0 a1 = some r) : Contract Go.Proofs.Try.prog 70 ⟨[fault, fault], .bool, f⟩ := by
  refine contract (E := E70) (envOf table trivial trivial) mixed Go.Proofs.Try.func70 (c := Go.Proofs.Try.f70.body.getD .skip) (by kernel_rfl) (Nat.le_of_ble_eq_true (by kernel_rfl)) fun xs r hr => ?_
  obtain ⟨a0, a1, _⟩ := xs
  obtain ⟨N, hN⟩ := h _ _ r hr
  exact ⟨N, A70 N, L70 N, (K70 N a0 a1).trans hN⟩
theorem X70 : Contract Go.Proofs.Try.prog 70 ⟨[fault, fault], .bool, e_laws_eqFault⟩ := C70 fun _ _ _ h => ⟨N0, h⟩
-- laws_eqFaultS
def E25 (c_laws_eqFault : ((Int × Int) × (Int × Int) × Unit → Option Bool)) : Env := ⟨tys, [], [(70, ⟨[fault, fault], .bool, c_laws_eqFault⟩)], []⟩
def A25 (c_laws_eqFault : ((Int × Int) × (Int × Int) × Unit → Option Bool)) (N : Nat) : List (Nat × Loop (Ty.den .bool)) := [(0, ⟨[(0, .ro none (.slice (.pair (.num .i64) (.num .i64)))), (1, .ro none (.slice (.pair (.num .i64) (.num .i64)))), (5, .ro none (.num .i64))], r_laws_eqFaultS_L0 c_laws_eqFault N⟩)]
theorem K25 (c_laws_eqFault : ((Int × Int) × (Int × Int) × Unit → Option Bool)) (N : Nat) (a0 : (List (Int × Int))) (a1 : (List (Int × Int))) : fnK N (E25 c_laws_eqFault) Go.Proofs.Try.f25 [(.slice fault), (.slice fault)] .bool (A25 c_laws_eqFault N) (a0, a1, ()) = r_laws_eqFaultS c_laws_eqFault N a0 a1 := by kernel_rfl
theorem L25 (c_laws_eqFault : ((Int × Int) × (Int × Int) × Unit → Option Bool)) (N : Nat) : LoopsOk N (E25 c_laws_eqFault) (A25 c_laws_eqFault N) Go.Proofs.Try.f25.ntmps (retOf (E25 c_laws_eqFault) Go.Proofs.Try.f25 .bool) (loopsOf (Go.Proofs.Try.f25.body.getD .skip)) :=
  LoopsOk.of (l := [(0, lb Go.Proofs.Try.f25 0)]) (by kernel_rfl) (.cons (L := ⟨[(0, .ro none (.slice (.pair (.num .i64) (.num .i64)))), (1, .ro none (.slice (.pair (.num .i64) (.num .i64)))), (5, .ro none (.num .i64))], r_laws_eqFaultS_L0 c_laws_eqFault N⟩) (by kernel_rfl) (by intro s kc ke env; kernel_rfl) .nil)
theorem There25 : There Go.Proofs.Try.prog 25 := ⟨_, Go.Proofs.Try.func25, by kernel_rfl, by kernel_rfl⟩
theorem C25 {c_laws_eqFault : ((Int × Int) × (Int × Int) × Unit → Option Bool)} (h_c_laws_eqFault : Contract Go.Proofs.Try.prog 70 ⟨[fault, fault], .bool, c_laws_eqFault⟩) {f : ((List (Int × Int)) × (List (Int × Int)) × Unit → Option Bool)} (h : ∀ a0 a1 r, f (a0, a1, ()) = some r → ∃ N, r_laws_eqFaultS c_laws_eqFault N a0 a1 = some r) : Contract Go.Proofs.Try.prog 25 ⟨[(.slice fault), (.slice fault)], .bool, f⟩ := by
  refine contract (E := E25 c_laws_eqFault) (envOf table ⟨⟨h_c_laws_eqFault, There70⟩, trivial⟩ trivial) mixed Go.Proofs.Try.func25 (c := Go.Proofs.Try.f25.body.getD .skip) (by kernel_rfl) (Nat.le_of_ble_eq_true (by kernel_rfl)) fun xs r hr => ?_
  obtain ⟨a0, a1, _⟩ := xs
  obtain ⟨N, hN⟩ := h _ _ r hr
  exact ⟨N, A25 c_laws_eqFault N, L25 c_laws_eqFault N, (K25 c_laws_eqFault N a0 a1).trans hN⟩
theorem X25 : Contract Go.Proofs.Try.prog 25 ⟨[(.slice fault), (.slice fault)], .bool, e_laws_eqFaultS⟩ := C25 X70 fun _ _ _ h => ⟨N0, h⟩
-- laws_markFaultS
def E26 : Env := ⟨tys, [], [], []⟩
def A26 (N : Nat) : List (Nat × Loop (Ty.den (.slice fault) × resDen (some int))) := [(0, ⟨[(0, .own (.slice (.pair (.num .i64) (.num .i64)))), (1, .ro none (.num .i64)), (5, .ro none (.num .i64))], r_laws_markFaultS_L0 N⟩)]
theorem K26 (m_laws_markFaultS_ : ((List (Int × Int)) → (Int × Unit) → Option ((List (Int × Int)) × Int))) (N : Nat) (a0 : (List (Int × Int))) (a1 : Int) : fnMut N (E26) Go.Proofs.Try.f26 ⟨(.slice fault), 0, [int], some int, m_laws_markFaultS_⟩ (A26 N) a0 (a1, ()) = r_laws_markFaultS N a0 a1 := by kernel_rfl
theorem L26 (m_laws_markFaultS_ : ((List (Int × Int)) → (Int × Unit) → Option ((List (Int × Int)) × Int))) (N : Nat) : LoopsOk N (E26) (A26 N) Go.Proofs.Try.f26.ntmps (retM (E26) Go.Proofs.Try.f26 ⟨(.slice fault), 0, [int], some int, m_laws_markFaultS_⟩) (loopsOf (Go.Proofs.Try.f26.body.getD .skip)) :=
  LoopsOk.of (l := [(0, lb Go.Proofs.Try.f26 0)]) (by kernel_rfl) (.cons (L := ⟨[(0, .own (.slice (.pair (.num .i64) (.num .i64)))), (1, .ro none (.num .i64)), (5, .ro none (.num .i64))], r_laws_markFaultS_L0 N⟩) (by kernel_rfl) (by intro s kc ke env; kernel_rfl) .nil)
theorem There26 : There Go.Proofs.Try.prog 26 := ⟨_, Go.Proofs.Try.func26, by kernel_rfl, by kernel_rfl⟩
theorem C26 {f : ((List (Int × Int)) → (Int × Unit) → Option ((List (Int × Int)) × Int))} (h : ∀ a0 a1 r, f a0 (a1, ()) = some r → ∃ N, r_laws_markFaultS N a0 a1 = some r) : MutC Go.Proofs.Try.prog 26 ⟨(.slice fault), 0, [int], some int, f⟩ := by
  refine mutC (E := E26) (envOf table trivial trivial) mixed Go.Proofs.Try.func26 (c := Go.Proofs.Try.f26.body.getD .skip) (by kernel_rfl) (Nat.le_of_ble_eq_true (by kernel_rfl)) (Nat.le_of_ble_eq_true (by kernel_rfl)) (by kernel_rfl) fun a0 xs r hr => ?_
  obtain ⟨a1, _⟩ := xs
  obtain ⟨N, hN⟩ := h _ _ r hr
  exact ⟨N, A26 N, L26 f N, (K26 f N a0 a1).trans hN⟩
theorem X26 : MutC Go.Proofs.Try.prog 26 ⟨(.slice fault), 0, [int], some int, e_laws_markFaultS⟩ := C26 fun _ _ _ h => ⟨N0, h⟩
-- laws_heldFaultS
def E27 : Env := ⟨tys, [], [], []⟩
def A27 (N : Nat) : List (Nat × Loop (Ty.den int)) := [(0, ⟨[(0, .ro none (.slice (.pair (.num .i64) (.num .i64)))), (1, .ro none (.num .i64)), (5, .ro none (.num .i64))], r_laws_heldFaultS_L0 N⟩)]
theorem K27 (N : Nat) (a0 : (List (Int × Int))) (a1 : Int) : fnK N (E27) Go.Proofs.Try.f27 [(.slice fault), int] int (A27 N) (a0, a1, ()) = r_laws_heldFaultS N a0 a1 := by kernel_rfl
theorem L27 (N : Nat) : LoopsOk N (E27) (A27 N) Go.Proofs.Try.f27.ntmps (retOf (E27) Go.Proofs.Try.f27 int) (loopsOf (Go.Proofs.Try.f27.body.getD .skip)) :=
  LoopsOk.of (l := [(0, lb Go.Proofs.Try.f27 0)]) (by kernel_rfl) (.cons (L := ⟨[(0, .ro none (.slice (.pair (.num .i64) (.num .i64)))), (1, .ro none (.num .i64)), (5, .ro none (.num .i64))], r_laws_heldFaultS_L0 N⟩) (by kernel_rfl) (by intro s kc ke env; kernel_rfl) .nil)
theorem There27 : There Go.Proofs.Try.prog 27 := ⟨_, Go.Proofs.Try.func27, by kernel_rfl, by kernel_rfl⟩
theorem C27 {f : ((List (Int × Int)) × Int × Unit → Option Int)} (h : ∀ a0 a1 r, f (a0, a1, ()) = some r → ∃ N, r_laws_heldFaultS N a0 a1 = some r) : Contract Go.Proofs.Try.prog 27 ⟨[(.slice fault), int], int, f⟩ := by
  refine contract (E := E27) (envOf table trivial trivial) mixed Go.Proofs.Try.func27 (c := Go.Proofs.Try.f27.body.getD .skip) (by kernel_rfl) (Nat.le_of_ble_eq_true (by kernel_rfl)) fun xs r hr => ?_
  obtain ⟨a0, a1, _⟩ := xs
  obtain ⟨N, hN⟩ := h _ _ r hr
  exact ⟨N, A27 N, L27 N, (K27 N a0 a1).trans hN⟩
theorem X27 : Contract Go.Proofs.Try.prog 27 ⟨[(.slice fault), int], int, e_laws_heldFaultS⟩ := C27 fun _ _ _ h => ⟨N0, h⟩
-- laws_FnExactAllFaults
def E4 (c_laws_szNet : ((Int × Int × Int × List (Int × Int × Int)) × Int × Unit → Option Int)) (c_laws_toNet : ((Int × Int × Int × List (Int × Int × Int)) × Unit → Option (Int × Int × Int × List (Int × Int × Int)))) (c_spec_AllFaults : ((Int × Int × Int × List (Int × Int × Int)) × Unit → Option (List (Int × Int)))) (c_impl_AllFaults : ((Int × Int × Int × List (Int × Int × Int)) × Unit → Option (List (Int × Int)))) (c_laws_eqFaultS : ((List (Int × Int)) × (List (Int × Int)) × Unit → Option Bool)) (c_laws_eqNet : ((Int × Int × Int × List (Int × Int × Int)) × (Int × Int × Int × List (Int × Int × Int)) × Unit → Option Bool)) (m_laws_markNet : ((Int × Int × Int × List (Int × Int × Int)) → (Int × Unit) → Option ((Int × Int × Int × List (Int × Int × Int)) × Int))) (m_laws_markFaultS : ((List (Int × Int)) → (Int × Unit) → Option ((List (Int × Int)) × Int))) (c_laws_heldFaultS : ((List (Int × Int)) × Int × Unit → Option Int)) : Env := ⟨tys, [], [(15, ⟨[net, int], int, c_laws_szNet⟩), (17, ⟨[net], net, c_laws_toNet⟩), (23, ⟨[net], (.slice fault), c_spec_AllFaults⟩), (24, ⟨[net], (.slice fault), c_impl_AllFaults⟩), (25, ⟨[(.slice fault), (.slice fault)], .bool, c_laws_eqFaultS⟩), (20, ⟨[net, net], .bool, c_laws_eqNet⟩), (27, ⟨[(.slice fault), int], int, c_laws_heldFaultS⟩)], [(21, ⟨net, 0, [int], some int, m_laws_markNet⟩), (26, ⟨(.slice fault), 0, [int], some int, m_laws_markFaultS⟩)]⟩
def A4 (_c_laws_szNet : ((Int × Int × Int × List (Int × Int × Int)) × Int × Unit → Option Int)) (_c_laws_toNet : ((Int × Int × Int × List (Int × Int × Int)) × Unit → Option (Int × Int × Int × List (Int × Int × Int)))) (_c_spec_AllFaults : ((Int × Int × Int × List (Int × Int × Int)) × Unit → Option (List (Int × Int)))) (_c_impl_AllFaults : ((Int × Int × Int × List (Int × Int × Int)) × Unit → Option (List (Int × Int)))) (_c_laws_eqFaultS : ((List (Int × Int)) × (List (Int × Int)) × Unit → Option Bool)) (_c_laws_eqNet : ((Int × Int × Int × List (Int × Int × Int)) × (Int × Int × Int × List (Int × Int × Int)) × Unit → Option Bool)) (_m_laws_markNet : ((Int × Int × Int × List (Int × Int × Int)) → (Int × Unit) → Option ((Int × Int × Int × List (Int × Int × Int)) × Int))) (_m_laws_markFaultS : ((List (Int × Int)) → (Int × Unit) → Option ((List (Int × Int)) × Int))) (_c_laws_heldFaultS : ((List (Int × Int)) × Int × Unit → Option Int)) (_N : Nat) : List (Nat × Loop (Ty.den .bool)) := []
theorem K4 (c_laws_szNet : ((Int × Int × Int × List (Int × Int × Int)) × Int × Unit → Option Int)) (c_laws_toNet : ((Int × Int × Int × List (Int × Int × Int)) × Unit → Option (Int × Int × Int × List (Int × Int × Int)))) (c_spec_AllFaults : ((Int × Int × Int × List (Int × Int × Int)) × Unit → Option (List (Int × Int)))) (c_impl_AllFaults : ((Int × Int × Int × List (Int × Int × Int)) × Unit → Option (List (Int × Int)))) (c_laws_eqFaultS : ((List (Int × Int)) × (List (Int × Int)) × Unit → Option Bool)) (c_laws_eqNet : ((Int × Int × Int × List (Int × Int × Int)) × (Int × Int × Int × List (Int × Int × Int)) × Unit → Option Bool)) (m_laws_markNet : ((Int × Int × Int × List (Int × Int × Int)) → (Int × Unit) → Option ((Int × Int × Int × List (Int × Int × Int)) × Int))) (m_laws_markFaultS : ((List (Int × Int)) → (Int × Unit) → Option ((List (Int × Int)) × Int))) (c_laws_heldFaultS : ((List (Int × Int)) × Int × Unit → Option Int)) (N : Nat) (a0 : (Int × Int × Int × List (Int × Int × Int))) : fnK N (E4 c_laws_szNet c_laws_toNet c_spec_AllFaults c_impl_AllFaults c_laws_eqFaultS c_laws_eqNet m_laws_markNet m_laws_markFaultS c_laws_heldFaultS) Go.Proofs.Try.f4 [net] .bool (A4 c_laws_szNet c_laws_toNet c_spec_AllFaults c_impl_AllFaults c_laws_eqFaultS c_laws_eqNet m_laws_markNet m_laws_markFaultS c_laws_heldFaultS N) (a0, ()) = r_laws_FnExactAllFaults c_laws_szNet c_laws_toNet c_spec_AllFaults c_impl_AllFaults c_laws_eqFaultS c_laws_eqNet m_laws_markNet m_laws_markFaultS c_laws_heldFaultS N a0 := by kernel_rfl
theorem L4 (c_laws_szNet : ((Int × Int × Int × List (Int × Int × Int)) × Int × Unit → Option Int)) (c_laws_toNet : ((Int × Int × Int × List (Int × Int × Int)) × Unit → Option (Int × Int × Int × List (Int × Int × Int)))) (c_spec_AllFaults : ((Int × Int × Int × List (Int × Int × Int)) × Unit → Option (List (Int × Int)))) (c_impl_AllFaults : ((Int × Int × Int × List (Int × Int × Int)) × Unit → Option (List (Int × Int)))) (c_laws_eqFaultS : ((List (Int × Int)) × (List (Int × Int)) × Unit → Option Bool)) (c_laws_eqNet : ((Int × Int × Int × List (Int × Int × Int)) × (Int × Int × Int × List (Int × Int × Int)) × Unit → Option Bool)) (m_laws_markNet : ((Int × Int × Int × List (Int × Int × Int)) → (Int × Unit) → Option ((Int × Int × Int × List (Int × Int × Int)) × Int))) (m_laws_markFaultS : ((List (Int × Int)) → (Int × Unit) → Option ((List (Int × Int)) × Int))) (c_laws_heldFaultS : ((List (Int × Int)) × Int × Unit → Option Int)) (N : Nat) : LoopsOk N (E4 c_laws_szNet c_laws_toNet c_spec_AllFaults c_impl_AllFaults c_laws_eqFaultS c_laws_eqNet m_laws_markNet m_laws_markFaultS c_laws_heldFaultS) (A4 c_laws_szNet c_laws_toNet c_spec_AllFaults c_impl_AllFaults c_laws_eqFaultS c_laws_eqNet m_laws_markNet m_laws_markFaultS c_laws_heldFaultS N) Go.Proofs.Try.f4.ntmps (retOf (E4 c_laws_szNet c_laws_toNet c_spec_AllFaults c_impl_AllFaults c_laws_eqFaultS c_laws_eqNet m_laws_markNet m_laws_markFaultS c_laws_heldFaultS) Go.Proofs.Try.f4 .bool) (loopsOf (Go.Proofs.Try.f4.body.getD .skip)) :=
  LoopsOk.of (l := []) (by kernel_rfl) .nil
theorem There4 : There Go.Proofs.Try.prog 4 := ⟨_, Go.Proofs.Try.func4, by kernel_rfl, by kernel_rfl⟩
theorem C4 {c_laws_szNet : ((Int × Int × Int × List (Int × Int × Int)) × Int × Unit → Option Int)} {c_laws_toNet : ((Int × Int × Int × List (Int × Int × Int)) × Unit → Option (Int × Int × Int × List (Int × Int × Int)))} {c_spec_AllFaults : ((Int × Int × Int × List (Int × Int × Int)) × Unit → Option (List (Int × Int)))} {c_impl_AllFaults : ((Int × Int × Int × List (Int × Int × Int)) × Unit → Option (List (Int × Int)))} {c_laws_eqFaultS : ((List (Int × Int)) × (List (Int × Int)) × Unit → Option Bool)} {c_laws_eqNet : ((Int × Int × Int × List (Int × Int × Int)) × (Int × Int × Int × List (Int × Int × Int)) × Unit → Option Bool)} {m_laws_markNet : ((Int × Int × Int × List (Int × Int × Int)) → (Int × Unit) → Option ((Int × Int × Int × List (Int × Int × Int)) × Int))} {m_laws_markFaultS : ((List (Int × Int)) → (Int × Unit) → Option ((List (Int × Int)) × Int))} {c_laws_heldFaultS : ((List (Int × Int)) × Int × Unit → Option Int)} (h_c_laws_szNet : Contract Go.Proofs.Try.prog 15 ⟨[net, int], int, c_laws_szNet⟩) (h_c_laws_toNet : Contract Go.Proofs.Try.prog 17 ⟨[net], net, c_laws_toNet⟩) (h_c_spec_AllFaults : Contract Go.Proofs.Try.prog 23 ⟨[net], (.slice fault), c_spec_AllFaults⟩) (h_c_impl_AllFaults : Contract Go.Proofs.Try.prog 24 ⟨[net], (.slice fault), c_impl_AllFaults⟩) (h_c_laws_eqFaultS : Contract Go.Proofs.Try.prog 25 ⟨[(.slice fault), (.slice fault)], .bool, c_laws_eqFaultS⟩) (h_c_laws_eqNet : Contract Go.Proofs.Try.prog 20 ⟨[net, net], .bool, c_laws_eqNet⟩) (h_m_laws_markNet : MutC Go.Proofs.Try.prog 21 ⟨net, 0, [int], some int, m_laws_markNet⟩) (h_m_laws_markFaultS : MutC Go.Proofs.Try.prog 26 ⟨(.slice fault), 0, [int], some int, m_laws_markFaultS⟩) (h_c_laws_heldFaultS : Contract Go.Proofs.Try.prog 27 ⟨[(.slice fault), int], int, c_laws_heldFaultS⟩) {f : ((Int × Int × Int × List (Int × Int × Int)) × Unit → Option Bool)} (h : ∀ a0 r, f (a0, ()) = some r → ∃ N, r_laws_FnExactAllFaults c_laws_szNet c_laws_toNet c_spec_AllFaults c_impl_AllFaults c_laws_eqFaultS c_laws_eqNet m_laws_markNet m_laws_markFaultS c_laws_heldFaultS N a0 = some r) : Contract Go.Proofs.Try.prog 4 ⟨[net], .bool, f⟩ := by
  refine contract (E := E4 c_laws_szNet c_laws_toNet c_spec_AllFaults c_impl_AllFaults c_laws_eqFaultS c_laws_eqNet m_laws_markNet m_laws_markFaultS c_laws_heldFaultS) (envOf table ⟨⟨h_c_laws_szNet, There15⟩, ⟨⟨h_c_laws_toNet, There17⟩, ⟨⟨h_c_spec_AllFaults, There23⟩, ⟨⟨h_c_impl_AllFaults, There24⟩, ⟨⟨h_c_laws_eqFaultS, There25⟩, ⟨⟨h_c_laws_eqNet, There20⟩, ⟨⟨h_c_laws_heldFaultS, There27⟩, trivial⟩⟩⟩⟩⟩⟩⟩ ⟨⟨h_m_laws_markNet, There21⟩, ⟨⟨h_m_laws_markFaultS, There26⟩, trivial⟩⟩) mixed Go.Proofs.Try.func4 (c := Go.Proofs.Try.f4.body.getD .skip) (by kernel_rfl) (Nat.le_of_ble_eq_true (by kernel_rfl)) fun xs r hr => ?_
  obtain ⟨a0, _⟩ := xs
  obtain ⟨N, hN⟩ := h _ r hr
  exact ⟨N, A4 c_laws_szNet c_laws_toNet c_spec_AllFaults c_impl_AllFaults c_laws_eqFaultS c_laws_eqNet m_laws_markNet m_laws_markFaultS c_laws_heldFaultS N, L4 c_laws_szNet c_laws_toNet c_spec_AllFaults c_impl_AllFaults c_laws_eqFaultS c_laws_eqNet m_laws_markNet m_laws_markFaultS c_laws_heldFaultS N, (K4 c_laws_szNet c_laws_toNet c_spec_AllFaults c_impl_AllFaults c_laws_eqFaultS c_laws_eqNet m_laws_markNet m_laws_markFaultS c_laws_heldFaultS N a0).trans hN⟩
theorem X4 : Contract Go.Proofs.Try.prog 4 ⟨[net], .bool, e_laws_FnExactAllFaults⟩ := C4 X15 X17 X23 X24 X25 X20 X21 X26 X27 fun _ _ h => ⟨N0, h⟩
end Go.Sx.S
