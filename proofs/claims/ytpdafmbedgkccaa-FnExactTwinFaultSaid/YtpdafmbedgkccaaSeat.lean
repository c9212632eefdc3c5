/- The functions keep their contracts. Conditions: none. -/
import Derived.Test.YtpdafmbedgkccaaRes
import Derived.Shelf.Slices.Empties
import Derived.Shelf.Slices.Delete
import Derived.Test.YtpdafmbedgkccaaProg
/- The functions of the program compute what was printed. Conditions: none. -/
namespace Go.Sx.S
open Go Go.Sx Go.Sx.R
def int : Ty := .num .i64
def wire : Ty := .pair int (.pair int int)
def net : Ty := .pair int (.pair int (.pair int (.slice wire)))
def ratio : Ty := .pair int int
def fault : Ty := .pair int int

def tys : List (Nat × Ty) := [(3, int), (4, .bool), (5, (.num .u8)), (21, (.num .i32)), (22, (.slice wire)), (24, net), (27, ratio), (30, (.slice wire)), (32, net), (38, (.slice int)), (46, (.slice (.slice ratio))), (48, (.slice fault)), (50, (.slice (.slice ratio))), (61, fault), (62, fault), (70, (.slice (.slice int))), (75, (.slice (.num .u8))), (79, (.slice ratio)), (84, wire), (104, (.slice ratio)), (116, (.slice (.slice (.slice int)))), (137, wire), (139, (.slice .bool)), (141, (.num .u64)), (149, ratio), (180, (.num .u32))]
theorem table (sp : List (Nat × FnSpec)) (mu : List (Nat × MutSpec)) : tableB Go.Proofs.Try.prog ⟨tys, [], sp, mu⟩ tys = true := by kernel_rfl
theorem mixed : Go.Proofs.Try.prog.follows .mixedOrders = true := by kernel_rfl
-- laws_szWireS
def E68 : Env := ⟨tys, [], [], []⟩
def A68 (_N : Nat) : List (Nat × Loop (Ty.den int)) := []
theorem K68 (N : Nat) (a0 : (List (Int × Int × Int))) (a1 : Int) : fnK N (E68) Go.Proofs.Try.f68 [(.slice wire), int] int (A68 N) (a0, a1, ()) = r_laws_szWireS N a0 a1 := by kernel_rfl
theorem L68 (N : Nat) : LoopsOk N (E68) (A68 N) Go.Proofs.Try.f68.ntmps (retOf (E68) Go.Proofs.Try.f68 int) (loopsOf (Go.Proofs.Try.f68.body.getD .skip)) :=
  LoopsOk.of (l := []) (by kernel_rfl) .nil
theorem There68 : There Go.Proofs.Try.prog 68 := ⟨_, Go.Proofs.Try.func68, by kernel_rfl, by kernel_rfl⟩
theorem C68 {f : ((List (Int × Int × Int)) × Int × Unit → Option Int)} (h : ∀ a0 a1 r, f (a0, a1, ()) = some r → ∃ N, r_laws_szWireS N a0 a1 = some r) : Contract Go.Proofs.Try.prog 68 ⟨[(.slice wire), int], int, f⟩ := by
  refine contract (E := E68) (envOf table trivial trivial) mixed Go.Proofs.Try.func68 (c := Go.Proofs.Try.f68.body.getD .skip) (by kernel_rfl) (Nat.le_of_ble_eq_true (by kernel_rfl)) fun xs r hr => ?_
  obtain ⟨a0, a1, _⟩ := xs
  obtain ⟨N, hN⟩ := h _ _ r hr
  exact ⟨N, A68 N, L68 N, (K68 N a0 a1).trans hN⟩
theorem X68 : Contract Go.Proofs.Try.prog 68 ⟨[(.slice wire), int], int, e_laws_szWireS⟩ := C68 fun _ _ _ h => ⟨N0, h⟩
-- laws_szNet
def E15 (c_laws_szWireS : ((List (Int × Int × Int)) × Int × Unit → Option Int)) : Env := ⟨tys, [], [(68, ⟨[(.slice wire), int], int, c_laws_szWireS⟩)], []⟩
def A15 (_c_laws_szWireS : ((List (Int × Int × Int)) × Int × Unit → Option Int)) (_N : Nat) : List (Nat × Loop (Ty.den int)) := []
theorem K15 (c_laws_szWireS : ((List (Int × Int × Int)) × Int × Unit → Option Int)) (N : Nat) (a0 : (Int × Int × Int × List (Int × Int × Int))) (a1 : Int) : fnK N (E15 c_laws_szWireS) Go.Proofs.Try.f15 [net, int] int (A15 c_laws_szWireS N) (a0, a1, ()) = r_laws_szNet c_laws_szWireS N a0 a1 := by kernel_rfl
theorem L15 (c_laws_szWireS : ((List (Int × Int × Int)) × Int × Unit → Option Int)) (N : Nat) : LoopsOk N (E15 c_laws_szWireS) (A15 c_laws_szWireS N) Go.Proofs.Try.f15.ntmps (retOf (E15 c_laws_szWireS) Go.Proofs.Try.f15 int) (loopsOf (Go.Proofs.Try.f15.body.getD .skip)) :=
  LoopsOk.of (l := []) (by kernel_rfl) .nil
theorem There15 : There Go.Proofs.Try.prog 15 := ⟨_, Go.Proofs.Try.func15, by kernel_rfl, by kernel_rfl⟩
theorem C15 {c_laws_szWireS : ((List (Int × Int × Int)) × Int × Unit → Option Int)} (h_c_laws_szWireS : Contract Go.Proofs.Try.prog 68 ⟨[(.slice wire), int], int, c_laws_szWireS⟩) {f : ((Int × Int × Int × List (Int × Int × Int)) × Int × Unit → Option Int)} (h : ∀ a0 a1 r, f (a0, a1, ()) = some r → ∃ N, r_laws_szNet c_laws_szWireS N a0 a1 = some r) : Contract Go.Proofs.Try.prog 15 ⟨[net, int], int, f⟩ := by
  refine contract (E := E15 c_laws_szWireS) (envOf table ⟨⟨h_c_laws_szWireS, There68⟩, trivial⟩ trivial) mixed Go.Proofs.Try.func15 (c := Go.Proofs.Try.f15.body.getD .skip) (by kernel_rfl) (Nat.le_of_ble_eq_true (by kernel_rfl)) fun xs r hr => ?_
  obtain ⟨a0, a1, _⟩ := xs
  obtain ⟨N, hN⟩ := h _ _ r hr
  exact ⟨N, A15 c_laws_szWireS N, L15 c_laws_szWireS N, (K15 c_laws_szWireS N a0 a1).trans hN⟩
theorem X15 : Contract Go.Proofs.Try.prog 15 ⟨[net, int], int, e_laws_szNet⟩ := C15 X68 fun _ _ _ h => ⟨N0, h⟩
-- laws_szRatioS
def E91 : Env := ⟨tys, [], [], []⟩
def A91 (_N : Nat) : List (Nat × Loop (Ty.den int)) := []
theorem K91 (N : Nat) (a0 : (List (Int × Int))) (a1 : Int) : fnK N (E91) Go.Proofs.Try.f91 [(.slice ratio), int] int (A91 N) (a0, a1, ()) = r_laws_szRatioS N a0 a1 := by kernel_rfl
theorem L91 (N : Nat) : LoopsOk N (E91) (A91 N) Go.Proofs.Try.f91.ntmps (retOf (E91) Go.Proofs.Try.f91 int) (loopsOf (Go.Proofs.Try.f91.body.getD .skip)) :=
  LoopsOk.of (l := []) (by kernel_rfl) .nil
theorem There91 : There Go.Proofs.Try.prog 91 := ⟨_, Go.Proofs.Try.func91, by kernel_rfl, by kernel_rfl⟩
theorem C91 {f : ((List (Int × Int)) × Int × Unit → Option Int)} (h : ∀ a0 a1 r, f (a0, a1, ()) = some r → ∃ N, r_laws_szRatioS N a0 a1 = some r) : Contract Go.Proofs.Try.prog 91 ⟨[(.slice ratio), int], int, f⟩ := by
  refine contract (E := E91) (envOf table trivial trivial) mixed Go.Proofs.Try.func91 (c := Go.Proofs.Try.f91.body.getD .skip) (by kernel_rfl) (Nat.le_of_ble_eq_true (by kernel_rfl)) fun xs r hr => ?_
  obtain ⟨a0, a1, _⟩ := xs
  obtain ⟨N, hN⟩ := h _ _ r hr
  exact ⟨N, A91 N, L91 N, (K91 N a0 a1).trans hN⟩
theorem X91 : Contract Go.Proofs.Try.prog 91 ⟨[(.slice ratio), int], int, e_laws_szRatioS⟩ := C91 fun _ _ _ h => ⟨N0, h⟩
-- laws_szRatioSS
def E29 (c_laws_szRatioS : ((List (Int × Int)) × Int × Unit → Option Int)) : Env := ⟨tys, [], [(91, ⟨[(.slice ratio), int], int, c_laws_szRatioS⟩)], []⟩
def A29 (c_laws_szRatioS : ((List (Int × Int)) × Int × Unit → Option Int)) (N : Nat) : List (Nat × Loop (Ty.den int)) := [(0, ⟨[(0, .ro none (.slice (.slice (.pair (.num .i64) (.num .i64))))), (1, .ro none (.num .i64)), (5, .ro none (.num .i64))], r_laws_szRatioSS_L0 c_laws_szRatioS N⟩)]
theorem K29 (c_laws_szRatioS : ((List (Int × Int)) × Int × Unit → Option Int)) (N : Nat) (a0 : (List (List (Int × Int)))) (a1 : Int) : fnK N (E29 c_laws_szRatioS) Go.Proofs.Try.f29 [(.slice (.slice ratio)), int] int (A29 c_laws_szRatioS N) (a0, a1, ()) = r_laws_szRatioSS c_laws_szRatioS N a0 a1 := by kernel_rfl
theorem L29 (c_laws_szRatioS : ((List (Int × Int)) × Int × Unit → Option Int)) (N : Nat) : LoopsOk N (E29 c_laws_szRatioS) (A29 c_laws_szRatioS N) Go.Proofs.Try.f29.ntmps (retOf (E29 c_laws_szRatioS) Go.Proofs.Try.f29 int) (loopsOf (Go.Proofs.Try.f29.body.getD .skip)) :=
  LoopsOk.of (l := [(0, lb Go.Proofs.Try.f29 0)]) (by kernel_rfl) (.cons (L := ⟨[(0, .ro none (.slice (.slice (.pair (.num .i64) (.num .i64))))), (1, .ro none (.num .i64)), (5, .ro none (.num .i64))], r_laws_szRatioSS_L0 c_laws_szRatioS N⟩) (by kernel_rfl) (by intro s kc ke env; kernel_rfl) .nil)
theorem There29 : There Go.Proofs.Try.prog 29 := ⟨_, Go.Proofs.Try.func29, by kernel_rfl, by kernel_rfl⟩
theorem C29 {c_laws_szRatioS : ((List (Int × Int)) × Int × Unit → Option Int)} (h_c_laws_szRatioS : Contract Go.Proofs.Try.prog 91 ⟨[(.slice ratio), int], int, c_laws_szRatioS⟩) {f : ((List (List (Int × Int))) × Int × Unit → Option Int)} (h : ∀ a0 a1 r, f (a0, a1, ()) = some r → ∃ N, r_laws_szRatioSS c_laws_szRatioS N a0 a1 = some r) : Contract Go.Proofs.Try.prog 29 ⟨[(.slice (.slice ratio)), int], int, f⟩ := by
  refine contract (E := E29 c_laws_szRatioS) (envOf table ⟨⟨h_c_laws_szRatioS, There91⟩, trivial⟩ trivial) mixed Go.Proofs.Try.func29 (c := Go.Proofs.Try.f29.body.getD .skip) (by kernel_rfl) (Nat.le_of_ble_eq_true (by kernel_rfl)) fun xs r hr => ?_
  obtain ⟨a0, a1, _⟩ := xs
  obtain ⟨N, hN⟩ := h _ _ r hr
  exact ⟨N, A29 c_laws_szRatioS N, L29 c_laws_szRatioS N, (K29 c_laws_szRatioS N a0 a1).trans hN⟩
theorem X29 : Contract Go.Proofs.Try.prog 29 ⟨[(.slice (.slice ratio)), int], int, e_laws_szRatioSS⟩ := C29 X91 fun _ _ _ h => ⟨N0, h⟩
-- laws_toWire
def E135 : Env := ⟨tys, [], [], []⟩
def A135 (_N : Nat) : List (Nat × Loop (Ty.den wire)) := []
theorem K135 (N : Nat) (a0 : (Int × Int × Int)) : fnK N (E135) Go.Proofs.Try.f135 [wire] wire (A135 N) (a0, ()) = r_laws_toWire N a0 := by kernel_rfl
theorem L135 (N : Nat) : LoopsOk N (E135) (A135 N) Go.Proofs.Try.f135.ntmps (retOf (E135) Go.Proofs.Try.f135 wire) (loopsOf (Go.Proofs.Try.f135.body.getD .skip)) :=
  LoopsOk.of (l := []) (by kernel_rfl) .nil
theorem There135 : There Go.Proofs.Try.prog 135 := ⟨_, Go.Proofs.Try.func135, by kernel_rfl, by kernel_rfl⟩
theorem C135 {f : ((Int × Int × Int) × Unit → Option (Int × Int × Int))} (h : ∀ a0 r, f (a0, ()) = some r → ∃ N, r_laws_toWire N a0 = some r) : Contract Go.Proofs.Try.prog 135 ⟨[wire], wire, f⟩ := by
  refine contract (E := E135) (envOf table trivial trivial) mixed Go.Proofs.Try.func135 (c := Go.Proofs.Try.f135.body.getD .skip) (by kernel_rfl) (Nat.le_of_ble_eq_true (by kernel_rfl)) fun xs r hr => ?_
  obtain ⟨a0, _⟩ := xs
  obtain ⟨N, hN⟩ := h _ r hr
  exact ⟨N, A135 N, L135 N, (K135 N a0).trans hN⟩
theorem X135 : Contract Go.Proofs.Try.prog 135 ⟨[wire], wire, e_laws_toWire⟩ := C135 fun _ _ h => ⟨N0, h⟩
-- laws_toWireS
def E74 (c_laws_toWire : ((Int × Int × Int) × Unit → Option (Int × Int × Int))) : Env := ⟨tys, [], [(135, ⟨[wire], wire, c_laws_toWire⟩)], []⟩
def A74 (c_laws_toWire : ((Int × Int × Int) × Unit → Option (Int × Int × Int))) (N : Nat) : List (Nat × Loop (Ty.den (.slice wire))) := [(0, ⟨[(0, .ro none (.slice (.pair (.num .i64) (.pair (.num .i64) (.num .i64))))), (3, .own (.slice (.pair (.num .i64) (.pair (.num .i64) (.num .i64))))), (4, .ro none (.num .i64))], r_laws_toWireS_L0 c_laws_toWire N⟩)]
theorem K74 (c_laws_toWire : ((Int × Int × Int) × Unit → Option (Int × Int × Int))) (N : Nat) (a0 : (List (Int × Int × Int))) : fnK N (E74 c_laws_toWire) Go.Proofs.Try.f74 [(.slice wire)] (.slice wire) (A74 c_laws_toWire N) (a0, ()) = r_laws_toWireS c_laws_toWire N a0 := by kernel_rfl
theorem L74 (c_laws_toWire : ((Int × Int × Int) × Unit → Option (Int × Int × Int))) (N : Nat) : LoopsOk N (E74 c_laws_toWire) (A74 c_laws_toWire N) Go.Proofs.Try.f74.ntmps (retOf (E74 c_laws_toWire) Go.Proofs.Try.f74 (.slice wire)) (loopsOf (Go.Proofs.Try.f74.body.getD .skip)) :=
  LoopsOk.of (l := [(0, lb Go.Proofs.Try.f74 0)]) (by kernel_rfl) (.cons (L := ⟨[(0, .ro none (.slice (.pair (.num .i64) (.pair (.num .i64) (.num .i64))))), (3, .own (.slice (.pair (.num .i64) (.pair (.num .i64) (.num .i64))))), (4, .ro none (.num .i64))], r_laws_toWireS_L0 c_laws_toWire N⟩) (by kernel_rfl) (by intro s kc ke env; kernel_rfl) .nil)
theorem There74 : There Go.Proofs.Try.prog 74 := ⟨_, Go.Proofs.Try.func74, by kernel_rfl, by kernel_rfl⟩
theorem C74 {c_laws_toWire : ((Int × Int × Int) × Unit → Option (Int × Int × Int))} (h_c_laws_toWire : Contract Go.Proofs.Try.prog 135 ⟨[wire], wire, c_laws_toWire⟩) {f : ((List (Int × Int × Int)) × Unit → Option (List (Int × Int × Int)))} (h : ∀ a0 r, f (a0, ()) = some r → ∃ N, r_laws_toWireS c_laws_toWire N a0 = some r) : Contract Go.Proofs.Try.prog 74 ⟨[(.slice wire)], (.slice wire), f⟩ := by
  refine contract (E := E74 c_laws_toWire) (envOf table ⟨⟨h_c_laws_toWire, There135⟩, trivial⟩ trivial) mixed Go.Proofs.Try.func74 (c := Go.Proofs.Try.f74.body.getD .skip) (by kernel_rfl) (Nat.le_of_ble_eq_true (by kernel_rfl)) fun xs r hr => ?_
  obtain ⟨a0, _⟩ := xs
  obtain ⟨N, hN⟩ := h _ r hr
  exact ⟨N, A74 c_laws_toWire N, L74 c_laws_toWire N, (K74 c_laws_toWire N a0).trans hN⟩
theorem X74 : Contract Go.Proofs.Try.prog 74 ⟨[(.slice wire)], (.slice wire), e_laws_toWireS⟩ := C74 X135 fun _ _ h => ⟨N0, h⟩
-- laws_toNet
def E17 (c_laws_toWireS : ((List (Int × Int × Int)) × Unit → Option (List (Int × Int × Int)))) : Env := ⟨tys, [], [(74, ⟨[(.slice wire)], (.slice wire), c_laws_toWireS⟩)], []⟩
def A17 (_c_laws_toWireS : ((List (Int × Int × Int)) × Unit → Option (List (Int × Int × Int)))) (_N : Nat) : List (Nat × Loop (Ty.den net)) := []
theorem K17 (c_laws_toWireS : ((List (Int × Int × Int)) × Unit → Option (List (Int × Int × Int)))) (N : Nat) (a0 : (Int × Int × Int × List (Int × Int × Int))) : fnK N (E17 c_laws_toWireS) Go.Proofs.Try.f17 [net] net (A17 c_laws_toWireS N) (a0, ()) = r_laws_toNet c_laws_toWireS N a0 := by kernel_rfl
theorem L17 (c_laws_toWireS : ((List (Int × Int × Int)) × Unit → Option (List (Int × Int × Int)))) (N : Nat) : LoopsOk N (E17 c_laws_toWireS) (A17 c_laws_toWireS N) Go.Proofs.Try.f17.ntmps (retOf (E17 c_laws_toWireS) Go.Proofs.Try.f17 net) (loopsOf (Go.Proofs.Try.f17.body.getD .skip)) :=
  LoopsOk.of (l := []) (by kernel_rfl) .nil
theorem There17 : There Go.Proofs.Try.prog 17 := ⟨_, Go.Proofs.Try.func17, by kernel_rfl, by kernel_rfl⟩
theorem C17 {c_laws_toWireS : ((List (Int × Int × Int)) × Unit → Option (List (Int × Int × Int)))} (h_c_laws_toWireS : Contract Go.Proofs.Try.prog 74 ⟨[(.slice wire)], (.slice wire), c_laws_toWireS⟩) {f : ((Int × Int × Int × List (Int × Int × Int)) × Unit → Option (Int × Int × Int × List (Int × Int × Int)))} (h : ∀ a0 r, f (a0, ()) = some r → ∃ N, r_laws_toNet c_laws_toWireS N a0 = some r) : Contract Go.Proofs.Try.prog 17 ⟨[net], net, f⟩ := by
  refine contract (E := E17 c_laws_toWireS) (envOf table ⟨⟨h_c_laws_toWireS, There74⟩, trivial⟩ trivial) mixed Go.Proofs.Try.func17 (c := Go.Proofs.Try.f17.body.getD .skip) (by kernel_rfl) (Nat.le_of_ble_eq_true (by kernel_rfl)) fun xs r hr => ?_
  obtain ⟨a0, _⟩ := xs
  obtain ⟨N, hN⟩ := h _ r hr
  exact ⟨N, A17 c_laws_toWireS N, L17 c_laws_toWireS N, (K17 c_laws_toWireS N a0).trans hN⟩
theorem X17 : Contract Go.Proofs.Try.prog 17 ⟨[net], net, e_laws_toNet⟩ := C17 X74 fun _ _ h => ⟨N0, h⟩
-- laws_toRatio
def E149 : Env := ⟨tys, [], [], []⟩
def A149 (_N : Nat) : List (Nat × Loop (Ty.den ratio)) := []
theorem K149 (N : Nat) (a0 : (Int × Int)) : fnK N (E149) Go.Proofs.Try.f149 [ratio] ratio (A149 N) (a0, ()) = r_laws_toRatio N a0 := by kernel_rfl
theorem L149 (N : Nat) : LoopsOk N (E149) (A149 N) Go.Proofs.Try.f149.ntmps (retOf (E149) Go.Proofs.Try.f149 ratio) (loopsOf (Go.Proofs.Try.f149.body.getD .skip)) :=
  LoopsOk.of (l := []) (by kernel_rfl) .nil
theorem There149 : There Go.Proofs.Try.prog 149 := ⟨_, Go.Proofs.Try.func149, by kernel_rfl, by kernel_rfl⟩
theorem C149 {f : ((Int × Int) × Unit → Option (Int × Int))} (h : ∀ a0 r, f (a0, ()) = some r → ∃ N, r_laws_toRatio N a0 = some r) : Contract Go.Proofs.Try.prog 149 ⟨[ratio], ratio, f⟩ := by
  refine contract (E := E149) (envOf table trivial trivial) mixed Go.Proofs.Try.func149 (c := Go.Proofs.Try.f149.body.getD .skip) (by kernel_rfl) (Nat.le_of_ble_eq_true (by kernel_rfl)) fun xs r hr => ?_
  obtain ⟨a0, _⟩ := xs
  obtain ⟨N, hN⟩ := h _ r hr
  exact ⟨N, A149 N, L149 N, (K149 N a0).trans hN⟩
theorem X149 : Contract Go.Proofs.Try.prog 149 ⟨[ratio], ratio, e_laws_toRatio⟩ := C149 fun _ _ h => ⟨N0, h⟩
-- laws_toRatioS
def E96 (c_laws_toRatio : ((Int × Int) × Unit → Option (Int × Int))) : Env := ⟨tys, [], [(149, ⟨[ratio], ratio, c_laws_toRatio⟩)], []⟩
def A96 (c_laws_toRatio : ((Int × Int) × Unit → Option (Int × Int))) (N : Nat) : List (Nat × Loop (Ty.den (.slice ratio))) := [(0, ⟨[(0, .ro none (.slice (.pair (.num .i64) (.num .i64)))), (3, .own (.slice (.pair (.num .i64) (.num .i64)))), (4, .ro none (.num .i64))], r_laws_toRatioS_L0 c_laws_toRatio N⟩)]
theorem K96 (c_laws_toRatio : ((Int × Int) × Unit → Option (Int × Int))) (N : Nat) (a0 : (List (Int × Int))) : fnK N (E96 c_laws_toRatio) Go.Proofs.Try.f96 [(.slice ratio)] (.slice ratio) (A96 c_laws_toRatio N) (a0, ()) = r_laws_toRatioS c_laws_toRatio N a0 := by kernel_rfl
theorem L96 (c_laws_toRatio : ((Int × Int) × Unit → Option (Int × Int))) (N : Nat) : LoopsOk N (E96 c_laws_toRatio) (A96 c_laws_toRatio N) Go.Proofs.Try.f96.ntmps (retOf (E96 c_laws_toRatio) Go.Proofs.Try.f96 (.slice ratio)) (loopsOf (Go.Proofs.Try.f96.body.getD .skip)) :=
  LoopsOk.of (l := [(0, lb Go.Proofs.Try.f96 0)]) (by kernel_rfl) (.cons (L := ⟨[(0, .ro none (.slice (.pair (.num .i64) (.num .i64)))), (3, .own (.slice (.pair (.num .i64) (.num .i64)))), (4, .ro none (.num .i64))], r_laws_toRatioS_L0 c_laws_toRatio N⟩) (by kernel_rfl) (by intro s kc ke env; kernel_rfl) .nil)
theorem There96 : There Go.Proofs.Try.prog 96 := ⟨_, Go.Proofs.Try.func96, by kernel_rfl, by kernel_rfl⟩
theorem C96 {c_laws_toRatio : ((Int × Int) × Unit → Option (Int × Int))} (h_c_laws_toRatio : Contract Go.Proofs.Try.prog 149 ⟨[ratio], ratio, c_laws_toRatio⟩) {f : ((List (Int × Int)) × Unit → Option (List (Int × Int)))} (h : ∀ a0 r, f (a0, ()) = some r → ∃ N, r_laws_toRatioS c_laws_toRatio N a0 = some r) : Contract Go.Proofs.Try.prog 96 ⟨[(.slice ratio)], (.slice ratio), f⟩ := by
  refine contract (E := E96 c_laws_toRatio) (envOf table ⟨⟨h_c_laws_toRatio, There149⟩, trivial⟩ trivial) mixed Go.Proofs.Try.func96 (c := Go.Proofs.Try.f96.body.getD .skip) (by kernel_rfl) (Nat.le_of_ble_eq_true (by kernel_rfl)) fun xs r hr => ?_
  obtain ⟨a0, _⟩ := xs
  obtain ⟨N, hN⟩ := h _ r hr
  exact ⟨N, A96 c_laws_toRatio N, L96 c_laws_toRatio N, (K96 c_laws_toRatio N a0).trans hN⟩
theorem X96 : Contract Go.Proofs.Try.prog 96 ⟨[(.slice ratio)], (.slice ratio), e_laws_toRatioS⟩ := C96 X149 fun _ _ h => ⟨N0, h⟩
-- laws_toRatioSS
def E31 (c_laws_toRatioS : ((List (Int × Int)) × Unit → Option (List (Int × Int)))) : Env := ⟨tys, [], [(96, ⟨[(.slice ratio)], (.slice ratio), c_laws_toRatioS⟩)], []⟩
def A31 (c_laws_toRatioS : ((List (Int × Int)) × Unit → Option (List (Int × Int)))) (N : Nat) : List (Nat × Loop (Ty.den (.slice (.slice ratio)))) := [(0, ⟨[(0, .ro none (.slice (.slice (.pair (.num .i64) (.num .i64))))), (3, .own (.slice (.slice (.pair (.num .i64) (.num .i64))))), (4, .ro none (.num .i64))], r_laws_toRatioSS_L0 c_laws_toRatioS N⟩)]
theorem K31 (c_laws_toRatioS : ((List (Int × Int)) × Unit → Option (List (Int × Int)))) (N : Nat) (a0 : (List (List (Int × Int)))) : fnK N (E31 c_laws_toRatioS) Go.Proofs.Try.f31 [(.slice (.slice ratio))] (.slice (.slice ratio)) (A31 c_laws_toRatioS N) (a0, ()) = r_laws_toRatioSS c_laws_toRatioS N a0 := by kernel_rfl
theorem L31 (c_laws_toRatioS : ((List (Int × Int)) × Unit → Option (List (Int × Int)))) (N : Nat) : LoopsOk N (E31 c_laws_toRatioS) (A31 c_laws_toRatioS N) Go.Proofs.Try.f31.ntmps (retOf (E31 c_laws_toRatioS) Go.Proofs.Try.f31 (.slice (.slice ratio))) (loopsOf (Go.Proofs.Try.f31.body.getD .skip)) :=
  LoopsOk.of (l := [(0, lb Go.Proofs.Try.f31 0)]) (by kernel_rfl) (.cons (L := ⟨[(0, .ro none (.slice (.slice (.pair (.num .i64) (.num .i64))))), (3, .own (.slice (.slice (.pair (.num .i64) (.num .i64))))), (4, .ro none (.num .i64))], r_laws_toRatioSS_L0 c_laws_toRatioS N⟩) (by kernel_rfl) (by intro s kc ke env; kernel_rfl) .nil)
theorem There31 : There Go.Proofs.Try.prog 31 := ⟨_, Go.Proofs.Try.func31, by kernel_rfl, by kernel_rfl⟩
theorem C31 {c_laws_toRatioS : ((List (Int × Int)) × Unit → Option (List (Int × Int)))} (h_c_laws_toRatioS : Contract Go.Proofs.Try.prog 96 ⟨[(.slice ratio)], (.slice ratio), c_laws_toRatioS⟩) {f : ((List (List (Int × Int))) × Unit → Option (List (List (Int × Int))))} (h : ∀ a0 r, f (a0, ()) = some r → ∃ N, r_laws_toRatioSS c_laws_toRatioS N a0 = some r) : Contract Go.Proofs.Try.prog 31 ⟨[(.slice (.slice ratio))], (.slice (.slice ratio)), f⟩ := by
  refine contract (E := E31 c_laws_toRatioS) (envOf table ⟨⟨h_c_laws_toRatioS, There96⟩, trivial⟩ trivial) mixed Go.Proofs.Try.func31 (c := Go.Proofs.Try.f31.body.getD .skip) (by kernel_rfl) (Nat.le_of_ble_eq_true (by kernel_rfl)) fun xs r hr => ?_
  obtain ⟨a0, _⟩ := xs
  obtain ⟨N, hN⟩ := h _ r hr
  exact ⟨N, A31 c_laws_toRatioS N, L31 c_laws_toRatioS N, (K31 c_laws_toRatioS N a0).trans hN⟩
theorem X31 : Contract Go.Proofs.Try.prog 31 ⟨[(.slice (.slice ratio))], (.slice (.slice ratio)), e_laws_toRatioSS⟩ := C31 X96 fun _ _ h => ⟨N0, h⟩
-- spec_l01In
def E70 : Env := ⟨tys, [], [], []⟩
def A70 (_N : Nat) : List (Nat × Loop (Ty.den .bool)) := []
theorem K70 (N : Nat) (a0 : Int) (a1 : Int) (a2 : Int) : fnK N (E70) Go.Proofs.Try.f70 [int, int, int] .bool (A70 N) (a0, a1, a2, ()) = r_spec_l01In N a0 a1 a2 := by kernel_rfl
theorem L70 (N : Nat) : LoopsOk N (E70) (A70 N) Go.Proofs.Try.f70.ntmps (retOf (E70) Go.Proofs.Try.f70 .bool) (loopsOf (Go.Proofs.Try.f70.body.getD .skip)) :=
  LoopsOk.of (l := []) (by kernel_rfl) .nil
theorem There70 : There Go.Proofs.Try.prog 70 := ⟨_, Go.Proofs.Try.func70, by kernel_rfl, by kernel_rfl⟩
theorem C70 {f : (Int × Int × Int × Unit → Option Bool)} (h : ∀ a0 a1 a2 r, f (a0, a1, a2, ()) = some r → ∃ N, r_spec_l01In N a0 a1 a2 = some r) : Contract Go.Proofs.Try.prog 70 ⟨[int, int, int], .bool, f⟩ := by
  refine contract (E := E70) (envOf table trivial trivial) mixed Go.Proofs.Try.func70 (c := Go.Proofs.Try.f70.body.getD .skip) (by kernel_rfl) (Nat.le_of_ble_eq_true (by kernel_rfl)) fun xs r hr => ?_
  obtain ⟨a0, a1, a2, _⟩ := xs
  obtain ⟨N, hN⟩ := h _ _ _ r hr
  exact ⟨N, A70 N, L70 N, (K70 N a0 a1 a2).trans hN⟩
theorem X70 : Contract Go.Proofs.Try.prog 70 ⟨[int, int, int], .bool, e_spec_l01In⟩ := C70 fun _ _ _ _ h => ⟨N0, h⟩
-- spec_l03Has
def E171 : Env := ⟨tys, [], [], []⟩
def A171 (N : Nat) : List (Nat × Loop (Ty.den .bool)) := [(0, ⟨[(1, .ro none (.num .i64)), (7, .ro none (.slice (.num .i64))), (8, .ro none (.num .i64)), (9, .ro none (.num .i64))], r_spec_l03Has_L0 N⟩)]
theorem K171 (N : Nat) (a0 : (List Int)) (a1 : Int) : fnK N (E171) Go.Proofs.Try.f171 [(.slice int), int] .bool (A171 N) (a0, a1, ()) = r_spec_l03Has N a0 a1 := by kernel_rfl
theorem L171 (N : Nat) : LoopsOk N (E171) (A171 N) Go.Proofs.Try.f171.ntmps (retOf (E171) Go.Proofs.Try.f171 .bool) (loopsOf (Go.Proofs.Try.f171.body.getD .skip)) :=
  LoopsOk.of (l := [(0, lb Go.Proofs.Try.f171 0)]) (by kernel_rfl) (.cons (L := ⟨[(1, .ro none (.num .i64)), (7, .ro none (.slice (.num .i64))), (8, .ro none (.num .i64)), (9, .ro none (.num .i64))], r_spec_l03Has_L0 N⟩) (by kernel_rfl) (by intro s kc ke env; kernel_rfl) .nil)
theorem There171 : There Go.Proofs.Try.prog 171 := ⟨_, Go.Proofs.Try.func171, by kernel_rfl, by kernel_rfl⟩
theorem C171 {f : ((List Int) × Int × Unit → Option Bool)} (h : ∀ a0 a1 r, f (a0, a1, ()) = some r → ∃ N, r_spec_l03Has N a0 a1 = some r) : Contract Go.Proofs.Try.prog 171 ⟨[(.slice int), int], .bool, f⟩ := by
  refine contract (E := E171) (envOf table trivial trivial) mixed Go.Proofs.Try.func171 (c := Go.Proofs.Try.f171.body.getD .skip) (by kernel_rfl) (Nat.le_of_ble_eq_true (by kernel_rfl)) fun xs r hr => ?_
  obtain ⟨a0, a1, _⟩ := xs
  obtain ⟨N, hN⟩ := h _ _ r hr
  exact ⟨N, A171 N, L171 N, (K171 N a0 a1).trans hN⟩
theorem X171 : Contract Go.Proofs.Try.prog 171 ⟨[(.slice int), int], .bool, e_spec_l03Has⟩ := C171 fun _ _ _ h => ⟨N0, h⟩
-- spec_l03Reach
def E131 (c_spec_l03Has : ((List Int) × Int × Unit → Option Bool)) : Env := ⟨tys, [], [(171, ⟨[(.slice int), int], .bool, c_spec_l03Has⟩)], []⟩
def A131 (c_spec_l03Has : ((List Int) × Int × Unit → Option Bool)) (N : Nat) : List (Nat × Loop (Ty.den (.slice int))) := [(0, ⟨[(0, .ro none (.slice (.pair (.num .i64) (.pair (.num .i64) (.num .i64))))), (5, .own (.slice (.num .i64))), (6, .ro none (.num .i64))], r_spec_l03Reach_L0 c_spec_l03Has N⟩), (2, ⟨[(0, .ro none (.slice (.pair (.num .i64) (.pair (.num .i64) (.num .i64))))), (5, .own (.slice (.num .i64))), (6, .ro none (.num .i64)), (17, .ro none (.slice (.pair (.num .i64) (.pair (.num .i64) (.num .i64))))), (18, .ro none (.num .i64)), (19, .ro none (.num .i64))], r_spec_l03Reach_L2 c_spec_l03Has N⟩)]
theorem K131 (c_spec_l03Has : ((List Int) × Int × Unit → Option Bool)) (N : Nat) (a0 : (List (Int × Int × Int))) (a1 : Int) : fnK N (E131 c_spec_l03Has) Go.Proofs.Try.f131 [(.slice wire), int] (.slice int) (A131 c_spec_l03Has N) (a0, a1, ()) = r_spec_l03Reach c_spec_l03Has N a0 a1 := by kernel_rfl
theorem L131 (c_spec_l03Has : ((List Int) × Int × Unit → Option Bool)) (N : Nat) : LoopsOk N (E131 c_spec_l03Has) (A131 c_spec_l03Has N) Go.Proofs.Try.f131.ntmps (retOf (E131 c_spec_l03Has) Go.Proofs.Try.f131 (.slice int)) (loopsOf (Go.Proofs.Try.f131.body.getD .skip)) :=
  LoopsOk.of (l := [(0, lb Go.Proofs.Try.f131 0), (2, lb Go.Proofs.Try.f131 1)]) (by kernel_rfl) (.cons (L := ⟨[(0, .ro none (.slice (.pair (.num .i64) (.pair (.num .i64) (.num .i64))))), (5, .own (.slice (.num .i64))), (6, .ro none (.num .i64))], r_spec_l03Reach_L0 c_spec_l03Has N⟩) (by kernel_rfl) (by intro s kc ke env; kernel_rfl) (.cons (L := ⟨[(0, .ro none (.slice (.pair (.num .i64) (.pair (.num .i64) (.num .i64))))), (5, .own (.slice (.num .i64))), (6, .ro none (.num .i64)), (17, .ro none (.slice (.pair (.num .i64) (.pair (.num .i64) (.num .i64))))), (18, .ro none (.num .i64)), (19, .ro none (.num .i64))], r_spec_l03Reach_L2 c_spec_l03Has N⟩) (by kernel_rfl) (by intro s kc ke env; kernel_rfl) .nil))
theorem There131 : There Go.Proofs.Try.prog 131 := ⟨_, Go.Proofs.Try.func131, by kernel_rfl, by kernel_rfl⟩
theorem C131 {c_spec_l03Has : ((List Int) × Int × Unit → Option Bool)} (h_c_spec_l03Has : Contract Go.Proofs.Try.prog 171 ⟨[(.slice int), int], .bool, c_spec_l03Has⟩) {f : ((List (Int × Int × Int)) × Int × Unit → Option (List Int))} (h : ∀ a0 a1 r, f (a0, a1, ()) = some r → ∃ N, r_spec_l03Reach c_spec_l03Has N a0 a1 = some r) : Contract Go.Proofs.Try.prog 131 ⟨[(.slice wire), int], (.slice int), f⟩ := by
  refine contract (E := E131 c_spec_l03Has) (envOf table ⟨⟨h_c_spec_l03Has, There171⟩, trivial⟩ trivial) mixed Go.Proofs.Try.func131 (c := Go.Proofs.Try.f131.body.getD .skip) (by kernel_rfl) (Nat.le_of_ble_eq_true (by kernel_rfl)) fun xs r hr => ?_
  obtain ⟨a0, a1, _⟩ := xs
  obtain ⟨N, hN⟩ := h _ _ r hr
  exact ⟨N, A131 c_spec_l03Has N, L131 c_spec_l03Has N, (K131 c_spec_l03Has N a0 a1).trans hN⟩
theorem X131 : Contract Go.Proofs.Try.prog 131 ⟨[(.slice wire), int], (.slice int), e_spec_l03Reach⟩ := C131 X171 fun _ _ _ h => ⟨N0, h⟩
-- spec_NetOk
def E69 (c_spec_l01In : (Int × Int × Int × Unit → Option Bool)) (c_spec_l03Reach : ((List (Int × Int × Int)) × Int × Unit → Option (List Int))) : Env := ⟨tys, [], [(70, ⟨[int, int, int], .bool, c_spec_l01In⟩), (131, ⟨[(.slice wire), int], (.slice int), c_spec_l03Reach⟩)], []⟩
def A69 (c_spec_l01In : (Int × Int × Int × Unit → Option Bool)) (c_spec_l03Reach : ((List (Int × Int × Int)) × Int × Unit → Option (List Int))) (N : Nat) : List (Nat × Loop (Ty.den .bool)) := [(0, ⟨[(1, .box false (.pair (.num .i64) (.pair (.num .i64) (.pair (.num .i64) (.slice (.pair (.num .i64) (.pair (.num .i64) (.num .i64)))))))), (24, .ro none (.slice (.pair (.num .i64) (.pair (.num .i64) (.num .i64))))), (25, .ro none (.num .i64)), (26, .ro none (.num .i64))], r_spec_NetOk_L0 c_spec_l01In c_spec_l03Reach N⟩)]
theorem K69 (c_spec_l01In : (Int × Int × Int × Unit → Option Bool)) (c_spec_l03Reach : ((List (Int × Int × Int)) × Int × Unit → Option (List Int))) (N : Nat) (a0 : (Int × Int × Int × List (Int × Int × Int))) : fnK N (E69 c_spec_l01In c_spec_l03Reach) Go.Proofs.Try.f69 [net] .bool (A69 c_spec_l01In c_spec_l03Reach N) (a0, ()) = r_spec_NetOk c_spec_l01In c_spec_l03Reach N a0 := by kernel_rfl
theorem L69 (c_spec_l01In : (Int × Int × Int × Unit → Option Bool)) (c_spec_l03Reach : ((List (Int × Int × Int)) × Int × Unit → Option (List Int))) (N : Nat) : LoopsOk N (E69 c_spec_l01In c_spec_l03Reach) (A69 c_spec_l01In c_spec_l03Reach N) Go.Proofs.Try.f69.ntmps (retOf (E69 c_spec_l01In c_spec_l03Reach) Go.Proofs.Try.f69 .bool) (loopsOf (Go.Proofs.Try.f69.body.getD .skip)) :=
  LoopsOk.of (l := [(0, lb Go.Proofs.Try.f69 0)]) (by kernel_rfl) (.cons (L := ⟨[(1, .box false (.pair (.num .i64) (.pair (.num .i64) (.pair (.num .i64) (.slice (.pair (.num .i64) (.pair (.num .i64) (.num .i64)))))))), (24, .ro none (.slice (.pair (.num .i64) (.pair (.num .i64) (.num .i64))))), (25, .ro none (.num .i64)), (26, .ro none (.num .i64))], r_spec_NetOk_L0 c_spec_l01In c_spec_l03Reach N⟩) (by kernel_rfl) (by intro s kc ke env; kernel_rfl) .nil)
theorem There69 : There Go.Proofs.Try.prog 69 := ⟨_, Go.Proofs.Try.func69, by kernel_rfl, by kernel_rfl⟩
theorem C69 {c_spec_l01In : (Int × Int × Int × Unit → Option Bool)} {c_spec_l03Reach : ((List (Int × Int × Int)) × Int × Unit → Option (List Int))} (h_c_spec_l01In : Contract Go.Proofs.Try.prog 70 ⟨[int, int, int], .bool, c_spec_l01In⟩) (h_c_spec_l03Reach : Contract Go.Proofs.Try.prog 131 ⟨[(.slice wire), int], (.slice int), c_spec_l03Reach⟩) {f : ((Int × Int × Int × List (Int × Int × Int)) × Unit → Option Bool)} (h : ∀ a0 r, f (a0, ()) = some r → ∃ N, r_spec_NetOk c_spec_l01In c_spec_l03Reach N a0 = some r) : Contract Go.Proofs.Try.prog 69 ⟨[net], .bool, f⟩ := by
  refine contract (E := E69 c_spec_l01In c_spec_l03Reach) (envOf table ⟨⟨h_c_spec_l01In, There70⟩, ⟨⟨h_c_spec_l03Reach, There131⟩, trivial⟩⟩ trivial) mixed Go.Proofs.Try.func69 (c := Go.Proofs.Try.f69.body.getD .skip) (by kernel_rfl) (Nat.le_of_ble_eq_true (by kernel_rfl)) fun xs r hr => ?_
  obtain ⟨a0, _⟩ := xs
  obtain ⟨N, hN⟩ := h _ r hr
  exact ⟨N, A69 c_spec_l01In c_spec_l03Reach N, L69 c_spec_l01In c_spec_l03Reach N, (K69 c_spec_l01In c_spec_l03Reach N a0).trans hN⟩
theorem X69 : Contract Go.Proofs.Try.prog 69 ⟨[net], .bool, e_spec_NetOk⟩ := C69 X70 X131 fun _ _ h => ⟨N0, h⟩
-- spec_l10Copy
def E142 : Env := ⟨tys, [], [], []⟩
def A142 (_N : Nat) : List (Nat × Loop (Ty.den net)) := []
theorem K142 (N : Nat) (a0 : (Int × Int × Int × List (Int × Int × Int))) : fnK N (E142) Go.Proofs.Try.f142 [net] net (A142 N) (a0, ()) = r_spec_l10Copy N a0 := by kernel_rfl
theorem L142 (N : Nat) : LoopsOk N (E142) (A142 N) Go.Proofs.Try.f142.ntmps (retOf (E142) Go.Proofs.Try.f142 net) (loopsOf (Go.Proofs.Try.f142.body.getD .skip)) :=
  LoopsOk.of (l := []) (by kernel_rfl) .nil
theorem There142 : There Go.Proofs.Try.prog 142 := ⟨_, Go.Proofs.Try.func142, by kernel_rfl, by kernel_rfl⟩
theorem C142 {f : ((Int × Int × Int × List (Int × Int × Int)) × Unit → Option (Int × Int × Int × List (Int × Int × Int)))} (h : ∀ a0 r, f (a0, ()) = some r → ∃ N, r_spec_l10Copy N a0 = some r) : Contract Go.Proofs.Try.prog 142 ⟨[net], net, f⟩ := by
  refine contract (E := E142) (envOf table trivial trivial) mixed Go.Proofs.Try.func142 (c := Go.Proofs.Try.f142.body.getD .skip) (by kernel_rfl) (Nat.le_of_ble_eq_true (by kernel_rfl)) fun xs r hr => ?_
  obtain ⟨a0, _⟩ := xs
  obtain ⟨N, hN⟩ := h _ r hr
  exact ⟨N, A142 N, L142 N, (K142 N a0).trans hN⟩
theorem X142 : Contract Go.Proofs.Try.prog 142 ⟨[net], net, e_spec_l10Copy⟩ := C142 fun _ _ h => ⟨N0, h⟩
-- spec_l03Drop
def E146 : Env := ⟨tys, [], [], []⟩
def A146 (N : Nat) : List (Nat × Loop (Ty.den (.slice wire))) := [(0, ⟨[(3, .own (.slice (.pair (.num .i64) (.pair (.num .i64) (.num .i64))))), (7, .ro none (.slice (.pair (.num .i64) (.pair (.num .i64) (.num .i64))))), (8, .ro none (.num .i64)), (9, .ro none (.num .i64))], r_spec_l03Drop_L0 N⟩)]
theorem K146 (N : Nat) (a0 : (List (Int × Int × Int))) : fnK N (E146) Go.Proofs.Try.f146 [(.slice wire)] (.slice wire) (A146 N) (a0, ()) = r_spec_l03Drop N a0 := by kernel_rfl
theorem L146 (N : Nat) : LoopsOk N (E146) (A146 N) Go.Proofs.Try.f146.ntmps (retOf (E146) Go.Proofs.Try.f146 (.slice wire)) (loopsOf (Go.Proofs.Try.f146.body.getD .skip)) :=
  LoopsOk.of (l := [(0, lb Go.Proofs.Try.f146 0)]) (by kernel_rfl) (.cons (L := ⟨[(3, .own (.slice (.pair (.num .i64) (.pair (.num .i64) (.num .i64))))), (7, .ro none (.slice (.pair (.num .i64) (.pair (.num .i64) (.num .i64))))), (8, .ro none (.num .i64)), (9, .ro none (.num .i64))], r_spec_l03Drop_L0 N⟩) (by kernel_rfl) (by intro s kc ke env; kernel_rfl) .nil)
theorem There146 : There Go.Proofs.Try.prog 146 := ⟨_, Go.Proofs.Try.func146, by kernel_rfl, by kernel_rfl⟩
theorem C146 {f : ((List (Int × Int × Int)) × Unit → Option (List (Int × Int × Int)))} (h : ∀ a0 r, f (a0, ()) = some r → ∃ N, r_spec_l03Drop N a0 = some r) : Contract Go.Proofs.Try.prog 146 ⟨[(.slice wire)], (.slice wire), f⟩ := by
  refine contract (E := E146) (envOf table trivial trivial) mixed Go.Proofs.Try.func146 (c := Go.Proofs.Try.f146.body.getD .skip) (by kernel_rfl) (Nat.le_of_ble_eq_true (by kernel_rfl)) fun xs r hr => ?_
  obtain ⟨a0, _⟩ := xs
  obtain ⟨N, hN⟩ := h _ r hr
  exact ⟨N, A146 N, L146 N, (K146 N a0).trans hN⟩
theorem X146 : Contract Go.Proofs.Try.prog 146 ⟨[(.slice wire)], (.slice wire), e_spec_l03Drop⟩ := C146 fun _ _ h => ⟨N0, h⟩
-- spec_ApplyFault
def E93 (c_spec_NetOk : ((Int × Int × Int × List (Int × Int × Int)) × Unit → Option Bool)) (c_spec_l01In : (Int × Int × Int × Unit → Option Bool)) (c_spec_l10Copy : ((Int × Int × Int × List (Int × Int × Int)) × Unit → Option (Int × Int × Int × List (Int × Int × Int)))) (c_spec_l03Drop : ((List (Int × Int × Int)) × Unit → Option (List (Int × Int × Int)))) : Env := ⟨tys, [], [(69, ⟨[net], .bool, c_spec_NetOk⟩), (70, ⟨[int, int, int], .bool, c_spec_l01In⟩), (142, ⟨[net], net, c_spec_l10Copy⟩), (146, ⟨[(.slice wire)], (.slice wire), c_spec_l03Drop⟩)], []⟩
def A93 (_c_spec_NetOk : ((Int × Int × Int × List (Int × Int × Int)) × Unit → Option Bool)) (_c_spec_l01In : (Int × Int × Int × Unit → Option Bool)) (_c_spec_l10Copy : ((Int × Int × Int × List (Int × Int × Int)) × Unit → Option (Int × Int × Int × List (Int × Int × Int)))) (_c_spec_l03Drop : ((List (Int × Int × Int)) × Unit → Option (List (Int × Int × Int)))) (_N : Nat) : List (Nat × Loop (Ty.den (.tup net .bool))) := []
theorem K93 (c_spec_NetOk : ((Int × Int × Int × List (Int × Int × Int)) × Unit → Option Bool)) (c_spec_l01In : (Int × Int × Int × Unit → Option Bool)) (c_spec_l10Copy : ((Int × Int × Int × List (Int × Int × Int)) × Unit → Option (Int × Int × Int × List (Int × Int × Int)))) (c_spec_l03Drop : ((List (Int × Int × Int)) × Unit → Option (List (Int × Int × Int)))) (N : Nat) (a0 : (Int × Int × Int × List (Int × Int × Int))) (a1 : (Int × Int)) : fnK N (E93 c_spec_NetOk c_spec_l01In c_spec_l10Copy c_spec_l03Drop) Go.Proofs.Try.f93 [net, fault] (.tup net .bool) (A93 c_spec_NetOk c_spec_l01In c_spec_l10Copy c_spec_l03Drop N) (a0, a1, ()) = r_spec_ApplyFault c_spec_NetOk c_spec_l01In c_spec_l10Copy c_spec_l03Drop N a0 a1 := by kernel_rfl
theorem L93 (c_spec_NetOk : ((Int × Int × Int × List (Int × Int × Int)) × Unit → Option Bool)) (c_spec_l01In : (Int × Int × Int × Unit → Option Bool)) (c_spec_l10Copy : ((Int × Int × Int × List (Int × Int × Int)) × Unit → Option (Int × Int × Int × List (Int × Int × Int)))) (c_spec_l03Drop : ((List (Int × Int × Int)) × Unit → Option (List (Int × Int × Int)))) (N : Nat) : LoopsOk N (E93 c_spec_NetOk c_spec_l01In c_spec_l10Copy c_spec_l03Drop) (A93 c_spec_NetOk c_spec_l01In c_spec_l10Copy c_spec_l03Drop N) Go.Proofs.Try.f93.ntmps (retOf (E93 c_spec_NetOk c_spec_l01In c_spec_l10Copy c_spec_l03Drop) Go.Proofs.Try.f93 (.tup net .bool)) (loopsOf (Go.Proofs.Try.f93.body.getD .skip)) :=
  LoopsOk.of (l := []) (by kernel_rfl) .nil
theorem There93 : There Go.Proofs.Try.prog 93 := ⟨_, Go.Proofs.Try.func93, by kernel_rfl, by kernel_rfl⟩
theorem C93 {c_spec_NetOk : ((Int × Int × Int × List (Int × Int × Int)) × Unit → Option Bool)} {c_spec_l01In : (Int × Int × Int × Unit → Option Bool)} {c_spec_l10Copy : ((Int × Int × Int × List (Int × Int × Int)) × Unit → Option (Int × Int × Int × List (Int × Int × Int)))} {c_spec_l03Drop : ((List (Int × Int × Int)) × Unit → Option (List (Int × Int × Int)))} (h_c_spec_NetOk : Contract Go.Proofs.Try.prog 69 ⟨[net], .bool, c_spec_NetOk⟩) (h_c_spec_l01In : Contract Go.Proofs.Try.prog 70 ⟨[int, int, int], .bool, c_spec_l01In⟩) (h_c_spec_l10Copy : Contract Go.Proofs.Try.prog 142 ⟨[net], net, c_spec_l10Copy⟩) (h_c_spec_l03Drop : Contract Go.Proofs.Try.prog 146 ⟨[(.slice wire)], (.slice wire), c_spec_l03Drop⟩) {f : ((Int × Int × Int × List (Int × Int × Int)) × (Int × Int) × Unit → Option ((Int × Int × Int × List (Int × Int × Int)) × Bool))} (h : ∀ a0 a1 r, f (a0, a1, ()) = some r → ∃ N, r_spec_ApplyFault c_spec_NetOk c_spec_l01In c_spec_l10Copy c_spec_l03Drop N a0 a1 = some r) : Contract Go.Proofs.Try.prog 93 ⟨[net, fault], (.tup net .bool), f⟩ := by
  refine contract (E := E93 c_spec_NetOk c_spec_l01In c_spec_l10Copy c_spec_l03Drop) (envOf table ⟨⟨h_c_spec_NetOk, There69⟩, ⟨⟨h_c_spec_l01In, There70⟩, ⟨⟨h_c_spec_l10Copy, There142⟩, ⟨⟨h_c_spec_l03Drop, There146⟩, trivial⟩⟩⟩⟩ trivial) mixed Go.Proofs.Try.func93 (c := Go.Proofs.Try.f93.body.getD .skip) (by kernel_rfl) (Nat.le_of_ble_eq_true (by kernel_rfl)) fun xs r hr => ?_
  obtain ⟨a0, a1, _⟩ := xs
  obtain ⟨N, hN⟩ := h _ _ r hr
  exact ⟨N, A93 c_spec_NetOk c_spec_l01In c_spec_l10Copy c_spec_l03Drop N, L93 c_spec_NetOk c_spec_l01In c_spec_l10Copy c_spec_l03Drop N, (K93 c_spec_NetOk c_spec_l01In c_spec_l10Copy c_spec_l03Drop N a0 a1).trans hN⟩
theorem X93 : Contract Go.Proofs.Try.prog 93 ⟨[net, fault], (.tup net .bool), e_spec_ApplyFault⟩ := C93 X69 X70 X142 X146 fun _ _ _ h => ⟨N0, h⟩
-- spec_AllFaults
def E92 (c_spec_NetOk : ((Int × Int × Int × List (Int × Int × Int)) × Unit → Option Bool)) (c_spec_ApplyFault : ((Int × Int × Int × List (Int × Int × Int)) × (Int × Int) × Unit → Option ((Int × Int × Int × List (Int × Int × Int)) × Bool))) : Env := ⟨tys, [], [(69, ⟨[net], .bool, c_spec_NetOk⟩), (93, ⟨[net, fault], (.tup net .bool), c_spec_ApplyFault⟩)], []⟩
def A92 (c_spec_NetOk : ((Int × Int × Int × List (Int × Int × Int)) × Unit → Option Bool)) (c_spec_ApplyFault : ((Int × Int × Int × List (Int × Int × Int)) × (Int × Int) × Unit → Option ((Int × Int × Int × List (Int × Int × Int)) × Bool))) (N : Nat) : List (Nat × Loop (Ty.den (.slice fault))) := [(0, ⟨[(1, .box false (.pair (.num .i64) (.pair (.num .i64) (.pair (.num .i64) (.slice (.pair (.num .i64) (.pair (.num .i64) (.num .i64)))))))), (3, .own (.slice (.pair (.num .i64) (.num .i64)))), (15, .ro none (.num .i64)), (16, .ro none (.num .i64))], r_spec_AllFaults_L0 c_spec_NetOk c_spec_ApplyFault N⟩), (2, ⟨[(1, .box false (.pair (.num .i64) (.pair (.num .i64) (.pair (.num .i64) (.slice (.pair (.num .i64) (.pair (.num .i64) (.num .i64)))))))), (3, .own (.slice (.pair (.num .i64) (.num .i64)))), (4, .ro none (.num .i64)), (5, .ro none (.num .i64)), (15, .ro none (.num .i64)), (16, .ro none (.num .i64))], r_spec_AllFaults_L2 c_spec_NetOk c_spec_ApplyFault N⟩)]
theorem K92 (c_spec_NetOk : ((Int × Int × Int × List (Int × Int × Int)) × Unit → Option Bool)) (c_spec_ApplyFault : ((Int × Int × Int × List (Int × Int × Int)) × (Int × Int) × Unit → Option ((Int × Int × Int × List (Int × Int × Int)) × Bool))) (N : Nat) (a0 : (Int × Int × Int × List (Int × Int × Int))) : fnK N (E92 c_spec_NetOk c_spec_ApplyFault) Go.Proofs.Try.f92 [net] (.slice fault) (A92 c_spec_NetOk c_spec_ApplyFault N) (a0, ()) = r_spec_AllFaults c_spec_NetOk c_spec_ApplyFault N a0 := by kernel_rfl
theorem L92 (c_spec_NetOk : ((Int × Int × Int × List (Int × Int × Int)) × Unit → Option Bool)) (c_spec_ApplyFault : ((Int × Int × Int × List (Int × Int × Int)) × (Int × Int) × Unit → Option ((Int × Int × Int × List (Int × Int × Int)) × Bool))) (N : Nat) : LoopsOk N (E92 c_spec_NetOk c_spec_ApplyFault) (A92 c_spec_NetOk c_spec_ApplyFault N) Go.Proofs.Try.f92.ntmps (retOf (E92 c_spec_NetOk c_spec_ApplyFault) Go.Proofs.Try.f92 (.slice fault)) (loopsOf (Go.Proofs.Try.f92.body.getD .skip)) :=
  LoopsOk.of (l := [(0, lb Go.Proofs.Try.f92 0), (2, lb Go.Proofs.Try.f92 1)]) (by kernel_rfl) (.cons (L := ⟨[(1, .box false (.pair (.num .i64) (.pair (.num .i64) (.pair (.num .i64) (.slice (.pair (.num .i64) (.pair (.num .i64) (.num .i64)))))))), (3, .own (.slice (.pair (.num .i64) (.num .i64)))), (15, .ro none (.num .i64)), (16, .ro none (.num .i64))], r_spec_AllFaults_L0 c_spec_NetOk c_spec_ApplyFault N⟩) (by kernel_rfl) (by intro s kc ke env; kernel_rfl) (.cons (L := ⟨[(1, .box false (.pair (.num .i64) (.pair (.num .i64) (.pair (.num .i64) (.slice (.pair (.num .i64) (.pair (.num .i64) (.num .i64)))))))), (3, .own (.slice (.pair (.num .i64) (.num .i64)))), (4, .ro none (.num .i64)), (5, .ro none (.num .i64)), (15, .ro none (.num .i64)), (16, .ro none (.num .i64))], r_spec_AllFaults_L2 c_spec_NetOk c_spec_ApplyFault N⟩) (by kernel_rfl) (by intro s kc ke env; kernel_rfl) .nil))
theorem There92 : There Go.Proofs.Try.prog 92 := ⟨_, Go.Proofs.Try.func92, by kernel_rfl, by kernel_rfl⟩
theorem C92 {c_spec_NetOk : ((Int × Int × Int × List (Int × Int × Int)) × Unit → Option Bool)} {c_spec_ApplyFault : ((Int × Int × Int × List (Int × Int × Int)) × (Int × Int) × Unit → Option ((Int × Int × Int × List (Int × Int × Int)) × Bool))} (h_c_spec_NetOk : Contract Go.Proofs.Try.prog 69 ⟨[net], .bool, c_spec_NetOk⟩) (h_c_spec_ApplyFault : Contract Go.Proofs.Try.prog 93 ⟨[net, fault], (.tup net .bool), c_spec_ApplyFault⟩) {f : ((Int × Int × Int × List (Int × Int × Int)) × Unit → Option (List (Int × Int)))} (h : ∀ a0 r, f (a0, ()) = some r → ∃ N, r_spec_AllFaults c_spec_NetOk c_spec_ApplyFault N a0 = some r) : Contract Go.Proofs.Try.prog 92 ⟨[net], (.slice fault), f⟩ := by
  refine contract (E := E92 c_spec_NetOk c_spec_ApplyFault) (envOf table ⟨⟨h_c_spec_NetOk, There69⟩, ⟨⟨h_c_spec_ApplyFault, There93⟩, trivial⟩⟩ trivial) mixed Go.Proofs.Try.func92 (c := Go.Proofs.Try.f92.body.getD .skip) (by kernel_rfl) (Nat.le_of_ble_eq_true (by kernel_rfl)) fun xs r hr => ?_
  obtain ⟨a0, _⟩ := xs
  obtain ⟨N, hN⟩ := h _ r hr
  exact ⟨N, A92 c_spec_NetOk c_spec_ApplyFault N, L92 c_spec_NetOk c_spec_ApplyFault N, (K92 c_spec_NetOk c_spec_ApplyFault N a0).trans hN⟩
theorem X92 : Contract Go.Proofs.Try.prog 92 ⟨[net], (.slice fault), e_spec_AllFaults⟩ := C92 X69 X93 fun _ _ h => ⟨N0, h⟩
-- spec_WeightAt
def E184 : Env := ⟨tys, [], [], []⟩
def A184 (N : Nat) : List (Nat × Loop (Ty.den int)) := [(0, ⟨[(1, .ro none (.num .i64)), (5, .ro none (.num .i64)), (9, .ro none (.slice (.pair (.num .i64) (.pair (.num .i64) (.num .i64))))), (10, .ro none (.num .i64)), (11, .ro none (.num .i64))], r_spec_WeightAt_L0 N⟩)]
theorem K184 (N : Nat) (a0 : (Int × Int × Int × List (Int × Int × Int))) (a1 : Int) : fnK N (E184) Go.Proofs.Try.f184 [net, int] int (A184 N) (a0, a1, ()) = r_spec_WeightAt N a0 a1 := by kernel_rfl
theorem L184 (N : Nat) : LoopsOk N (E184) (A184 N) Go.Proofs.Try.f184.ntmps (retOf (E184) Go.Proofs.Try.f184 int) (loopsOf (Go.Proofs.Try.f184.body.getD .skip)) :=
  LoopsOk.of (l := [(0, lb Go.Proofs.Try.f184 0)]) (by kernel_rfl) (.cons (L := ⟨[(1, .ro none (.num .i64)), (5, .ro none (.num .i64)), (9, .ro none (.slice (.pair (.num .i64) (.pair (.num .i64) (.num .i64))))), (10, .ro none (.num .i64)), (11, .ro none (.num .i64))], r_spec_WeightAt_L0 N⟩) (by kernel_rfl) (by intro s kc ke env; kernel_rfl) .nil)
theorem There184 : There Go.Proofs.Try.prog 184 := ⟨_, Go.Proofs.Try.func184, by kernel_rfl, by kernel_rfl⟩
theorem C184 {f : ((Int × Int × Int × List (Int × Int × Int)) × Int × Unit → Option Int)} (h : ∀ a0 a1 r, f (a0, a1, ()) = some r → ∃ N, r_spec_WeightAt N a0 a1 = some r) : Contract Go.Proofs.Try.prog 184 ⟨[net, int], int, f⟩ := by
  refine contract (E := E184) (envOf table trivial trivial) mixed Go.Proofs.Try.func184 (c := Go.Proofs.Try.f184.body.getD .skip) (by kernel_rfl) (Nat.le_of_ble_eq_true (by kernel_rfl)) fun xs r hr => ?_
  obtain ⟨a0, a1, _⟩ := xs
  obtain ⟨N, hN⟩ := h _ _ r hr
  exact ⟨N, A184 N, L184 N, (K184 N a0 a1).trans hN⟩
theorem X184 : Contract Go.Proofs.Try.prog 184 ⟨[net, int], int, e_spec_WeightAt⟩ := C184 fun _ _ _ h => ⟨N0, h⟩
-- spec_l03Find
def E187 : Env := ⟨tys, [], [], []⟩
def A187 (N : Nat) : List (Nat × Loop (Ty.den int)) := [(0, ⟨[(1, .ro none (.num .i64)), (2, .ro none (.num .i64)), (9, .ro none (.slice (.pair (.num .i64) (.pair (.num .i64) (.num .i64))))), (10, .ro none (.num .i64)), (11, .ro none (.num .i64))], r_spec_l03Find_L0 N⟩)]
theorem K187 (N : Nat) (a0 : (List (Int × Int × Int))) (a1 : Int) (a2 : Int) : fnK N (E187) Go.Proofs.Try.f187 [(.slice wire), int, int] int (A187 N) (a0, a1, a2, ()) = r_spec_l03Find N a0 a1 a2 := by kernel_rfl
theorem L187 (N : Nat) : LoopsOk N (E187) (A187 N) Go.Proofs.Try.f187.ntmps (retOf (E187) Go.Proofs.Try.f187 int) (loopsOf (Go.Proofs.Try.f187.body.getD .skip)) :=
  LoopsOk.of (l := [(0, lb Go.Proofs.Try.f187 0)]) (by kernel_rfl) (.cons (L := ⟨[(1, .ro none (.num .i64)), (2, .ro none (.num .i64)), (9, .ro none (.slice (.pair (.num .i64) (.pair (.num .i64) (.num .i64))))), (10, .ro none (.num .i64)), (11, .ro none (.num .i64))], r_spec_l03Find_L0 N⟩) (by kernel_rfl) (by intro s kc ke env; kernel_rfl) .nil)
theorem There187 : There Go.Proofs.Try.prog 187 := ⟨_, Go.Proofs.Try.func187, by kernel_rfl, by kernel_rfl⟩
theorem C187 {f : ((List (Int × Int × Int)) × Int × Int × Unit → Option Int)} (h : ∀ a0 a1 a2 r, f (a0, a1, a2, ()) = some r → ∃ N, r_spec_l03Find N a0 a1 a2 = some r) : Contract Go.Proofs.Try.prog 187 ⟨[(.slice wire), int, int], int, f⟩ := by
  refine contract (E := E187) (envOf table trivial trivial) mixed Go.Proofs.Try.func187 (c := Go.Proofs.Try.f187.body.getD .skip) (by kernel_rfl) (Nat.le_of_ble_eq_true (by kernel_rfl)) fun xs r hr => ?_
  obtain ⟨a0, a1, a2, _⟩ := xs
  obtain ⟨N, hN⟩ := h _ _ _ r hr
  exact ⟨N, A187 N, L187 N, (K187 N a0 a1 a2).trans hN⟩
theorem X187 : Contract Go.Proofs.Try.prog 187 ⟨[(.slice wire), int, int], int, e_spec_l03Find⟩ := C187 fun _ _ _ _ h => ⟨N0, h⟩
-- spec_WeightBetween
def E185 (c_spec_l03Find : ((List (Int × Int × Int)) × Int × Int × Unit → Option Int)) : Env := ⟨tys, [], [(187, ⟨[(.slice wire), int, int], int, c_spec_l03Find⟩)], []⟩
def A185 (_c_spec_l03Find : ((List (Int × Int × Int)) × Int × Int × Unit → Option Int)) (_N : Nat) : List (Nat × Loop (Ty.den int)) := []
theorem K185 (c_spec_l03Find : ((List (Int × Int × Int)) × Int × Int × Unit → Option Int)) (N : Nat) (a0 : (Int × Int × Int × List (Int × Int × Int))) (a1 : Int) (a2 : Int) : fnK N (E185 c_spec_l03Find) Go.Proofs.Try.f185 [net, int, int] int (A185 c_spec_l03Find N) (a0, a1, a2, ()) = r_spec_WeightBetween c_spec_l03Find N a0 a1 a2 := by kernel_rfl
theorem L185 (c_spec_l03Find : ((List (Int × Int × Int)) × Int × Int × Unit → Option Int)) (N : Nat) : LoopsOk N (E185 c_spec_l03Find) (A185 c_spec_l03Find N) Go.Proofs.Try.f185.ntmps (retOf (E185 c_spec_l03Find) Go.Proofs.Try.f185 int) (loopsOf (Go.Proofs.Try.f185.body.getD .skip)) :=
  LoopsOk.of (l := []) (by kernel_rfl) .nil
theorem There185 : There Go.Proofs.Try.prog 185 := ⟨_, Go.Proofs.Try.func185, by kernel_rfl, by kernel_rfl⟩
theorem C185 {c_spec_l03Find : ((List (Int × Int × Int)) × Int × Int × Unit → Option Int)} (h_c_spec_l03Find : Contract Go.Proofs.Try.prog 187 ⟨[(.slice wire), int, int], int, c_spec_l03Find⟩) {f : ((Int × Int × Int × List (Int × Int × Int)) × Int × Int × Unit → Option Int)} (h : ∀ a0 a1 a2 r, f (a0, a1, a2, ()) = some r → ∃ N, r_spec_WeightBetween c_spec_l03Find N a0 a1 a2 = some r) : Contract Go.Proofs.Try.prog 185 ⟨[net, int, int], int, f⟩ := by
  refine contract (E := E185 c_spec_l03Find) (envOf table ⟨⟨h_c_spec_l03Find, There187⟩, trivial⟩ trivial) mixed Go.Proofs.Try.func185 (c := Go.Proofs.Try.f185.body.getD .skip) (by kernel_rfl) (Nat.le_of_ble_eq_true (by kernel_rfl)) fun xs r hr => ?_
  obtain ⟨a0, a1, a2, _⟩ := xs
  obtain ⟨N, hN⟩ := h _ _ _ r hr
  exact ⟨N, A185 c_spec_l03Find N, L185 c_spec_l03Find N, (K185 c_spec_l03Find N a0 a1 a2).trans hN⟩
theorem X185 : Contract Go.Proofs.Try.prog 185 ⟨[net, int, int], int, e_spec_WeightBetween⟩ := C185 X187 fun _ _ _ _ h => ⟨N0, h⟩
-- spec_LaplacianOf
def E173 (c_spec_NetOk : ((Int × Int × Int × List (Int × Int × Int)) × Unit → Option Bool)) (c_spec_WeightAt : ((Int × Int × Int × List (Int × Int × Int)) × Int × Unit → Option Int)) (c_spec_WeightBetween : ((Int × Int × Int × List (Int × Int × Int)) × Int × Int × Unit → Option Int)) : Env := ⟨tys, [], [(69, ⟨[net], .bool, c_spec_NetOk⟩), (184, ⟨[net, int], int, c_spec_WeightAt⟩), (185, ⟨[net, int, int], int, c_spec_WeightBetween⟩)], []⟩
def A173 (c_spec_NetOk : ((Int × Int × Int × List (Int × Int × Int)) × Unit → Option Bool)) (c_spec_WeightAt : ((Int × Int × Int × List (Int × Int × Int)) × Int × Unit → Option Int)) (c_spec_WeightBetween : ((Int × Int × Int × List (Int × Int × Int)) × Int × Int × Unit → Option Int)) (N : Nat) : List (Nat × Loop (Ty.den (.slice (.slice int)))) := [(0, ⟨[(1, .box false (.pair (.num .i64) (.pair (.num .i64) (.pair (.num .i64) (.slice (.pair (.num .i64) (.pair (.num .i64) (.num .i64)))))))), (3, .own (.slice (.slice (.num .i64)))), (4, .ro none (.num .i64))], r_spec_LaplacianOf_L0 c_spec_NetOk c_spec_WeightAt c_spec_WeightBetween N⟩), (2, ⟨[(1, .box false (.pair (.num .i64) (.pair (.num .i64) (.pair (.num .i64) (.slice (.pair (.num .i64) (.pair (.num .i64) (.num .i64)))))))), (3, .own (.slice (.slice (.num .i64)))), (4, .ro none (.num .i64)), (5, .own (.slice (.num .i64))), (6, .ro none (.num .i64))], r_spec_LaplacianOf_L2 c_spec_NetOk c_spec_WeightAt c_spec_WeightBetween N⟩)]
theorem K173 (c_spec_NetOk : ((Int × Int × Int × List (Int × Int × Int)) × Unit → Option Bool)) (c_spec_WeightAt : ((Int × Int × Int × List (Int × Int × Int)) × Int × Unit → Option Int)) (c_spec_WeightBetween : ((Int × Int × Int × List (Int × Int × Int)) × Int × Int × Unit → Option Int)) (N : Nat) (a0 : (Int × Int × Int × List (Int × Int × Int))) : fnK N (E173 c_spec_NetOk c_spec_WeightAt c_spec_WeightBetween) Go.Proofs.Try.f173 [net] (.slice (.slice int)) (A173 c_spec_NetOk c_spec_WeightAt c_spec_WeightBetween N) (a0, ()) = r_spec_LaplacianOf c_spec_NetOk c_spec_WeightAt c_spec_WeightBetween N a0 := by kernel_rfl
theorem L173 (c_spec_NetOk : ((Int × Int × Int × List (Int × Int × Int)) × Unit → Option Bool)) (c_spec_WeightAt : ((Int × Int × Int × List (Int × Int × Int)) × Int × Unit → Option Int)) (c_spec_WeightBetween : ((Int × Int × Int × List (Int × Int × Int)) × Int × Int × Unit → Option Int)) (N : Nat) : LoopsOk N (E173 c_spec_NetOk c_spec_WeightAt c_spec_WeightBetween) (A173 c_spec_NetOk c_spec_WeightAt c_spec_WeightBetween N) Go.Proofs.Try.f173.ntmps (retOf (E173 c_spec_NetOk c_spec_WeightAt c_spec_WeightBetween) Go.Proofs.Try.f173 (.slice (.slice int))) (loopsOf (Go.Proofs.Try.f173.body.getD .skip)) :=
  LoopsOk.of (l := [(0, lb Go.Proofs.Try.f173 0), (2, lb Go.Proofs.Try.f173 1)]) (by kernel_rfl) (.cons (L := ⟨[(1, .box false (.pair (.num .i64) (.pair (.num .i64) (.pair (.num .i64) (.slice (.pair (.num .i64) (.pair (.num .i64) (.num .i64)))))))), (3, .own (.slice (.slice (.num .i64)))), (4, .ro none (.num .i64))], r_spec_LaplacianOf_L0 c_spec_NetOk c_spec_WeightAt c_spec_WeightBetween N⟩) (by kernel_rfl) (by intro s kc ke env; kernel_rfl) (.cons (L := ⟨[(1, .box false (.pair (.num .i64) (.pair (.num .i64) (.pair (.num .i64) (.slice (.pair (.num .i64) (.pair (.num .i64) (.num .i64)))))))), (3, .own (.slice (.slice (.num .i64)))), (4, .ro none (.num .i64)), (5, .own (.slice (.num .i64))), (6, .ro none (.num .i64))], r_spec_LaplacianOf_L2 c_spec_NetOk c_spec_WeightAt c_spec_WeightBetween N⟩) (by kernel_rfl) (by intro s kc ke env; kernel_rfl) .nil))
theorem There173 : There Go.Proofs.Try.prog 173 := ⟨_, Go.Proofs.Try.func173, by kernel_rfl, by kernel_rfl⟩
theorem C173 {c_spec_NetOk : ((Int × Int × Int × List (Int × Int × Int)) × Unit → Option Bool)} {c_spec_WeightAt : ((Int × Int × Int × List (Int × Int × Int)) × Int × Unit → Option Int)} {c_spec_WeightBetween : ((Int × Int × Int × List (Int × Int × Int)) × Int × Int × Unit → Option Int)} (h_c_spec_NetOk : Contract Go.Proofs.Try.prog 69 ⟨[net], .bool, c_spec_NetOk⟩) (h_c_spec_WeightAt : Contract Go.Proofs.Try.prog 184 ⟨[net, int], int, c_spec_WeightAt⟩) (h_c_spec_WeightBetween : Contract Go.Proofs.Try.prog 185 ⟨[net, int, int], int, c_spec_WeightBetween⟩) {f : ((Int × Int × Int × List (Int × Int × Int)) × Unit → Option (List (List Int)))} (h : ∀ a0 r, f (a0, ()) = some r → ∃ N, r_spec_LaplacianOf c_spec_NetOk c_spec_WeightAt c_spec_WeightBetween N a0 = some r) : Contract Go.Proofs.Try.prog 173 ⟨[net], (.slice (.slice int)), f⟩ := by
  refine contract (E := E173 c_spec_NetOk c_spec_WeightAt c_spec_WeightBetween) (envOf table ⟨⟨h_c_spec_NetOk, There69⟩, ⟨⟨h_c_spec_WeightAt, There184⟩, ⟨⟨h_c_spec_WeightBetween, There185⟩, trivial⟩⟩⟩ trivial) mixed Go.Proofs.Try.func173 (c := Go.Proofs.Try.f173.body.getD .skip) (by kernel_rfl) (Nat.le_of_ble_eq_true (by kernel_rfl)) fun xs r hr => ?_
  obtain ⟨a0, _⟩ := xs
  obtain ⟨N, hN⟩ := h _ r hr
  exact ⟨N, A173 c_spec_NetOk c_spec_WeightAt c_spec_WeightBetween N, L173 c_spec_NetOk c_spec_WeightAt c_spec_WeightBetween N, (K173 c_spec_NetOk c_spec_WeightAt c_spec_WeightBetween N a0).trans hN⟩
theorem X173 : Contract Go.Proofs.Try.prog 173 ⟨[net], (.slice (.slice int)), e_spec_LaplacianOf⟩ := C173 X69 X184 X185 fun _ _ h => ⟨N0, h⟩
-- spec_l06Inner
def E179 : Env := ⟨tys, [], [], []⟩
def A179 (N : Nat) : List (Nat × Loop (Ty.den (.slice int))) := [(0, ⟨[(1, .box false (.pair (.num .i64) (.pair (.num .i64) (.pair (.num .i64) (.slice (.pair (.num .i64) (.pair (.num .i64) (.num .i64)))))))), (3, .own (.slice (.num .i64))), (4, .ro none (.num .i64))], r_spec_l06Inner_L0 N⟩)]
theorem K179 (N : Nat) (a0 : (Int × Int × Int × List (Int × Int × Int))) : fnK N (E179) Go.Proofs.Try.f179 [net] (.slice int) (A179 N) (a0, ()) = r_spec_l06Inner N a0 := by kernel_rfl
theorem L179 (N : Nat) : LoopsOk N (E179) (A179 N) Go.Proofs.Try.f179.ntmps (retOf (E179) Go.Proofs.Try.f179 (.slice int)) (loopsOf (Go.Proofs.Try.f179.body.getD .skip)) :=
  LoopsOk.of (l := [(0, lb Go.Proofs.Try.f179 0)]) (by kernel_rfl) (.cons (L := ⟨[(1, .box false (.pair (.num .i64) (.pair (.num .i64) (.pair (.num .i64) (.slice (.pair (.num .i64) (.pair (.num .i64) (.num .i64)))))))), (3, .own (.slice (.num .i64))), (4, .ro none (.num .i64))], r_spec_l06Inner_L0 N⟩) (by kernel_rfl) (by intro s kc ke env; kernel_rfl) .nil)
theorem There179 : There Go.Proofs.Try.prog 179 := ⟨_, Go.Proofs.Try.func179, by kernel_rfl, by kernel_rfl⟩
theorem C179 {f : ((Int × Int × Int × List (Int × Int × Int)) × Unit → Option (List Int))} (h : ∀ a0 r, f (a0, ()) = some r → ∃ N, r_spec_l06Inner N a0 = some r) : Contract Go.Proofs.Try.prog 179 ⟨[net], (.slice int), f⟩ := by
  refine contract (E := E179) (envOf table trivial trivial) mixed Go.Proofs.Try.func179 (c := Go.Proofs.Try.f179.body.getD .skip) (by kernel_rfl) (Nat.le_of_ble_eq_true (by kernel_rfl)) fun xs r hr => ?_
  obtain ⟨a0, _⟩ := xs
  obtain ⟨N, hN⟩ := h _ r hr
  exact ⟨N, A179 N, L179 N, (K179 N a0).trans hN⟩
theorem X179 : Contract Go.Proofs.Try.prog 179 ⟨[net], (.slice int), e_spec_l06Inner⟩ := C179 fun _ _ h => ⟨N0, h⟩
-- spec_l04Det
def E158 (c_spec_l04Det : ((List (List Int)) × (List Int) × (List Int) × Unit → Option Int)) : Env := ⟨tys, [], [(158, ⟨[(.slice (.slice int)), (.slice int), (.slice int)], int, c_spec_l04Det⟩)], []⟩
def A158 (c_spec_l04Det : ((List (List Int)) × (List Int) × (List Int) × Unit → Option Int)) (N : Nat) : List (Nat × Loop (Ty.den int)) := [(0, ⟨[(0, .ro none (.slice (.slice (.num .i64)))), (1, .ro none (.slice (.num .i64))), (2, .ro none (.slice (.num .i64))), (7, .ro none (.num .i64)), (8, .ro none (.num .i64)), (16, .ro none (.slice (.num .i64))), (17, .ro none (.num .i64)), (18, .ro none (.num .i64))], r_spec_l04Det_L0 c_spec_l04Det N⟩)]
theorem K158 (c_spec_l04Det : ((List (List Int)) × (List Int) × (List Int) × Unit → Option Int)) (N : Nat) (a0 : (List (List Int))) (a1 : (List Int)) (a2 : (List Int)) : fnK N (E158 c_spec_l04Det) Go.Proofs.Try.f158 [(.slice (.slice int)), (.slice int), (.slice int)] int (A158 c_spec_l04Det N) (a0, a1, a2, ()) = r_spec_l04Det c_spec_l04Det N a0 a1 a2 := by kernel_rfl
theorem L158 (c_spec_l04Det : ((List (List Int)) × (List Int) × (List Int) × Unit → Option Int)) (N : Nat) : LoopsOk N (E158 c_spec_l04Det) (A158 c_spec_l04Det N) Go.Proofs.Try.f158.ntmps (retOf (E158 c_spec_l04Det) Go.Proofs.Try.f158 int) (loopsOf (Go.Proofs.Try.f158.body.getD .skip)) :=
  LoopsOk.of (l := [(0, lb Go.Proofs.Try.f158 0)]) (by kernel_rfl) (.cons (L := ⟨[(0, .ro none (.slice (.slice (.num .i64)))), (1, .ro none (.slice (.num .i64))), (2, .ro none (.slice (.num .i64))), (7, .ro none (.num .i64)), (8, .ro none (.num .i64)), (16, .ro none (.slice (.num .i64))), (17, .ro none (.num .i64)), (18, .ro none (.num .i64))], r_spec_l04Det_L0 c_spec_l04Det N⟩) (by kernel_rfl) (by intro s kc ke env; kernel_rfl) .nil)
theorem There158 : There Go.Proofs.Try.prog 158 := ⟨_, Go.Proofs.Try.func158, by kernel_rfl, by kernel_rfl⟩
theorem C158 {c_spec_l04Det : ((List (List Int)) × (List Int) × (List Int) × Unit → Option Int)} (h_c_spec_l04Det : Contract Go.Proofs.Try.prog 158 ⟨[(.slice (.slice int)), (.slice int), (.slice int)], int, c_spec_l04Det⟩) {f : ((List (List Int)) × (List Int) × (List Int) × Unit → Option Int)} (h : ∀ a0 a1 a2 r, f (a0, a1, a2, ()) = some r → ∃ N, r_spec_l04Det c_spec_l04Det N a0 a1 a2 = some r) : Contract Go.Proofs.Try.prog 158 ⟨[(.slice (.slice int)), (.slice int), (.slice int)], int, f⟩ := by
  refine contract (E := E158 c_spec_l04Det) (envOf table ⟨⟨h_c_spec_l04Det, There158⟩, trivial⟩ trivial) mixed Go.Proofs.Try.func158 (c := Go.Proofs.Try.f158.body.getD .skip) (by kernel_rfl) (Nat.le_of_ble_eq_true (by kernel_rfl)) fun xs r hr => ?_
  obtain ⟨a0, a1, a2, _⟩ := xs
  obtain ⟨N, hN⟩ := h _ _ _ r hr
  exact ⟨N, A158 c_spec_l04Det N, L158 c_spec_l04Det N, (K158 c_spec_l04Det N a0 a1 a2).trans hN⟩
theorem X158_n : ∀ n, Contract Go.Proofs.Try.prog 158 ⟨[(.slice (.slice int)), (.slice int), (.slice int)], int, e_spec_l04Det_n n⟩
  | 0 => fun xs r vs w h => by simp [e_spec_l04Det_n] at h
  | n + 1 => C158 (X158_n n) fun _ _ _ _ h => ⟨N0, h⟩
theorem X158 : Contract Go.Proofs.Try.prog 158 ⟨[(.slice (.slice int)), (.slice int), (.slice int)], int, e_spec_l04Det⟩ := X158_n N0
-- spec_l06Down
def E147 (c_spec_LaplacianOf : ((Int × Int × Int × List (Int × Int × Int)) × Unit → Option (List (List Int)))) (c_spec_l06Inner : ((Int × Int × Int × List (Int × Int × Int)) × Unit → Option (List Int))) (c_spec_l04Det : ((List (List Int)) × (List Int) × (List Int) × Unit → Option Int)) : Env := ⟨tys, [], [(173, ⟨[net], (.slice (.slice int)), c_spec_LaplacianOf⟩), (179, ⟨[net], (.slice int), c_spec_l06Inner⟩), (158, ⟨[(.slice (.slice int)), (.slice int), (.slice int)], int, c_spec_l04Det⟩)], []⟩
def A147 (_c_spec_LaplacianOf : ((Int × Int × Int × List (Int × Int × Int)) × Unit → Option (List (List Int)))) (_c_spec_l06Inner : ((Int × Int × Int × List (Int × Int × Int)) × Unit → Option (List Int))) (_c_spec_l04Det : ((List (List Int)) × (List Int) × (List Int) × Unit → Option Int)) (_N : Nat) : List (Nat × Loop (Ty.den int)) := []
theorem K147 (c_spec_LaplacianOf : ((Int × Int × Int × List (Int × Int × Int)) × Unit → Option (List (List Int)))) (c_spec_l06Inner : ((Int × Int × Int × List (Int × Int × Int)) × Unit → Option (List Int))) (c_spec_l04Det : ((List (List Int)) × (List Int) × (List Int) × Unit → Option Int)) (N : Nat) (a0 : (Int × Int × Int × List (Int × Int × Int))) : fnK N (E147 c_spec_LaplacianOf c_spec_l06Inner c_spec_l04Det) Go.Proofs.Try.f147 [net] int (A147 c_spec_LaplacianOf c_spec_l06Inner c_spec_l04Det N) (a0, ()) = r_spec_l06Down c_spec_LaplacianOf c_spec_l06Inner c_spec_l04Det N a0 := by kernel_rfl
theorem L147 (c_spec_LaplacianOf : ((Int × Int × Int × List (Int × Int × Int)) × Unit → Option (List (List Int)))) (c_spec_l06Inner : ((Int × Int × Int × List (Int × Int × Int)) × Unit → Option (List Int))) (c_spec_l04Det : ((List (List Int)) × (List Int) × (List Int) × Unit → Option Int)) (N : Nat) : LoopsOk N (E147 c_spec_LaplacianOf c_spec_l06Inner c_spec_l04Det) (A147 c_spec_LaplacianOf c_spec_l06Inner c_spec_l04Det N) Go.Proofs.Try.f147.ntmps (retOf (E147 c_spec_LaplacianOf c_spec_l06Inner c_spec_l04Det) Go.Proofs.Try.f147 int) (loopsOf (Go.Proofs.Try.f147.body.getD .skip)) :=
  LoopsOk.of (l := []) (by kernel_rfl) .nil
theorem There147 : There Go.Proofs.Try.prog 147 := ⟨_, Go.Proofs.Try.func147, by kernel_rfl, by kernel_rfl⟩
theorem C147 {c_spec_LaplacianOf : ((Int × Int × Int × List (Int × Int × Int)) × Unit → Option (List (List Int)))} {c_spec_l06Inner : ((Int × Int × Int × List (Int × Int × Int)) × Unit → Option (List Int))} {c_spec_l04Det : ((List (List Int)) × (List Int) × (List Int) × Unit → Option Int)} (h_c_spec_LaplacianOf : Contract Go.Proofs.Try.prog 173 ⟨[net], (.slice (.slice int)), c_spec_LaplacianOf⟩) (h_c_spec_l06Inner : Contract Go.Proofs.Try.prog 179 ⟨[net], (.slice int), c_spec_l06Inner⟩) (h_c_spec_l04Det : Contract Go.Proofs.Try.prog 158 ⟨[(.slice (.slice int)), (.slice int), (.slice int)], int, c_spec_l04Det⟩) {f : ((Int × Int × Int × List (Int × Int × Int)) × Unit → Option Int)} (h : ∀ a0 r, f (a0, ()) = some r → ∃ N, r_spec_l06Down c_spec_LaplacianOf c_spec_l06Inner c_spec_l04Det N a0 = some r) : Contract Go.Proofs.Try.prog 147 ⟨[net], int, f⟩ := by
  refine contract (E := E147 c_spec_LaplacianOf c_spec_l06Inner c_spec_l04Det) (envOf table ⟨⟨h_c_spec_LaplacianOf, There173⟩, ⟨⟨h_c_spec_l06Inner, There179⟩, ⟨⟨h_c_spec_l04Det, There158⟩, trivial⟩⟩⟩ trivial) mixed Go.Proofs.Try.func147 (c := Go.Proofs.Try.f147.body.getD .skip) (by kernel_rfl) (Nat.le_of_ble_eq_true (by kernel_rfl)) fun xs r hr => ?_
  obtain ⟨a0, _⟩ := xs
  obtain ⟨N, hN⟩ := h _ r hr
  exact ⟨N, A147 c_spec_LaplacianOf c_spec_l06Inner c_spec_l04Det N, L147 c_spec_LaplacianOf c_spec_l06Inner c_spec_l04Det N, (K147 c_spec_LaplacianOf c_spec_l06Inner c_spec_l04Det N a0).trans hN⟩
theorem X147 : Contract Go.Proofs.Try.prog 147 ⟨[net], int, e_spec_l06Down⟩ := C147 X173 X179 X158 fun _ _ h => ⟨N0, h⟩
-- spec_l06Top
def E148 (c_spec_l06Inner : ((Int × Int × Int × List (Int × Int × Int)) × Unit → Option (List Int))) (c_spec_LaplacianOf : ((Int × Int × Int × List (Int × Int × Int)) × Unit → Option (List (List Int)))) (c_spec_l04Det : ((List (List Int)) × (List Int) × (List Int) × Unit → Option Int)) : Env := ⟨tys, [], [(179, ⟨[net], (.slice int), c_spec_l06Inner⟩), (173, ⟨[net], (.slice (.slice int)), c_spec_LaplacianOf⟩), (158, ⟨[(.slice (.slice int)), (.slice int), (.slice int)], int, c_spec_l04Det⟩)], []⟩
def A148 (_c_spec_l06Inner : ((Int × Int × Int × List (Int × Int × Int)) × Unit → Option (List Int))) (_c_spec_LaplacianOf : ((Int × Int × Int × List (Int × Int × Int)) × Unit → Option (List (List Int)))) (_c_spec_l04Det : ((List (List Int)) × (List Int) × (List Int) × Unit → Option Int)) (_N : Nat) : List (Nat × Loop (Ty.den int)) := []
theorem K148 (c_spec_l06Inner : ((Int × Int × Int × List (Int × Int × Int)) × Unit → Option (List Int))) (c_spec_LaplacianOf : ((Int × Int × Int × List (Int × Int × Int)) × Unit → Option (List (List Int)))) (c_spec_l04Det : ((List (List Int)) × (List Int) × (List Int) × Unit → Option Int)) (N : Nat) (a0 : (Int × Int × Int × List (Int × Int × Int))) (a1 : Int) (a2 : Int) : fnK N (E148 c_spec_l06Inner c_spec_LaplacianOf c_spec_l04Det) Go.Proofs.Try.f148 [net, int, int] int (A148 c_spec_l06Inner c_spec_LaplacianOf c_spec_l04Det N) (a0, a1, a2, ()) = r_spec_l06Top c_spec_l06Inner c_spec_LaplacianOf c_spec_l04Det N a0 a1 a2 := by kernel_rfl
theorem L148 (c_spec_l06Inner : ((Int × Int × Int × List (Int × Int × Int)) × Unit → Option (List Int))) (c_spec_LaplacianOf : ((Int × Int × Int × List (Int × Int × Int)) × Unit → Option (List (List Int)))) (c_spec_l04Det : ((List (List Int)) × (List Int) × (List Int) × Unit → Option Int)) (N : Nat) : LoopsOk N (E148 c_spec_l06Inner c_spec_LaplacianOf c_spec_l04Det) (A148 c_spec_l06Inner c_spec_LaplacianOf c_spec_l04Det N) Go.Proofs.Try.f148.ntmps (retOf (E148 c_spec_l06Inner c_spec_LaplacianOf c_spec_l04Det) Go.Proofs.Try.f148 int) (loopsOf (Go.Proofs.Try.f148.body.getD .skip)) :=
  LoopsOk.of (l := []) (by kernel_rfl) .nil
theorem There148 : There Go.Proofs.Try.prog 148 := ⟨_, Go.Proofs.Try.func148, by kernel_rfl, by kernel_rfl⟩
theorem C148 {c_spec_l06Inner : ((Int × Int × Int × List (Int × Int × Int)) × Unit → Option (List Int))} {c_spec_LaplacianOf : ((Int × Int × Int × List (Int × Int × Int)) × Unit → Option (List (List Int)))} {c_spec_l04Det : ((List (List Int)) × (List Int) × (List Int) × Unit → Option Int)} (h_c_spec_l06Inner : Contract Go.Proofs.Try.prog 179 ⟨[net], (.slice int), c_spec_l06Inner⟩) (h_c_spec_LaplacianOf : Contract Go.Proofs.Try.prog 173 ⟨[net], (.slice (.slice int)), c_spec_LaplacianOf⟩) (h_c_spec_l04Det : Contract Go.Proofs.Try.prog 158 ⟨[(.slice (.slice int)), (.slice int), (.slice int)], int, c_spec_l04Det⟩) {f : ((Int × Int × Int × List (Int × Int × Int)) × Int × Int × Unit → Option Int)} (h : ∀ a0 a1 a2 r, f (a0, a1, a2, ()) = some r → ∃ N, r_spec_l06Top c_spec_l06Inner c_spec_LaplacianOf c_spec_l04Det N a0 a1 a2 = some r) : Contract Go.Proofs.Try.prog 148 ⟨[net, int, int], int, f⟩ := by
  refine contract (E := E148 c_spec_l06Inner c_spec_LaplacianOf c_spec_l04Det) (envOf table ⟨⟨h_c_spec_l06Inner, There179⟩, ⟨⟨h_c_spec_LaplacianOf, There173⟩, ⟨⟨h_c_spec_l04Det, There158⟩, trivial⟩⟩⟩ trivial) mixed Go.Proofs.Try.func148 (c := Go.Proofs.Try.f148.body.getD .skip) (by kernel_rfl) (Nat.le_of_ble_eq_true (by kernel_rfl)) fun xs r hr => ?_
  obtain ⟨a0, a1, a2, _⟩ := xs
  obtain ⟨N, hN⟩ := h _ _ _ r hr
  exact ⟨N, A148 c_spec_l06Inner c_spec_LaplacianOf c_spec_l04Det N, L148 c_spec_l06Inner c_spec_LaplacianOf c_spec_l04Det N, (K148 c_spec_l06Inner c_spec_LaplacianOf c_spec_l04Det N a0 a1 a2).trans hN⟩
theorem X148 : Contract Go.Proofs.Try.prog 148 ⟨[net, int, int], int, e_spec_l06Top⟩ := C148 X179 X173 X158 fun _ _ _ _ h => ⟨N0, h⟩
-- spec_l02Turn
def E172 : Env := ⟨tys, [], [], []⟩
def A172 (_N : Nat) : List (Nat × Loop (Ty.den (.tup int int))) := []
theorem K172 (N : Nat) (a0 : Int) (a1 : Int) : fnK N (E172) Go.Proofs.Try.f172 [int, int] (.tup int int) (A172 N) (a0, a1, ()) = r_spec_l02Turn N a0 a1 := by kernel_rfl
theorem L172 (N : Nat) : LoopsOk N (E172) (A172 N) Go.Proofs.Try.f172.ntmps (retOf (E172) Go.Proofs.Try.f172 (.tup int int)) (loopsOf (Go.Proofs.Try.f172.body.getD .skip)) :=
  LoopsOk.of (l := []) (by kernel_rfl) .nil
theorem There172 : There Go.Proofs.Try.prog 172 := ⟨_, Go.Proofs.Try.func172, by kernel_rfl, by kernel_rfl⟩
theorem C172 {f : (Int × Int × Unit → Option (Int × Int))} (h : ∀ a0 a1 r, f (a0, a1, ()) = some r → ∃ N, r_spec_l02Turn N a0 a1 = some r) : Contract Go.Proofs.Try.prog 172 ⟨[int, int], (.tup int int), f⟩ := by
  refine contract (E := E172) (envOf table trivial trivial) mixed Go.Proofs.Try.func172 (c := Go.Proofs.Try.f172.body.getD .skip) (by kernel_rfl) (Nat.le_of_ble_eq_true (by kernel_rfl)) fun xs r hr => ?_
  obtain ⟨a0, a1, _⟩ := xs
  obtain ⟨N, hN⟩ := h _ _ r hr
  exact ⟨N, A172 N, L172 N, (K172 N a0 a1).trans hN⟩
theorem X172 : Contract Go.Proofs.Try.prog 172 ⟨[int, int], (.tup int int), e_spec_l02Turn⟩ := C172 fun _ _ _ h => ⟨N0, h⟩
-- spec_GcdOf
def E132 (c_spec_l02Turn : (Int × Int × Unit → Option (Int × Int))) : Env := ⟨tys, [], [(172, ⟨[int, int], (.tup int int), c_spec_l02Turn⟩)], []⟩
def A132 (c_spec_l02Turn : (Int × Int × Unit → Option (Int × Int))) (N : Nat) : List (Nat × Loop (Ty.den int)) := [(0, ⟨[(0, .ro none (.num .i64)), (1, .ro none (.num .i64))], r_spec_GcdOf_L0 c_spec_l02Turn N⟩)]
theorem K132 (c_spec_l02Turn : (Int × Int × Unit → Option (Int × Int))) (N : Nat) (a0 : Int) (a1 : Int) : fnK N (E132 c_spec_l02Turn) Go.Proofs.Try.f132 [int, int] int (A132 c_spec_l02Turn N) (a0, a1, ()) = r_spec_GcdOf c_spec_l02Turn N a0 a1 := by kernel_rfl
theorem L132 (c_spec_l02Turn : (Int × Int × Unit → Option (Int × Int))) (N : Nat) : LoopsOk N (E132 c_spec_l02Turn) (A132 c_spec_l02Turn N) Go.Proofs.Try.f132.ntmps (retOf (E132 c_spec_l02Turn) Go.Proofs.Try.f132 int) (loopsOf (Go.Proofs.Try.f132.body.getD .skip)) :=
  LoopsOk.of (l := [(0, lb Go.Proofs.Try.f132 0)]) (by kernel_rfl) (.cons (L := ⟨[(0, .ro none (.num .i64)), (1, .ro none (.num .i64))], r_spec_GcdOf_L0 c_spec_l02Turn N⟩) (by kernel_rfl) (by intro s kc ke env; kernel_rfl) .nil)
theorem There132 : There Go.Proofs.Try.prog 132 := ⟨_, Go.Proofs.Try.func132, by kernel_rfl, by kernel_rfl⟩
theorem C132 {c_spec_l02Turn : (Int × Int × Unit → Option (Int × Int))} (h_c_spec_l02Turn : Contract Go.Proofs.Try.prog 172 ⟨[int, int], (.tup int int), c_spec_l02Turn⟩) {f : (Int × Int × Unit → Option Int)} (h : ∀ a0 a1 r, f (a0, a1, ()) = some r → ∃ N, r_spec_GcdOf c_spec_l02Turn N a0 a1 = some r) : Contract Go.Proofs.Try.prog 132 ⟨[int, int], int, f⟩ := by
  refine contract (E := E132 c_spec_l02Turn) (envOf table ⟨⟨h_c_spec_l02Turn, There172⟩, trivial⟩ trivial) mixed Go.Proofs.Try.func132 (c := Go.Proofs.Try.f132.body.getD .skip) (by kernel_rfl) (Nat.le_of_ble_eq_true (by kernel_rfl)) fun xs r hr => ?_
  obtain ⟨a0, a1, _⟩ := xs
  obtain ⟨N, hN⟩ := h _ _ r hr
  exact ⟨N, A132 c_spec_l02Turn N, L132 c_spec_l02Turn N, (K132 c_spec_l02Turn N a0 a1).trans hN⟩
theorem X132 : Contract Go.Proofs.Try.prog 132 ⟨[int, int], int, e_spec_GcdOf⟩ := C132 X172 fun _ _ _ h => ⟨N0, h⟩
-- spec_RatioOk
def E133 (c_spec_l01In : (Int × Int × Int × Unit → Option Bool)) (c_spec_GcdOf : (Int × Int × Unit → Option Int)) : Env := ⟨tys, [], [(70, ⟨[int, int, int], .bool, c_spec_l01In⟩), (132, ⟨[int, int], int, c_spec_GcdOf⟩)], []⟩
def A133 (_c_spec_l01In : (Int × Int × Int × Unit → Option Bool)) (_c_spec_GcdOf : (Int × Int × Unit → Option Int)) (_N : Nat) : List (Nat × Loop (Ty.den .bool)) := []
theorem K133 (c_spec_l01In : (Int × Int × Int × Unit → Option Bool)) (c_spec_GcdOf : (Int × Int × Unit → Option Int)) (N : Nat) (a0 : (Int × Int)) : fnK N (E133 c_spec_l01In c_spec_GcdOf) Go.Proofs.Try.f133 [ratio] .bool (A133 c_spec_l01In c_spec_GcdOf N) (a0, ()) = r_spec_RatioOk c_spec_l01In c_spec_GcdOf N a0 := by kernel_rfl
theorem L133 (c_spec_l01In : (Int × Int × Int × Unit → Option Bool)) (c_spec_GcdOf : (Int × Int × Unit → Option Int)) (N : Nat) : LoopsOk N (E133 c_spec_l01In c_spec_GcdOf) (A133 c_spec_l01In c_spec_GcdOf N) Go.Proofs.Try.f133.ntmps (retOf (E133 c_spec_l01In c_spec_GcdOf) Go.Proofs.Try.f133 .bool) (loopsOf (Go.Proofs.Try.f133.body.getD .skip)) :=
  LoopsOk.of (l := []) (by kernel_rfl) .nil
theorem There133 : There Go.Proofs.Try.prog 133 := ⟨_, Go.Proofs.Try.func133, by kernel_rfl, by kernel_rfl⟩
theorem C133 {c_spec_l01In : (Int × Int × Int × Unit → Option Bool)} {c_spec_GcdOf : (Int × Int × Unit → Option Int)} (h_c_spec_l01In : Contract Go.Proofs.Try.prog 70 ⟨[int, int, int], .bool, c_spec_l01In⟩) (h_c_spec_GcdOf : Contract Go.Proofs.Try.prog 132 ⟨[int, int], int, c_spec_GcdOf⟩) {f : ((Int × Int) × Unit → Option Bool)} (h : ∀ a0 r, f (a0, ()) = some r → ∃ N, r_spec_RatioOk c_spec_l01In c_spec_GcdOf N a0 = some r) : Contract Go.Proofs.Try.prog 133 ⟨[ratio], .bool, f⟩ := by
  refine contract (E := E133 c_spec_l01In c_spec_GcdOf) (envOf table ⟨⟨h_c_spec_l01In, There70⟩, ⟨⟨h_c_spec_GcdOf, There132⟩, trivial⟩⟩ trivial) mixed Go.Proofs.Try.func133 (c := Go.Proofs.Try.f133.body.getD .skip) (by kernel_rfl) (Nat.le_of_ble_eq_true (by kernel_rfl)) fun xs r hr => ?_
  obtain ⟨a0, _⟩ := xs
  obtain ⟨N, hN⟩ := h _ r hr
  exact ⟨N, A133 c_spec_l01In c_spec_GcdOf N, L133 c_spec_l01In c_spec_GcdOf N, (K133 c_spec_l01In c_spec_GcdOf N a0).trans hN⟩
theorem X133 : Contract Go.Proofs.Try.prog 133 ⟨[ratio], .bool, e_spec_RatioOk⟩ := C133 X70 X132 fun _ _ h => ⟨N0, h⟩
-- spec_RatioOf
def E71 (c_spec_GcdOf : (Int × Int × Unit → Option Int)) (c_spec_RatioOk : ((Int × Int) × Unit → Option Bool)) : Env := ⟨tys, [], [(132, ⟨[int, int], int, c_spec_GcdOf⟩), (133, ⟨[ratio], .bool, c_spec_RatioOk⟩)], []⟩
def A71 (_c_spec_GcdOf : (Int × Int × Unit → Option Int)) (_c_spec_RatioOk : ((Int × Int) × Unit → Option Bool)) (_N : Nat) : List (Nat × Loop (Ty.den ratio)) := []
theorem K71 (c_spec_GcdOf : (Int × Int × Unit → Option Int)) (c_spec_RatioOk : ((Int × Int) × Unit → Option Bool)) (N : Nat) (a0 : Int) (a1 : Int) : fnK N (E71 c_spec_GcdOf c_spec_RatioOk) Go.Proofs.Try.f71 [int, int] ratio (A71 c_spec_GcdOf c_spec_RatioOk N) (a0, a1, ()) = r_spec_RatioOf c_spec_GcdOf c_spec_RatioOk N a0 a1 := by kernel_rfl
theorem L71 (c_spec_GcdOf : (Int × Int × Unit → Option Int)) (c_spec_RatioOk : ((Int × Int) × Unit → Option Bool)) (N : Nat) : LoopsOk N (E71 c_spec_GcdOf c_spec_RatioOk) (A71 c_spec_GcdOf c_spec_RatioOk N) Go.Proofs.Try.f71.ntmps (retOf (E71 c_spec_GcdOf c_spec_RatioOk) Go.Proofs.Try.f71 ratio) (loopsOf (Go.Proofs.Try.f71.body.getD .skip)) :=
  LoopsOk.of (l := []) (by kernel_rfl) .nil
theorem There71 : There Go.Proofs.Try.prog 71 := ⟨_, Go.Proofs.Try.func71, by kernel_rfl, by kernel_rfl⟩
theorem C71 {c_spec_GcdOf : (Int × Int × Unit → Option Int)} {c_spec_RatioOk : ((Int × Int) × Unit → Option Bool)} (h_c_spec_GcdOf : Contract Go.Proofs.Try.prog 132 ⟨[int, int], int, c_spec_GcdOf⟩) (h_c_spec_RatioOk : Contract Go.Proofs.Try.prog 133 ⟨[ratio], .bool, c_spec_RatioOk⟩) {f : (Int × Int × Unit → Option (Int × Int))} (h : ∀ a0 a1 r, f (a0, a1, ()) = some r → ∃ N, r_spec_RatioOf c_spec_GcdOf c_spec_RatioOk N a0 a1 = some r) : Contract Go.Proofs.Try.prog 71 ⟨[int, int], ratio, f⟩ := by
  refine contract (E := E71 c_spec_GcdOf c_spec_RatioOk) (envOf table ⟨⟨h_c_spec_GcdOf, There132⟩, ⟨⟨h_c_spec_RatioOk, There133⟩, trivial⟩⟩ trivial) mixed Go.Proofs.Try.func71 (c := Go.Proofs.Try.f71.body.getD .skip) (by kernel_rfl) (Nat.le_of_ble_eq_true (by kernel_rfl)) fun xs r hr => ?_
  obtain ⟨a0, a1, _⟩ := xs
  obtain ⟨N, hN⟩ := h _ _ r hr
  exact ⟨N, A71 c_spec_GcdOf c_spec_RatioOk N, L71 c_spec_GcdOf c_spec_RatioOk N, (K71 c_spec_GcdOf c_spec_RatioOk N a0 a1).trans hN⟩
theorem X71 : Contract Go.Proofs.Try.prog 71 ⟨[int, int], ratio, e_spec_RatioOf⟩ := C71 X132 X133 fun _ _ _ h => ⟨N0, h⟩
-- spec_ResponseOf
def E94 (c_spec_NetOk : ((Int × Int × Int × List (Int × Int × Int)) × Unit → Option Bool)) (c_spec_l06Down : ((Int × Int × Int × List (Int × Int × Int)) × Unit → Option Int)) (c_spec_l06Top : ((Int × Int × Int × List (Int × Int × Int)) × Int × Int × Unit → Option Int)) (c_spec_RatioOf : (Int × Int × Unit → Option (Int × Int))) : Env := ⟨tys, [], [(69, ⟨[net], .bool, c_spec_NetOk⟩), (147, ⟨[net], int, c_spec_l06Down⟩), (148, ⟨[net, int, int], int, c_spec_l06Top⟩), (71, ⟨[int, int], ratio, c_spec_RatioOf⟩)], []⟩
def A94 (c_spec_NetOk : ((Int × Int × Int × List (Int × Int × Int)) × Unit → Option Bool)) (c_spec_l06Down : ((Int × Int × Int × List (Int × Int × Int)) × Unit → Option Int)) (c_spec_l06Top : ((Int × Int × Int × List (Int × Int × Int)) × Int × Int × Unit → Option Int)) (c_spec_RatioOf : (Int × Int × Unit → Option (Int × Int))) (N : Nat) : List (Nat × Loop (Ty.den (.tup (.slice (.slice ratio)) .bool))) := [(0, ⟨[(1, .box false (.pair (.num .i64) (.pair (.num .i64) (.pair (.num .i64) (.slice (.pair (.num .i64) (.pair (.num .i64) (.num .i64)))))))), (4, .ro none (.num .i64)), (5, .own (.slice (.slice (.pair (.num .i64) (.num .i64))))), (6, .ro none (.num .i64))], r_spec_ResponseOf_L0 c_spec_NetOk c_spec_l06Down c_spec_l06Top c_spec_RatioOf N⟩), (2, ⟨[(1, .box false (.pair (.num .i64) (.pair (.num .i64) (.pair (.num .i64) (.slice (.pair (.num .i64) (.pair (.num .i64) (.num .i64)))))))), (4, .ro none (.num .i64)), (5, .own (.slice (.slice (.pair (.num .i64) (.num .i64))))), (6, .ro none (.num .i64)), (7, .own (.slice (.pair (.num .i64) (.num .i64)))), (8, .ro none (.num .i64))], r_spec_ResponseOf_L2 c_spec_NetOk c_spec_l06Down c_spec_l06Top c_spec_RatioOf N⟩)]
theorem K94 (c_spec_NetOk : ((Int × Int × Int × List (Int × Int × Int)) × Unit → Option Bool)) (c_spec_l06Down : ((Int × Int × Int × List (Int × Int × Int)) × Unit → Option Int)) (c_spec_l06Top : ((Int × Int × Int × List (Int × Int × Int)) × Int × Int × Unit → Option Int)) (c_spec_RatioOf : (Int × Int × Unit → Option (Int × Int))) (N : Nat) (a0 : (Int × Int × Int × List (Int × Int × Int))) : fnK N (E94 c_spec_NetOk c_spec_l06Down c_spec_l06Top c_spec_RatioOf) Go.Proofs.Try.f94 [net] (.tup (.slice (.slice ratio)) .bool) (A94 c_spec_NetOk c_spec_l06Down c_spec_l06Top c_spec_RatioOf N) (a0, ()) = r_spec_ResponseOf c_spec_NetOk c_spec_l06Down c_spec_l06Top c_spec_RatioOf N a0 := by kernel_rfl
theorem L94 (c_spec_NetOk : ((Int × Int × Int × List (Int × Int × Int)) × Unit → Option Bool)) (c_spec_l06Down : ((Int × Int × Int × List (Int × Int × Int)) × Unit → Option Int)) (c_spec_l06Top : ((Int × Int × Int × List (Int × Int × Int)) × Int × Int × Unit → Option Int)) (c_spec_RatioOf : (Int × Int × Unit → Option (Int × Int))) (N : Nat) : LoopsOk N (E94 c_spec_NetOk c_spec_l06Down c_spec_l06Top c_spec_RatioOf) (A94 c_spec_NetOk c_spec_l06Down c_spec_l06Top c_spec_RatioOf N) Go.Proofs.Try.f94.ntmps (retOf (E94 c_spec_NetOk c_spec_l06Down c_spec_l06Top c_spec_RatioOf) Go.Proofs.Try.f94 (.tup (.slice (.slice ratio)) .bool)) (loopsOf (Go.Proofs.Try.f94.body.getD .skip)) :=
  LoopsOk.of (l := [(0, lb Go.Proofs.Try.f94 0), (2, lb Go.Proofs.Try.f94 1)]) (by kernel_rfl) (.cons (L := ⟨[(1, .box false (.pair (.num .i64) (.pair (.num .i64) (.pair (.num .i64) (.slice (.pair (.num .i64) (.pair (.num .i64) (.num .i64)))))))), (4, .ro none (.num .i64)), (5, .own (.slice (.slice (.pair (.num .i64) (.num .i64))))), (6, .ro none (.num .i64))], r_spec_ResponseOf_L0 c_spec_NetOk c_spec_l06Down c_spec_l06Top c_spec_RatioOf N⟩) (by kernel_rfl) (by intro s kc ke env; kernel_rfl) (.cons (L := ⟨[(1, .box false (.pair (.num .i64) (.pair (.num .i64) (.pair (.num .i64) (.slice (.pair (.num .i64) (.pair (.num .i64) (.num .i64)))))))), (4, .ro none (.num .i64)), (5, .own (.slice (.slice (.pair (.num .i64) (.num .i64))))), (6, .ro none (.num .i64)), (7, .own (.slice (.pair (.num .i64) (.num .i64)))), (8, .ro none (.num .i64))], r_spec_ResponseOf_L2 c_spec_NetOk c_spec_l06Down c_spec_l06Top c_spec_RatioOf N⟩) (by kernel_rfl) (by intro s kc ke env; kernel_rfl) .nil))
theorem There94 : There Go.Proofs.Try.prog 94 := ⟨_, Go.Proofs.Try.func94, by kernel_rfl, by kernel_rfl⟩
theorem C94 {c_spec_NetOk : ((Int × Int × Int × List (Int × Int × Int)) × Unit → Option Bool)} {c_spec_l06Down : ((Int × Int × Int × List (Int × Int × Int)) × Unit → Option Int)} {c_spec_l06Top : ((Int × Int × Int × List (Int × Int × Int)) × Int × Int × Unit → Option Int)} {c_spec_RatioOf : (Int × Int × Unit → Option (Int × Int))} (h_c_spec_NetOk : Contract Go.Proofs.Try.prog 69 ⟨[net], .bool, c_spec_NetOk⟩) (h_c_spec_l06Down : Contract Go.Proofs.Try.prog 147 ⟨[net], int, c_spec_l06Down⟩) (h_c_spec_l06Top : Contract Go.Proofs.Try.prog 148 ⟨[net, int, int], int, c_spec_l06Top⟩) (h_c_spec_RatioOf : Contract Go.Proofs.Try.prog 71 ⟨[int, int], ratio, c_spec_RatioOf⟩) {f : ((Int × Int × Int × List (Int × Int × Int)) × Unit → Option ((List (List (Int × Int))) × Bool))} (h : ∀ a0 r, f (a0, ()) = some r → ∃ N, r_spec_ResponseOf c_spec_NetOk c_spec_l06Down c_spec_l06Top c_spec_RatioOf N a0 = some r) : Contract Go.Proofs.Try.prog 94 ⟨[net], (.tup (.slice (.slice ratio)) .bool), f⟩ := by
  refine contract (E := E94 c_spec_NetOk c_spec_l06Down c_spec_l06Top c_spec_RatioOf) (envOf table ⟨⟨h_c_spec_NetOk, There69⟩, ⟨⟨h_c_spec_l06Down, There147⟩, ⟨⟨h_c_spec_l06Top, There148⟩, ⟨⟨h_c_spec_RatioOf, There71⟩, trivial⟩⟩⟩⟩ trivial) mixed Go.Proofs.Try.func94 (c := Go.Proofs.Try.f94.body.getD .skip) (by kernel_rfl) (Nat.le_of_ble_eq_true (by kernel_rfl)) fun xs r hr => ?_
  obtain ⟨a0, _⟩ := xs
  obtain ⟨N, hN⟩ := h _ r hr
  exact ⟨N, A94 c_spec_NetOk c_spec_l06Down c_spec_l06Top c_spec_RatioOf N, L94 c_spec_NetOk c_spec_l06Down c_spec_l06Top c_spec_RatioOf N, (K94 c_spec_NetOk c_spec_l06Down c_spec_l06Top c_spec_RatioOf N a0).trans hN⟩
theorem X94 : Contract Go.Proofs.Try.prog 94 ⟨[net], (.tup (.slice (.slice ratio)) .bool), e_spec_ResponseOf⟩ := C94 X69 X147 X148 X71 fun _ _ h => ⟨N0, h⟩
-- spec_SameResponse
def E95 : Env := ⟨tys, [], [], []⟩
def A95 (N : Nat) : List (Nat × Loop (Ty.den .bool)) := [(0, ⟨[(1, .ro none (.slice (.slice (.pair (.num .i64) (.num .i64))))), (14, .ro none (.slice (.slice (.pair (.num .i64) (.num .i64))))), (15, .ro none (.num .i64)), (16, .ro none (.num .i64))], r_spec_SameResponse_L0 N⟩), (2, ⟨[(1, .ro none (.slice (.slice (.pair (.num .i64) (.num .i64))))), (5, .ro none (.num .i64)), (14, .ro none (.slice (.slice (.pair (.num .i64) (.num .i64))))), (15, .ro none (.num .i64)), (16, .ro none (.num .i64)), (29, .ro none (.slice (.pair (.num .i64) (.num .i64)))), (30, .ro none (.num .i64)), (31, .ro none (.num .i64))], r_spec_SameResponse_L2 N⟩)]
theorem K95 (N : Nat) (a0 : (List (List (Int × Int)))) (a1 : (List (List (Int × Int)))) : fnK N (E95) Go.Proofs.Try.f95 [(.slice (.slice ratio)), (.slice (.slice ratio))] .bool (A95 N) (a0, a1, ()) = r_spec_SameResponse N a0 a1 := by kernel_rfl
theorem L95 (N : Nat) : LoopsOk N (E95) (A95 N) Go.Proofs.Try.f95.ntmps (retOf (E95) Go.Proofs.Try.f95 .bool) (loopsOf (Go.Proofs.Try.f95.body.getD .skip)) :=
  LoopsOk.of (l := [(0, lb Go.Proofs.Try.f95 0), (2, lb Go.Proofs.Try.f95 1)]) (by kernel_rfl) (.cons (L := ⟨[(1, .ro none (.slice (.slice (.pair (.num .i64) (.num .i64))))), (14, .ro none (.slice (.slice (.pair (.num .i64) (.num .i64))))), (15, .ro none (.num .i64)), (16, .ro none (.num .i64))], r_spec_SameResponse_L0 N⟩) (by kernel_rfl) (by intro s kc ke env; kernel_rfl) (.cons (L := ⟨[(1, .ro none (.slice (.slice (.pair (.num .i64) (.num .i64))))), (5, .ro none (.num .i64)), (14, .ro none (.slice (.slice (.pair (.num .i64) (.num .i64))))), (15, .ro none (.num .i64)), (16, .ro none (.num .i64)), (29, .ro none (.slice (.pair (.num .i64) (.num .i64)))), (30, .ro none (.num .i64)), (31, .ro none (.num .i64))], r_spec_SameResponse_L2 N⟩) (by kernel_rfl) (by intro s kc ke env; kernel_rfl) .nil))
theorem There95 : There Go.Proofs.Try.prog 95 := ⟨_, Go.Proofs.Try.func95, by kernel_rfl, by kernel_rfl⟩
theorem C95 {f : ((List (List (Int × Int))) × (List (List (Int × Int))) × Unit → Option Bool)} (h : ∀ a0 a1 r, f (a0, a1, ()) = some r → ∃ N, r_spec_SameResponse N a0 a1 = some r) : Contract Go.Proofs.Try.prog 95 ⟨[(.slice (.slice ratio)), (.slice (.slice ratio))], .bool, f⟩ := by
  refine contract (E := E95) (envOf table trivial trivial) mixed Go.Proofs.Try.func95 (c := Go.Proofs.Try.f95.body.getD .skip) (by kernel_rfl) (Nat.le_of_ble_eq_true (by kernel_rfl)) fun xs r hr => ?_
  obtain ⟨a0, a1, _⟩ := xs
  obtain ⟨N, hN⟩ := h _ _ r hr
  exact ⟨N, A95 N, L95 N, (K95 N a0 a1).trans hN⟩
theorem X95 : Contract Go.Proofs.Try.prog 95 ⟨[(.slice (.slice ratio)), (.slice (.slice ratio))], .bool, e_spec_SameResponse⟩ := C95 fun _ _ _ h => ⟨N0, h⟩
-- spec_FaultsLike
def E30 (c_spec_AllFaults : ((Int × Int × Int × List (Int × Int × Int)) × Unit → Option (List (Int × Int)))) (c_spec_ApplyFault : ((Int × Int × Int × List (Int × Int × Int)) × (Int × Int) × Unit → Option ((Int × Int × Int × List (Int × Int × Int)) × Bool))) (c_spec_ResponseOf : ((Int × Int × Int × List (Int × Int × Int)) × Unit → Option ((List (List (Int × Int))) × Bool))) (c_spec_SameResponse : ((List (List (Int × Int))) × (List (List (Int × Int))) × Unit → Option Bool)) : Env := ⟨tys, [], [(92, ⟨[net], (.slice fault), c_spec_AllFaults⟩), (93, ⟨[net, fault], (.tup net .bool), c_spec_ApplyFault⟩), (94, ⟨[net], (.tup (.slice (.slice ratio)) .bool), c_spec_ResponseOf⟩), (95, ⟨[(.slice (.slice ratio)), (.slice (.slice ratio))], .bool, c_spec_SameResponse⟩)], []⟩
def A30 (c_spec_AllFaults : ((Int × Int × Int × List (Int × Int × Int)) × Unit → Option (List (Int × Int)))) (c_spec_ApplyFault : ((Int × Int × Int × List (Int × Int × Int)) × (Int × Int) × Unit → Option ((Int × Int × Int × List (Int × Int × Int)) × Bool))) (c_spec_ResponseOf : ((Int × Int × Int × List (Int × Int × Int)) × Unit → Option ((List (List (Int × Int))) × Bool))) (c_spec_SameResponse : ((List (List (Int × Int))) × (List (List (Int × Int))) × Unit → Option Bool)) (N : Nat) : List (Nat × Loop (Ty.den (.slice fault))) := [(0, ⟨[(1, .ro none (.slice (.slice (.pair (.num .i64) (.num .i64))))), (2, .box false (.pair (.num .i64) (.pair (.num .i64) (.pair (.num .i64) (.slice (.pair (.num .i64) (.pair (.num .i64) (.num .i64)))))))), (5, .own (.slice (.pair (.num .i64) (.num .i64)))), (14, .own (.slice (.pair (.num .i64) (.num .i64)))), (15, .ro none (.num .i64)), (16, .ro none (.num .i64))], r_spec_FaultsLike_L0 c_spec_AllFaults c_spec_ApplyFault c_spec_ResponseOf c_spec_SameResponse N⟩)]
theorem K30 (c_spec_AllFaults : ((Int × Int × Int × List (Int × Int × Int)) × Unit → Option (List (Int × Int)))) (c_spec_ApplyFault : ((Int × Int × Int × List (Int × Int × Int)) × (Int × Int) × Unit → Option ((Int × Int × Int × List (Int × Int × Int)) × Bool))) (c_spec_ResponseOf : ((Int × Int × Int × List (Int × Int × Int)) × Unit → Option ((List (List (Int × Int))) × Bool))) (c_spec_SameResponse : ((List (List (Int × Int))) × (List (List (Int × Int))) × Unit → Option Bool)) (N : Nat) (a0 : (Int × Int × Int × List (Int × Int × Int))) (a1 : (List (List (Int × Int)))) : fnK N (E30 c_spec_AllFaults c_spec_ApplyFault c_spec_ResponseOf c_spec_SameResponse) Go.Proofs.Try.f30 [net, (.slice (.slice ratio))] (.slice fault) (A30 c_spec_AllFaults c_spec_ApplyFault c_spec_ResponseOf c_spec_SameResponse N) (a0, a1, ()) = r_spec_FaultsLike c_spec_AllFaults c_spec_ApplyFault c_spec_ResponseOf c_spec_SameResponse N a0 a1 := by kernel_rfl
theorem L30 (c_spec_AllFaults : ((Int × Int × Int × List (Int × Int × Int)) × Unit → Option (List (Int × Int)))) (c_spec_ApplyFault : ((Int × Int × Int × List (Int × Int × Int)) × (Int × Int) × Unit → Option ((Int × Int × Int × List (Int × Int × Int)) × Bool))) (c_spec_ResponseOf : ((Int × Int × Int × List (Int × Int × Int)) × Unit → Option ((List (List (Int × Int))) × Bool))) (c_spec_SameResponse : ((List (List (Int × Int))) × (List (List (Int × Int))) × Unit → Option Bool)) (N : Nat) : LoopsOk N (E30 c_spec_AllFaults c_spec_ApplyFault c_spec_ResponseOf c_spec_SameResponse) (A30 c_spec_AllFaults c_spec_ApplyFault c_spec_ResponseOf c_spec_SameResponse N) Go.Proofs.Try.f30.ntmps (retOf (E30 c_spec_AllFaults c_spec_ApplyFault c_spec_ResponseOf c_spec_SameResponse) Go.Proofs.Try.f30 (.slice fault)) (loopsOf (Go.Proofs.Try.f30.body.getD .skip)) :=
  LoopsOk.of (l := [(0, lb Go.Proofs.Try.f30 0)]) (by kernel_rfl) (.cons (L := ⟨[(1, .ro none (.slice (.slice (.pair (.num .i64) (.num .i64))))), (2, .box false (.pair (.num .i64) (.pair (.num .i64) (.pair (.num .i64) (.slice (.pair (.num .i64) (.pair (.num .i64) (.num .i64)))))))), (5, .own (.slice (.pair (.num .i64) (.num .i64)))), (14, .own (.slice (.pair (.num .i64) (.num .i64)))), (15, .ro none (.num .i64)), (16, .ro none (.num .i64))], r_spec_FaultsLike_L0 c_spec_AllFaults c_spec_ApplyFault c_spec_ResponseOf c_spec_SameResponse N⟩) (by kernel_rfl) (by intro s kc ke env; kernel_rfl) .nil)
theorem There30 : There Go.Proofs.Try.prog 30 := ⟨_, Go.Proofs.Try.func30, by kernel_rfl, by kernel_rfl⟩
theorem C30 {c_spec_AllFaults : ((Int × Int × Int × List (Int × Int × Int)) × Unit → Option (List (Int × Int)))} {c_spec_ApplyFault : ((Int × Int × Int × List (Int × Int × Int)) × (Int × Int) × Unit → Option ((Int × Int × Int × List (Int × Int × Int)) × Bool))} {c_spec_ResponseOf : ((Int × Int × Int × List (Int × Int × Int)) × Unit → Option ((List (List (Int × Int))) × Bool))} {c_spec_SameResponse : ((List (List (Int × Int))) × (List (List (Int × Int))) × Unit → Option Bool)} (h_c_spec_AllFaults : Contract Go.Proofs.Try.prog 92 ⟨[net], (.slice fault), c_spec_AllFaults⟩) (h_c_spec_ApplyFault : Contract Go.Proofs.Try.prog 93 ⟨[net, fault], (.tup net .bool), c_spec_ApplyFault⟩) (h_c_spec_ResponseOf : Contract Go.Proofs.Try.prog 94 ⟨[net], (.tup (.slice (.slice ratio)) .bool), c_spec_ResponseOf⟩) (h_c_spec_SameResponse : Contract Go.Proofs.Try.prog 95 ⟨[(.slice (.slice ratio)), (.slice (.slice ratio))], .bool, c_spec_SameResponse⟩) {f : ((Int × Int × Int × List (Int × Int × Int)) × (List (List (Int × Int))) × Unit → Option (List (Int × Int)))} (h : ∀ a0 a1 r, f (a0, a1, ()) = some r → ∃ N, r_spec_FaultsLike c_spec_AllFaults c_spec_ApplyFault c_spec_ResponseOf c_spec_SameResponse N a0 a1 = some r) : Contract Go.Proofs.Try.prog 30 ⟨[net, (.slice (.slice ratio))], (.slice fault), f⟩ := by
  refine contract (E := E30 c_spec_AllFaults c_spec_ApplyFault c_spec_ResponseOf c_spec_SameResponse) (envOf table ⟨⟨h_c_spec_AllFaults, There92⟩, ⟨⟨h_c_spec_ApplyFault, There93⟩, ⟨⟨h_c_spec_ResponseOf, There94⟩, ⟨⟨h_c_spec_SameResponse, There95⟩, trivial⟩⟩⟩⟩ trivial) mixed Go.Proofs.Try.func30 (c := Go.Proofs.Try.f30.body.getD .skip) (by kernel_rfl) (Nat.le_of_ble_eq_true (by kernel_rfl)) fun xs r hr => ?_
  obtain ⟨a0, a1, _⟩ := xs
  obtain ⟨N, hN⟩ := h _ _ r hr
  exact ⟨N, A30 c_spec_AllFaults c_spec_ApplyFault c_spec_ResponseOf c_spec_SameResponse N, L30 c_spec_AllFaults c_spec_ApplyFault c_spec_ResponseOf c_spec_SameResponse N, (K30 c_spec_AllFaults c_spec_ApplyFault c_spec_ResponseOf c_spec_SameResponse N a0 a1).trans hN⟩
theorem X30 : Contract Go.Proofs.Try.prog 30 ⟨[net, (.slice (.slice ratio))], (.slice fault), e_spec_FaultsLike⟩ := C30 X92 X93 X94 X95 fun _ _ _ h => ⟨N0, h⟩
-- slices_Index_bool
def E177 : Env := ⟨tys, [], [], []⟩
def A177 (N : Nat) : List (Nat × Loop (Ty.den int)) := [(0, ⟨[(0, .ro none (.slice .bool)), (1, .ro none .bool), (7, .ro none (.num .i64)), (8, .ro none (.num .i64))], r_slices_Index_bool_L0 N⟩)]
theorem K177 (N : Nat) (a0 : (List Bool)) (a1 : Bool) : fnK N (E177) Go.Proofs.Try.f177 [(.slice .bool), .bool] int (A177 N) (a0, a1, ()) = r_slices_Index_bool N a0 a1 := by kernel_rfl
theorem L177 (N : Nat) : LoopsOk N (E177) (A177 N) Go.Proofs.Try.f177.ntmps (retOf (E177) Go.Proofs.Try.f177 int) (loopsOf (Go.Proofs.Try.f177.body.getD .skip)) :=
  LoopsOk.of (l := [(0, lb Go.Proofs.Try.f177 0)]) (by kernel_rfl) (.cons (L := ⟨[(0, .ro none (.slice .bool)), (1, .ro none .bool), (7, .ro none (.num .i64)), (8, .ro none (.num .i64))], r_slices_Index_bool_L0 N⟩) (by kernel_rfl) (by intro s kc ke env; kernel_rfl) .nil)
theorem There177 : There Go.Proofs.Try.prog 177 := ⟨_, Go.Proofs.Try.func177, by kernel_rfl, by kernel_rfl⟩
theorem C177 {f : ((List Bool) × Bool × Unit → Option Int)} (h : ∀ a0 a1 r, f (a0, a1, ()) = some r → ∃ N, r_slices_Index_bool N a0 a1 = some r) : Contract Go.Proofs.Try.prog 177 ⟨[(.slice .bool), .bool], int, f⟩ := by
  refine contract (E := E177) (envOf table trivial trivial) mixed Go.Proofs.Try.func177 (c := Go.Proofs.Try.f177.body.getD .skip) (by kernel_rfl) (Nat.le_of_ble_eq_true (by kernel_rfl)) fun xs r hr => ?_
  obtain ⟨a0, a1, _⟩ := xs
  obtain ⟨N, hN⟩ := h _ _ r hr
  exact ⟨N, A177 N, L177 N, (K177 N a0 a1).trans hN⟩
theorem X177 : Contract Go.Proofs.Try.prog 177 ⟨[(.slice .bool), .bool], int, e_slices_Index_bool⟩ := C177 fun _ _ _ h => ⟨N0, h⟩
-- slices_Contains_bool
def E137 (c_slices_Index_bool : ((List Bool) × Bool × Unit → Option Int)) : Env := ⟨tys, [], [(177, ⟨[(.slice .bool), .bool], int, c_slices_Index_bool⟩)], []⟩
def A137 (_c_slices_Index_bool : ((List Bool) × Bool × Unit → Option Int)) (_N : Nat) : List (Nat × Loop (Ty.den .bool)) := []
theorem K137 (c_slices_Index_bool : ((List Bool) × Bool × Unit → Option Int)) (N : Nat) (a0 : (List Bool)) (a1 : Bool) : fnK N (E137 c_slices_Index_bool) Go.Proofs.Try.f137 [(.slice .bool), .bool] .bool (A137 c_slices_Index_bool N) (a0, a1, ()) = r_slices_Contains_bool c_slices_Index_bool N a0 a1 := by kernel_rfl
theorem L137 (c_slices_Index_bool : ((List Bool) × Bool × Unit → Option Int)) (N : Nat) : LoopsOk N (E137 c_slices_Index_bool) (A137 c_slices_Index_bool N) Go.Proofs.Try.f137.ntmps (retOf (E137 c_slices_Index_bool) Go.Proofs.Try.f137 .bool) (loopsOf (Go.Proofs.Try.f137.body.getD .skip)) :=
  LoopsOk.of (l := []) (by kernel_rfl) .nil
theorem There137 : There Go.Proofs.Try.prog 137 := ⟨_, Go.Proofs.Try.func137, by kernel_rfl, by kernel_rfl⟩
theorem C137 {c_slices_Index_bool : ((List Bool) × Bool × Unit → Option Int)} (h_c_slices_Index_bool : Contract Go.Proofs.Try.prog 177 ⟨[(.slice .bool), .bool], int, c_slices_Index_bool⟩) {f : ((List Bool) × Bool × Unit → Option Bool)} (h : ∀ a0 a1 r, f (a0, a1, ()) = some r → ∃ N, r_slices_Contains_bool c_slices_Index_bool N a0 a1 = some r) : Contract Go.Proofs.Try.prog 137 ⟨[(.slice .bool), .bool], .bool, f⟩ := by
  refine contract (E := E137 c_slices_Index_bool) (envOf table ⟨⟨h_c_slices_Index_bool, There177⟩, trivial⟩ trivial) mixed Go.Proofs.Try.func137 (c := Go.Proofs.Try.f137.body.getD .skip) (by kernel_rfl) (Nat.le_of_ble_eq_true (by kernel_rfl)) fun xs r hr => ?_
  obtain ⟨a0, a1, _⟩ := xs
  obtain ⟨N, hN⟩ := h _ _ r hr
  exact ⟨N, A137 c_slices_Index_bool N, L137 c_slices_Index_bool N, (K137 c_slices_Index_bool N a0 a1).trans hN⟩
theorem X137 : Contract Go.Proofs.Try.prog 137 ⟨[(.slice .bool), .bool], .bool, e_slices_Contains_bool⟩ := C137 X177 fun _ _ _ h => ⟨N0, h⟩
-- cmp_isNaN_int
def E186 : Env := ⟨tys, [], [], []⟩
def A186 (_N : Nat) : List (Nat × Loop (Ty.den .bool)) := []
theorem K186 (N : Nat) (a0 : Int) : fnK N (E186) Go.Proofs.Try.f186 [int] .bool (A186 N) (a0, ()) = r_cmp_isNaN_int N a0 := by kernel_rfl
theorem L186 (N : Nat) : LoopsOk N (E186) (A186 N) Go.Proofs.Try.f186.ntmps (retOf (E186) Go.Proofs.Try.f186 .bool) (loopsOf (Go.Proofs.Try.f186.body.getD .skip)) :=
  LoopsOk.of (l := []) (by kernel_rfl) .nil
theorem There186 : There Go.Proofs.Try.prog 186 := ⟨_, Go.Proofs.Try.func186, by kernel_rfl, by kernel_rfl⟩
theorem C186 {f : (Int × Unit → Option Bool)} (h : ∀ a0 r, f (a0, ()) = some r → ∃ N, r_cmp_isNaN_int N a0 = some r) : Contract Go.Proofs.Try.prog 186 ⟨[int], .bool, f⟩ := by
  refine contract (E := E186) (envOf table trivial trivial) mixed Go.Proofs.Try.func186 (c := Go.Proofs.Try.f186.body.getD .skip) (by kernel_rfl) (Nat.le_of_ble_eq_true (by kernel_rfl)) fun xs r hr => ?_
  obtain ⟨a0, _⟩ := xs
  obtain ⟨N, hN⟩ := h _ r hr
  exact ⟨N, A186 N, L186 N, (K186 N a0).trans hN⟩
theorem X186 : Contract Go.Proofs.Try.prog 186 ⟨[int], .bool, e_cmp_isNaN_int⟩ := C186 fun _ _ h => ⟨N0, h⟩
-- cmp_Compare_int
def E176 (c_cmp_isNaN_int : (Int × Unit → Option Bool)) : Env := ⟨tys, [], [(186, ⟨[int], .bool, c_cmp_isNaN_int⟩)], []⟩
def A176 (_c_cmp_isNaN_int : (Int × Unit → Option Bool)) (_N : Nat) : List (Nat × Loop (Ty.den int)) := []
theorem K176 (c_cmp_isNaN_int : (Int × Unit → Option Bool)) (N : Nat) (a0 : Int) (a1 : Int) : fnK N (E176 c_cmp_isNaN_int) Go.Proofs.Try.f176 [int, int] int (A176 c_cmp_isNaN_int N) (a0, a1, ()) = r_cmp_Compare_int c_cmp_isNaN_int N a0 a1 := by kernel_rfl
theorem L176 (c_cmp_isNaN_int : (Int × Unit → Option Bool)) (N : Nat) : LoopsOk N (E176 c_cmp_isNaN_int) (A176 c_cmp_isNaN_int N) Go.Proofs.Try.f176.ntmps (retOf (E176 c_cmp_isNaN_int) Go.Proofs.Try.f176 int) (loopsOf (Go.Proofs.Try.f176.body.getD .skip)) :=
  LoopsOk.of (l := []) (by kernel_rfl) .nil
theorem There176 : There Go.Proofs.Try.prog 176 := ⟨_, Go.Proofs.Try.func176, by kernel_rfl, by kernel_rfl⟩
theorem C176 {c_cmp_isNaN_int : (Int × Unit → Option Bool)} (h_c_cmp_isNaN_int : Contract Go.Proofs.Try.prog 186 ⟨[int], .bool, c_cmp_isNaN_int⟩) {f : (Int × Int × Unit → Option Int)} (h : ∀ a0 a1 r, f (a0, a1, ()) = some r → ∃ N, r_cmp_Compare_int c_cmp_isNaN_int N a0 a1 = some r) : Contract Go.Proofs.Try.prog 176 ⟨[int, int], int, f⟩ := by
  refine contract (E := E176 c_cmp_isNaN_int) (envOf table ⟨⟨h_c_cmp_isNaN_int, There186⟩, trivial⟩ trivial) mixed Go.Proofs.Try.func176 (c := Go.Proofs.Try.f176.body.getD .skip) (by kernel_rfl) (Nat.le_of_ble_eq_true (by kernel_rfl)) fun xs r hr => ?_
  obtain ⟨a0, a1, _⟩ := xs
  obtain ⟨N, hN⟩ := h _ _ r hr
  exact ⟨N, A176 c_cmp_isNaN_int N, L176 c_cmp_isNaN_int N, (K176 c_cmp_isNaN_int N a0 a1).trans hN⟩
theorem X176 : Contract Go.Proofs.Try.prog 176 ⟨[int, int], int, e_cmp_Compare_int⟩ := C176 X186 fun _ _ _ h => ⟨N0, h⟩
-- cmp_Or_int
def E175 : Env := ⟨tys, [], [], []⟩
def A175 (N : Nat) : List (Nat × Loop (Ty.den int)) := [(0, ⟨[(3, .ro none (.num .i64)), (6, .ro none (.slice (.num .i64))), (7, .ro none (.num .i64)), (8, .ro none (.num .i64))], r_cmp_Or_int_L0 N⟩)]
theorem K175 (N : Nat) (a0 : (List Int)) : fnK N (E175) Go.Proofs.Try.f175 [(.slice int)] int (A175 N) (a0, ()) = r_cmp_Or_int N a0 := by kernel_rfl
theorem L175 (N : Nat) : LoopsOk N (E175) (A175 N) Go.Proofs.Try.f175.ntmps (retOf (E175) Go.Proofs.Try.f175 int) (loopsOf (Go.Proofs.Try.f175.body.getD .skip)) :=
  LoopsOk.of (l := [(0, lb Go.Proofs.Try.f175 0)]) (by kernel_rfl) (.cons (L := ⟨[(3, .ro none (.num .i64)), (6, .ro none (.slice (.num .i64))), (7, .ro none (.num .i64)), (8, .ro none (.num .i64))], r_cmp_Or_int_L0 N⟩) (by kernel_rfl) (by intro s kc ke env; kernel_rfl) .nil)
theorem There175 : There Go.Proofs.Try.prog 175 := ⟨_, Go.Proofs.Try.func175, by kernel_rfl, by kernel_rfl⟩
theorem C175 {f : ((List Int) × Unit → Option Int)} (h : ∀ a0 r, f (a0, ()) = some r → ∃ N, r_cmp_Or_int N a0 = some r) : Contract Go.Proofs.Try.prog 175 ⟨[(.slice int)], int, f⟩ := by
  refine contract (E := E175) (envOf table trivial trivial) mixed Go.Proofs.Try.func175 (c := Go.Proofs.Try.f175.body.getD .skip) (by kernel_rfl) (Nat.le_of_ble_eq_true (by kernel_rfl)) fun xs r hr => ?_
  obtain ⟨a0, _⟩ := xs
  obtain ⟨N, hN⟩ := h _ r hr
  exact ⟨N, A175 N, L175 N, (K175 N a0).trans hN⟩
theorem X175 : Contract Go.Proofs.Try.prog 175 ⟨[(.slice int)], int, e_cmp_Or_int⟩ := C175 fun _ _ h => ⟨N0, h⟩
-- impl_byEnds
def E136 (c_cmp_Compare_int : (Int × Int × Unit → Option Int)) (c_cmp_Or_int : ((List Int) × Unit → Option Int)) : Env := ⟨tys, [], [(176, ⟨[int, int], int, c_cmp_Compare_int⟩), (175, ⟨[(.slice int)], int, c_cmp_Or_int⟩)], []⟩
def A136 (_c_cmp_Compare_int : (Int × Int × Unit → Option Int)) (_c_cmp_Or_int : ((List Int) × Unit → Option Int)) (_N : Nat) : List (Nat × Loop (Ty.den int)) := []
theorem K136 (c_cmp_Compare_int : (Int × Int × Unit → Option Int)) (c_cmp_Or_int : ((List Int) × Unit → Option Int)) (N : Nat) (a0 : (Int × Int × Int)) (a1 : (Int × Int × Int)) : fnK N (E136 c_cmp_Compare_int c_cmp_Or_int) Go.Proofs.Try.f136 [wire, wire] int (A136 c_cmp_Compare_int c_cmp_Or_int N) (a0, a1, ()) = r_impl_byEnds c_cmp_Compare_int c_cmp_Or_int N a0 a1 := by kernel_rfl
theorem L136 (c_cmp_Compare_int : (Int × Int × Unit → Option Int)) (c_cmp_Or_int : ((List Int) × Unit → Option Int)) (N : Nat) : LoopsOk N (E136 c_cmp_Compare_int c_cmp_Or_int) (A136 c_cmp_Compare_int c_cmp_Or_int N) Go.Proofs.Try.f136.ntmps (retOf (E136 c_cmp_Compare_int c_cmp_Or_int) Go.Proofs.Try.f136 int) (loopsOf (Go.Proofs.Try.f136.body.getD .skip)) :=
  LoopsOk.of (l := []) (by kernel_rfl) .nil
theorem There136 : There Go.Proofs.Try.prog 136 := ⟨_, Go.Proofs.Try.func136, by kernel_rfl, by kernel_rfl⟩
theorem C136 {c_cmp_Compare_int : (Int × Int × Unit → Option Int)} {c_cmp_Or_int : ((List Int) × Unit → Option Int)} (h_c_cmp_Compare_int : Contract Go.Proofs.Try.prog 176 ⟨[int, int], int, c_cmp_Compare_int⟩) (h_c_cmp_Or_int : Contract Go.Proofs.Try.prog 175 ⟨[(.slice int)], int, c_cmp_Or_int⟩) {f : ((Int × Int × Int) × (Int × Int × Int) × Unit → Option Int)} (h : ∀ a0 a1 r, f (a0, a1, ()) = some r → ∃ N, r_impl_byEnds c_cmp_Compare_int c_cmp_Or_int N a0 a1 = some r) : Contract Go.Proofs.Try.prog 136 ⟨[wire, wire], int, f⟩ := by
  refine contract (E := E136 c_cmp_Compare_int c_cmp_Or_int) (envOf table ⟨⟨h_c_cmp_Compare_int, There176⟩, ⟨⟨h_c_cmp_Or_int, There175⟩, trivial⟩⟩ trivial) mixed Go.Proofs.Try.func136 (c := Go.Proofs.Try.f136.body.getD .skip) (by kernel_rfl) (Nat.le_of_ble_eq_true (by kernel_rfl)) fun xs r hr => ?_
  obtain ⟨a0, a1, _⟩ := xs
  obtain ⟨N, hN⟩ := h _ _ r hr
  exact ⟨N, A136 c_cmp_Compare_int c_cmp_Or_int N, L136 c_cmp_Compare_int c_cmp_Or_int N, (K136 c_cmp_Compare_int c_cmp_Or_int N a0 a1).trans hN⟩
theorem X136 : Contract Go.Proofs.Try.prog 136 ⟨[wire, wire], int, e_impl_byEnds⟩ := C136 X176 X175 fun _ _ _ h => ⟨N0, h⟩
-- impl_NetOk
def E75 (c_slices_Contains_bool : ((List Bool) × Bool × Unit → Option Bool)) (c_impl_byEnds : ((Int × Int × Int) × (Int × Int × Int) × Unit → Option Int)) : Env := ⟨tys, [], [(137, ⟨[(.slice .bool), .bool], .bool, c_slices_Contains_bool⟩), (136, ⟨[wire, wire], int, c_impl_byEnds⟩)], []⟩
def A75 (c_slices_Contains_bool : ((List Bool) × Bool × Unit → Option Bool)) (c_impl_byEnds : ((Int × Int × Int) × (Int × Int × Int) × Unit → Option Int)) (N : Nat) : List (Nat × Loop (Ty.den .bool)) := [(0, ⟨[(1, .box false (.pair (.num .i64) (.pair (.num .i64) (.pair (.num .i64) (.slice (.pair (.num .i64) (.pair (.num .i64) (.num .i64)))))))), (39, .ro none (.slice (.pair (.num .i64) (.pair (.num .i64) (.num .i64))))), (40, .ro none (.num .i64)), (41, .ro none (.num .i64))], r_impl_NetOk_L0 c_slices_Contains_bool c_impl_byEnds N⟩), (2, ⟨[(1, .box false (.pair (.num .i64) (.pair (.num .i64) (.pair (.num .i64) (.slice (.pair (.num .i64) (.pair (.num .i64) (.num .i64)))))))), (5, .own (.slice .bool)), (95, .ro none (.num .i64)), (96, .ro none (.num .i64))], r_impl_NetOk_L2 c_slices_Contains_bool c_impl_byEnds N⟩), (4, ⟨[(1, .box false (.pair (.num .i64) (.pair (.num .i64) (.pair (.num .i64) (.slice (.pair (.num .i64) (.pair (.num .i64) (.num .i64)))))))), (5, .own (.slice .bool)), (95, .ro none (.num .i64)), (96, .ro none (.num .i64)), (99, .ro none (.slice (.pair (.num .i64) (.pair (.num .i64) (.num .i64))))), (100, .ro none (.num .i64)), (101, .ro none (.num .i64))], r_impl_NetOk_L4 c_slices_Contains_bool c_impl_byEnds N⟩)]
theorem K75 (c_slices_Contains_bool : ((List Bool) × Bool × Unit → Option Bool)) (c_impl_byEnds : ((Int × Int × Int) × (Int × Int × Int) × Unit → Option Int)) (N : Nat) (a0 : (Int × Int × Int × List (Int × Int × Int))) : fnK N (E75 c_slices_Contains_bool c_impl_byEnds) Go.Proofs.Try.f75 [net] .bool (A75 c_slices_Contains_bool c_impl_byEnds N) (a0, ()) = r_impl_NetOk c_slices_Contains_bool c_impl_byEnds N a0 := by kernel_rfl
theorem L75 (c_slices_Contains_bool : ((List Bool) × Bool × Unit → Option Bool)) (c_impl_byEnds : ((Int × Int × Int) × (Int × Int × Int) × Unit → Option Int)) (N : Nat) : LoopsOk N (E75 c_slices_Contains_bool c_impl_byEnds) (A75 c_slices_Contains_bool c_impl_byEnds N) Go.Proofs.Try.f75.ntmps (retOf (E75 c_slices_Contains_bool c_impl_byEnds) Go.Proofs.Try.f75 .bool) (loopsOf (Go.Proofs.Try.f75.body.getD .skip)) :=
  LoopsOk.of (l := [(0, lb Go.Proofs.Try.f75 0), (2, lb Go.Proofs.Try.f75 1), (4, lb Go.Proofs.Try.f75 2)]) (by kernel_rfl) (.cons (L := ⟨[(1, .box false (.pair (.num .i64) (.pair (.num .i64) (.pair (.num .i64) (.slice (.pair (.num .i64) (.pair (.num .i64) (.num .i64)))))))), (39, .ro none (.slice (.pair (.num .i64) (.pair (.num .i64) (.num .i64))))), (40, .ro none (.num .i64)), (41, .ro none (.num .i64))], r_impl_NetOk_L0 c_slices_Contains_bool c_impl_byEnds N⟩) (by kernel_rfl) (by intro s kc ke env; kernel_rfl) (.cons (L := ⟨[(1, .box false (.pair (.num .i64) (.pair (.num .i64) (.pair (.num .i64) (.slice (.pair (.num .i64) (.pair (.num .i64) (.num .i64)))))))), (5, .own (.slice .bool)), (95, .ro none (.num .i64)), (96, .ro none (.num .i64))], r_impl_NetOk_L2 c_slices_Contains_bool c_impl_byEnds N⟩) (by kernel_rfl) (by intro s kc ke env; kernel_rfl) (.cons (L := ⟨[(1, .box false (.pair (.num .i64) (.pair (.num .i64) (.pair (.num .i64) (.slice (.pair (.num .i64) (.pair (.num .i64) (.num .i64)))))))), (5, .own (.slice .bool)), (95, .ro none (.num .i64)), (96, .ro none (.num .i64)), (99, .ro none (.slice (.pair (.num .i64) (.pair (.num .i64) (.num .i64))))), (100, .ro none (.num .i64)), (101, .ro none (.num .i64))], r_impl_NetOk_L4 c_slices_Contains_bool c_impl_byEnds N⟩) (by kernel_rfl) (by intro s kc ke env; kernel_rfl) .nil)))
theorem There75 : There Go.Proofs.Try.prog 75 := ⟨_, Go.Proofs.Try.func75, by kernel_rfl, by kernel_rfl⟩
theorem C75 {c_slices_Contains_bool : ((List Bool) × Bool × Unit → Option Bool)} {c_impl_byEnds : ((Int × Int × Int) × (Int × Int × Int) × Unit → Option Int)} (h_c_slices_Contains_bool : Contract Go.Proofs.Try.prog 137 ⟨[(.slice .bool), .bool], .bool, c_slices_Contains_bool⟩) (h_c_impl_byEnds : Contract Go.Proofs.Try.prog 136 ⟨[wire, wire], int, c_impl_byEnds⟩) {f : ((Int × Int × Int × List (Int × Int × Int)) × Unit → Option Bool)} (h : ∀ a0 r, f (a0, ()) = some r → ∃ N, r_impl_NetOk c_slices_Contains_bool c_impl_byEnds N a0 = some r) : Contract Go.Proofs.Try.prog 75 ⟨[net], .bool, f⟩ := by
  refine contract (E := E75 c_slices_Contains_bool c_impl_byEnds) (envOf table ⟨⟨h_c_slices_Contains_bool, There137⟩, ⟨⟨h_c_impl_byEnds, There136⟩, trivial⟩⟩ trivial) mixed Go.Proofs.Try.func75 (c := Go.Proofs.Try.f75.body.getD .skip) (by kernel_rfl) (Nat.le_of_ble_eq_true (by kernel_rfl)) fun xs r hr => ?_
  obtain ⟨a0, _⟩ := xs
  obtain ⟨N, hN⟩ := h _ r hr
  exact ⟨N, A75 c_slices_Contains_bool c_impl_byEnds N, L75 c_slices_Contains_bool c_impl_byEnds N, (K75 c_slices_Contains_bool c_impl_byEnds N a0).trans hN⟩
theorem X75 : Contract Go.Proofs.Try.prog 75 ⟨[net], .bool, e_impl_NetOk⟩ := C75 X137 X136 fun _ _ h => ⟨N0, h⟩
-- impl_isWire
def E83 : Env := ⟨tys, [], [], []⟩
def A83 (_N : Nat) : List (Nat × Loop (Ty.den .bool)) := []
theorem K83 (N : Nat) (a0 : (Int × Int × Int × List (Int × Int × Int))) (a1 : Int) : fnK N (E83) Go.Proofs.Try.f83 [net, int] .bool (A83 N) (a0, a1, ()) = r_impl_isWire N a0 a1 := by kernel_rfl
theorem L83 (N : Nat) : LoopsOk N (E83) (A83 N) Go.Proofs.Try.f83.ntmps (retOf (E83) Go.Proofs.Try.f83 .bool) (loopsOf (Go.Proofs.Try.f83.body.getD .skip)) :=
  LoopsOk.of (l := []) (by kernel_rfl) .nil
theorem There83 : There Go.Proofs.Try.prog 83 := ⟨_, Go.Proofs.Try.func83, by kernel_rfl, by kernel_rfl⟩
theorem C83 {f : ((Int × Int × Int × List (Int × Int × Int)) × Int × Unit → Option Bool)} (h : ∀ a0 a1 r, f (a0, a1, ()) = some r → ∃ N, r_impl_isWire N a0 a1 = some r) : Contract Go.Proofs.Try.prog 83 ⟨[net, int], .bool, f⟩ := by
  refine contract (E := E83) (envOf table trivial trivial) mixed Go.Proofs.Try.func83 (c := Go.Proofs.Try.f83.body.getD .skip) (by kernel_rfl) (Nat.le_of_ble_eq_true (by kernel_rfl)) fun xs r hr => ?_
  obtain ⟨a0, a1, _⟩ := xs
  obtain ⟨N, hN⟩ := h _ _ r hr
  exact ⟨N, A83 N, L83 N, (K83 N a0 a1).trans hN⟩
theorem X83 : Contract Go.Proofs.Try.prog 83 ⟨[net, int], .bool, e_impl_isWire⟩ := C83 fun _ _ _ h => ⟨N0, h⟩
-- impl_isNode
def E76 : Env := ⟨tys, [], [], []⟩
def A76 (_N : Nat) : List (Nat × Loop (Ty.den .bool)) := []
theorem K76 (N : Nat) (a0 : (Int × Int × Int × List (Int × Int × Int))) (a1 : Int) : fnK N (E76) Go.Proofs.Try.f76 [net, int] .bool (A76 N) (a0, a1, ()) = r_impl_isNode N a0 a1 := by kernel_rfl
theorem L76 (N : Nat) : LoopsOk N (E76) (A76 N) Go.Proofs.Try.f76.ntmps (retOf (E76) Go.Proofs.Try.f76 .bool) (loopsOf (Go.Proofs.Try.f76.body.getD .skip)) :=
  LoopsOk.of (l := []) (by kernel_rfl) .nil
theorem There76 : There Go.Proofs.Try.prog 76 := ⟨_, Go.Proofs.Try.func76, by kernel_rfl, by kernel_rfl⟩
theorem C76 {f : ((Int × Int × Int × List (Int × Int × Int)) × Int × Unit → Option Bool)} (h : ∀ a0 a1 r, f (a0, a1, ()) = some r → ∃ N, r_impl_isNode N a0 a1 = some r) : Contract Go.Proofs.Try.prog 76 ⟨[net, int], .bool, f⟩ := by
  refine contract (E := E76) (envOf table trivial trivial) mixed Go.Proofs.Try.func76 (c := Go.Proofs.Try.f76.body.getD .skip) (by kernel_rfl) (Nat.le_of_ble_eq_true (by kernel_rfl)) fun xs r hr => ?_
  obtain ⟨a0, a1, _⟩ := xs
  obtain ⟨N, hN⟩ := h _ _ r hr
  exact ⟨N, A76 N, L76 N, (K76 N a0 a1).trans hN⟩
theorem X76 : Contract Go.Proofs.Try.prog 76 ⟨[net, int], .bool, e_impl_isNode⟩ := C76 fun _ _ _ h => ⟨N0, h⟩
-- impl_WeightBetween
def E165 : Env := ⟨tys, [], [], []⟩
def A165 (N : Nat) : List (Nat × Loop (Ty.den int)) := [(0, ⟨[(1, .ro none (.num .i64)), (2, .ro none (.num .i64)), (10, .ro none (.slice (.pair (.num .i64) (.pair (.num .i64) (.num .i64))))), (11, .ro none (.num .i64)), (12, .ro none (.num .i64))], r_impl_WeightBetween_L0 N⟩)]
theorem K165 (N : Nat) (a0 : (Int × Int × Int × List (Int × Int × Int))) (a1 : Int) (a2 : Int) : fnK N (E165) Go.Proofs.Try.f165 [net, int, int] int (A165 N) (a0, a1, a2, ()) = r_impl_WeightBetween N a0 a1 a2 := by kernel_rfl
theorem L165 (N : Nat) : LoopsOk N (E165) (A165 N) Go.Proofs.Try.f165.ntmps (retOf (E165) Go.Proofs.Try.f165 int) (loopsOf (Go.Proofs.Try.f165.body.getD .skip)) :=
  LoopsOk.of (l := [(0, lb Go.Proofs.Try.f165 0)]) (by kernel_rfl) (.cons (L := ⟨[(1, .ro none (.num .i64)), (2, .ro none (.num .i64)), (10, .ro none (.slice (.pair (.num .i64) (.pair (.num .i64) (.num .i64))))), (11, .ro none (.num .i64)), (12, .ro none (.num .i64))], r_impl_WeightBetween_L0 N⟩) (by kernel_rfl) (by intro s kc ke env; kernel_rfl) .nil)
theorem There165 : There Go.Proofs.Try.prog 165 := ⟨_, Go.Proofs.Try.func165, by kernel_rfl, by kernel_rfl⟩
theorem C165 {f : ((Int × Int × Int × List (Int × Int × Int)) × Int × Int × Unit → Option Int)} (h : ∀ a0 a1 a2 r, f (a0, a1, a2, ()) = some r → ∃ N, r_impl_WeightBetween N a0 a1 a2 = some r) : Contract Go.Proofs.Try.prog 165 ⟨[net, int, int], int, f⟩ := by
  refine contract (E := E165) (envOf table trivial trivial) mixed Go.Proofs.Try.func165 (c := Go.Proofs.Try.f165.body.getD .skip) (by kernel_rfl) (Nat.le_of_ble_eq_true (by kernel_rfl)) fun xs r hr => ?_
  obtain ⟨a0, a1, a2, _⟩ := xs
  obtain ⟨N, hN⟩ := h _ _ _ r hr
  exact ⟨N, A165 N, L165 N, (K165 N a0 a1 a2).trans hN⟩
theorem X165 : Contract Go.Proofs.Try.prog 165 ⟨[net, int, int], int, e_impl_WeightBetween⟩ := C165 fun _ _ _ _ h => ⟨N0, h⟩
-- impl_table
def E123 (c_impl_WeightBetween : ((Int × Int × Int × List (Int × Int × Int)) × Int × Int × Unit → Option Int)) : Env := ⟨tys, [], [(165, ⟨[net, int, int], int, c_impl_WeightBetween⟩)], []⟩
def A123 (c_impl_WeightBetween : ((Int × Int × Int × List (Int × Int × Int)) × Int × Int × Unit → Option Int)) (N : Nat) : List (Nat × Loop (Ty.den (.slice (.slice int)))) := [(0, ⟨[(1, .box false (.pair (.num .i64) (.pair (.num .i64) (.pair (.num .i64) (.slice (.pair (.num .i64) (.pair (.num .i64) (.num .i64)))))))), (3, .own (.slice (.slice (.num .i64)))), (10, .ro none (.num .i64)), (11, .ro none (.num .i64))], r_impl_table_L0 c_impl_WeightBetween N⟩), (2, ⟨[(1, .box false (.pair (.num .i64) (.pair (.num .i64) (.pair (.num .i64) (.slice (.pair (.num .i64) (.pair (.num .i64) (.num .i64)))))))), (3, .own (.slice (.slice (.num .i64)))), (4, .ro none (.num .i64)), (10, .ro none (.num .i64)), (11, .ro none (.num .i64)), (24, .ro none (.num .i64)), (25, .ro none (.num .i64))], r_impl_table_L2 c_impl_WeightBetween N⟩)]
theorem K123 (c_impl_WeightBetween : ((Int × Int × Int × List (Int × Int × Int)) × Int × Int × Unit → Option Int)) (N : Nat) (a0 : (Int × Int × Int × List (Int × Int × Int))) : fnK N (E123 c_impl_WeightBetween) Go.Proofs.Try.f123 [net] (.slice (.slice int)) (A123 c_impl_WeightBetween N) (a0, ()) = r_impl_table c_impl_WeightBetween N a0 := by kernel_rfl
theorem L123 (c_impl_WeightBetween : ((Int × Int × Int × List (Int × Int × Int)) × Int × Int × Unit → Option Int)) (N : Nat) : LoopsOk N (E123 c_impl_WeightBetween) (A123 c_impl_WeightBetween N) Go.Proofs.Try.f123.ntmps (retOf (E123 c_impl_WeightBetween) Go.Proofs.Try.f123 (.slice (.slice int))) (loopsOf (Go.Proofs.Try.f123.body.getD .skip)) :=
  LoopsOk.of (l := [(0, lb Go.Proofs.Try.f123 0), (2, lb Go.Proofs.Try.f123 1)]) (by kernel_rfl) (.cons (L := ⟨[(1, .box false (.pair (.num .i64) (.pair (.num .i64) (.pair (.num .i64) (.slice (.pair (.num .i64) (.pair (.num .i64) (.num .i64)))))))), (3, .own (.slice (.slice (.num .i64)))), (10, .ro none (.num .i64)), (11, .ro none (.num .i64))], r_impl_table_L0 c_impl_WeightBetween N⟩) (by kernel_rfl) (by intro s kc ke env; kernel_rfl) (.cons (L := ⟨[(1, .box false (.pair (.num .i64) (.pair (.num .i64) (.pair (.num .i64) (.slice (.pair (.num .i64) (.pair (.num .i64) (.num .i64)))))))), (3, .own (.slice (.slice (.num .i64)))), (4, .ro none (.num .i64)), (10, .ro none (.num .i64)), (11, .ro none (.num .i64)), (24, .ro none (.num .i64)), (25, .ro none (.num .i64))], r_impl_table_L2 c_impl_WeightBetween N⟩) (by kernel_rfl) (by intro s kc ke env; kernel_rfl) .nil))
theorem There123 : There Go.Proofs.Try.prog 123 := ⟨_, Go.Proofs.Try.func123, by kernel_rfl, by kernel_rfl⟩
theorem C123 {c_impl_WeightBetween : ((Int × Int × Int × List (Int × Int × Int)) × Int × Int × Unit → Option Int)} (h_c_impl_WeightBetween : Contract Go.Proofs.Try.prog 165 ⟨[net, int, int], int, c_impl_WeightBetween⟩) {f : ((Int × Int × Int × List (Int × Int × Int)) × Unit → Option (List (List Int)))} (h : ∀ a0 r, f (a0, ()) = some r → ∃ N, r_impl_table c_impl_WeightBetween N a0 = some r) : Contract Go.Proofs.Try.prog 123 ⟨[net], (.slice (.slice int)), f⟩ := by
  refine contract (E := E123 c_impl_WeightBetween) (envOf table ⟨⟨h_c_impl_WeightBetween, There165⟩, trivial⟩ trivial) mixed Go.Proofs.Try.func123 (c := Go.Proofs.Try.f123.body.getD .skip) (by kernel_rfl) (Nat.le_of_ble_eq_true (by kernel_rfl)) fun xs r hr => ?_
  obtain ⟨a0, _⟩ := xs
  obtain ⟨N, hN⟩ := h _ r hr
  exact ⟨N, A123 c_impl_WeightBetween N, L123 c_impl_WeightBetween N, (K123 c_impl_WeightBetween N a0).trans hN⟩
theorem X123 : Contract Go.Proofs.Try.prog 123 ⟨[net], (.slice (.slice int)), e_impl_table⟩ := C123 X165 fun _ _ h => ⟨N0, h⟩
-- impl_size
def E139 : Env := ⟨tys, [], [], []⟩
def A139 (_N : Nat) : List (Nat × Loop (Ty.den (.num .u64))) := []
theorem K139 (N : Nat) (a0 : Int) : fnK N (E139) Go.Proofs.Try.f139 [int] (.num .u64) (A139 N) (a0, ()) = r_impl_size N a0 := by kernel_rfl
theorem L139 (N : Nat) : LoopsOk N (E139) (A139 N) Go.Proofs.Try.f139.ntmps (retOf (E139) Go.Proofs.Try.f139 (.num .u64)) (loopsOf (Go.Proofs.Try.f139.body.getD .skip)) :=
  LoopsOk.of (l := []) (by kernel_rfl) .nil
theorem There139 : There Go.Proofs.Try.prog 139 := ⟨_, Go.Proofs.Try.func139, by kernel_rfl, by kernel_rfl⟩
theorem C139 {f : (Int × Unit → Option Int)} (h : ∀ a0 r, f (a0, ()) = some r → ∃ N, r_impl_size N a0 = some r) : Contract Go.Proofs.Try.prog 139 ⟨[int], (.num .u64), f⟩ := by
  refine contract (E := E139) (envOf table trivial trivial) mixed Go.Proofs.Try.func139 (c := Go.Proofs.Try.f139.body.getD .skip) (by kernel_rfl) (Nat.le_of_ble_eq_true (by kernel_rfl)) fun xs r hr => ?_
  obtain ⟨a0, _⟩ := xs
  obtain ⟨N, hN⟩ := h _ r hr
  exact ⟨N, A139 N, L139 N, (K139 N a0).trans hN⟩
theorem X139 : Contract Go.Proofs.Try.prog 139 ⟨[int], (.num .u64), e_impl_size⟩ := C139 fun _ _ h => ⟨N0, h⟩
-- impl_common
def E138 : Env := ⟨tys, [], [], []⟩
def A138 (N : Nat) : List (Nat × Loop (Ty.den (.num .u64))) := [(0, ⟨[(0, .ro none (.num .u64)), (1, .ro none (.num .u64))], r_impl_common_L0 N⟩)]
theorem K138 (N : Nat) (a0 : Int) (a1 : Int) : fnK N (E138) Go.Proofs.Try.f138 [(.num .u64), (.num .u64)] (.num .u64) (A138 N) (a0, a1, ()) = r_impl_common N a0 a1 := by kernel_rfl
theorem L138 (N : Nat) : LoopsOk N (E138) (A138 N) Go.Proofs.Try.f138.ntmps (retOf (E138) Go.Proofs.Try.f138 (.num .u64)) (loopsOf (Go.Proofs.Try.f138.body.getD .skip)) :=
  LoopsOk.of (l := [(0, lb Go.Proofs.Try.f138 0)]) (by kernel_rfl) (.cons (L := ⟨[(0, .ro none (.num .u64)), (1, .ro none (.num .u64))], r_impl_common_L0 N⟩) (by kernel_rfl) (by intro s kc ke env; kernel_rfl) .nil)
theorem There138 : There Go.Proofs.Try.prog 138 := ⟨_, Go.Proofs.Try.func138, by kernel_rfl, by kernel_rfl⟩
theorem C138 {f : (Int × Int × Unit → Option Int)} (h : ∀ a0 a1 r, f (a0, a1, ()) = some r → ∃ N, r_impl_common N a0 a1 = some r) : Contract Go.Proofs.Try.prog 138 ⟨[(.num .u64), (.num .u64)], (.num .u64), f⟩ := by
  refine contract (E := E138) (envOf table trivial trivial) mixed Go.Proofs.Try.func138 (c := Go.Proofs.Try.f138.body.getD .skip) (by kernel_rfl) (Nat.le_of_ble_eq_true (by kernel_rfl)) fun xs r hr => ?_
  obtain ⟨a0, a1, _⟩ := xs
  obtain ⟨N, hN⟩ := h _ _ r hr
  exact ⟨N, A138 N, L138 N, (K138 N a0 a1).trans hN⟩
theorem X138 : Contract Go.Proofs.Try.prog 138 ⟨[(.num .u64), (.num .u64)], (.num .u64), e_impl_common⟩ := C138 fun _ _ _ h => ⟨N0, h⟩
-- impl_GcdOf
def E166 (c_impl_size : (Int × Unit → Option Int)) (c_impl_common : (Int × Int × Unit → Option Int)) : Env := ⟨tys, [], [(139, ⟨[int], (.num .u64), c_impl_size⟩), (138, ⟨[(.num .u64), (.num .u64)], (.num .u64), c_impl_common⟩)], []⟩
def A166 (_c_impl_size : (Int × Unit → Option Int)) (_c_impl_common : (Int × Int × Unit → Option Int)) (_N : Nat) : List (Nat × Loop (Ty.den int)) := []
theorem K166 (c_impl_size : (Int × Unit → Option Int)) (c_impl_common : (Int × Int × Unit → Option Int)) (N : Nat) (a0 : Int) (a1 : Int) : fnK N (E166 c_impl_size c_impl_common) Go.Proofs.Try.f166 [int, int] int (A166 c_impl_size c_impl_common N) (a0, a1, ()) = r_impl_GcdOf c_impl_size c_impl_common N a0 a1 := by kernel_rfl
theorem L166 (c_impl_size : (Int × Unit → Option Int)) (c_impl_common : (Int × Int × Unit → Option Int)) (N : Nat) : LoopsOk N (E166 c_impl_size c_impl_common) (A166 c_impl_size c_impl_common N) Go.Proofs.Try.f166.ntmps (retOf (E166 c_impl_size c_impl_common) Go.Proofs.Try.f166 int) (loopsOf (Go.Proofs.Try.f166.body.getD .skip)) :=
  LoopsOk.of (l := []) (by kernel_rfl) .nil
theorem There166 : There Go.Proofs.Try.prog 166 := ⟨_, Go.Proofs.Try.func166, by kernel_rfl, by kernel_rfl⟩
theorem C166 {c_impl_size : (Int × Unit → Option Int)} {c_impl_common : (Int × Int × Unit → Option Int)} (h_c_impl_size : Contract Go.Proofs.Try.prog 139 ⟨[int], (.num .u64), c_impl_size⟩) (h_c_impl_common : Contract Go.Proofs.Try.prog 138 ⟨[(.num .u64), (.num .u64)], (.num .u64), c_impl_common⟩) {f : (Int × Int × Unit → Option Int)} (h : ∀ a0 a1 r, f (a0, a1, ()) = some r → ∃ N, r_impl_GcdOf c_impl_size c_impl_common N a0 a1 = some r) : Contract Go.Proofs.Try.prog 166 ⟨[int, int], int, f⟩ := by
  refine contract (E := E166 c_impl_size c_impl_common) (envOf table ⟨⟨h_c_impl_size, There139⟩, ⟨⟨h_c_impl_common, There138⟩, trivial⟩⟩ trivial) mixed Go.Proofs.Try.func166 (c := Go.Proofs.Try.f166.body.getD .skip) (by kernel_rfl) (Nat.le_of_ble_eq_true (by kernel_rfl)) fun xs r hr => ?_
  obtain ⟨a0, a1, _⟩ := xs
  obtain ⟨N, hN⟩ := h _ _ r hr
  exact ⟨N, A166 c_impl_size c_impl_common N, L166 c_impl_size c_impl_common N, (K166 c_impl_size c_impl_common N a0 a1).trans hN⟩
theorem X166 : Contract Go.Proofs.Try.prog 166 ⟨[int, int], int, e_impl_GcdOf⟩ := C166 X139 X138 fun _ _ _ h => ⟨N0, h⟩
-- impl_netOf
def E124 (c_impl_NetOk : ((Int × Int × Int × List (Int × Int × Int)) × Unit → Option Bool)) (c_impl_GcdOf : (Int × Int × Unit → Option Int)) : Env := ⟨tys, [], [(75, ⟨[net], .bool, c_impl_NetOk⟩), (166, ⟨[int, int], int, c_impl_GcdOf⟩)], []⟩
def A124 (c_impl_NetOk : ((Int × Int × Int × List (Int × Int × Int)) × Unit → Option Bool)) (c_impl_GcdOf : (Int × Int × Unit → Option Int)) (N : Nat) : List (Nat × Loop (Ty.den (.tup net .bool))) := [(0, ⟨[(2, .ro none (.slice (.slice (.num .i64)))), (3, .ro none .bool), (8, .box true (.pair (.num .i64) (.pair (.num .i64) (.pair (.num .i64) (.slice (.pair (.num .i64) (.pair (.num .i64) (.num .i64)))))))), (10, .box true (.pair (.num .i64) (.pair (.num .i64) (.pair (.num .i64) (.slice (.pair (.num .i64) (.pair (.num .i64) (.num .i64)))))))), (11, .ro none (.num .i64)), (23, .ro none (.num .i64)), (24, .ro none (.num .i64))], r_impl_netOf_L0 c_impl_NetOk c_impl_GcdOf N⟩), (4, ⟨[(8, .box true (.pair (.num .i64) (.pair (.num .i64) (.pair (.num .i64) (.slice (.pair (.num .i64) (.pair (.num .i64) (.num .i64)))))))), (10, .box true (.pair (.num .i64) (.pair (.num .i64) (.pair (.num .i64) (.slice (.pair (.num .i64) (.pair (.num .i64) (.num .i64)))))))), (11, .ro none (.num .i64)), (65, .ro none (.num .i64)), (66, .ro none (.num .i64))], r_impl_netOf_L4 c_impl_NetOk c_impl_GcdOf N⟩), (2, ⟨[(2, .ro none (.slice (.slice (.num .i64)))), (3, .ro none .bool), (8, .box true (.pair (.num .i64) (.pair (.num .i64) (.pair (.num .i64) (.slice (.pair (.num .i64) (.pair (.num .i64) (.num .i64)))))))), (10, .box true (.pair (.num .i64) (.pair (.num .i64) (.pair (.num .i64) (.slice (.pair (.num .i64) (.pair (.num .i64) (.num .i64)))))))), (11, .ro none (.num .i64)), (12, .ro none (.num .i64)), (13, .ro none (.num .i64)), (23, .ro none (.num .i64)), (24, .ro none (.num .i64))], r_impl_netOf_L2 c_impl_NetOk c_impl_GcdOf N⟩)]
theorem K124 (c_impl_NetOk : ((Int × Int × Int × List (Int × Int × Int)) × Unit → Option Bool)) (c_impl_GcdOf : (Int × Int × Unit → Option Int)) (N : Nat) (a0 : Int) (a1 : Int) (a2 : (List (List Int))) (a3 : Bool) : fnK N (E124 c_impl_NetOk c_impl_GcdOf) Go.Proofs.Try.f124 [int, int, (.slice (.slice int)), .bool] (.tup net .bool) (A124 c_impl_NetOk c_impl_GcdOf N) (a0, a1, a2, a3, ()) = r_impl_netOf c_impl_NetOk c_impl_GcdOf N a0 a1 a2 a3 := by kernel_rfl
theorem L124 (c_impl_NetOk : ((Int × Int × Int × List (Int × Int × Int)) × Unit → Option Bool)) (c_impl_GcdOf : (Int × Int × Unit → Option Int)) (N : Nat) : LoopsOk N (E124 c_impl_NetOk c_impl_GcdOf) (A124 c_impl_NetOk c_impl_GcdOf N) Go.Proofs.Try.f124.ntmps (retOf (E124 c_impl_NetOk c_impl_GcdOf) Go.Proofs.Try.f124 (.tup net .bool)) (loopsOf (Go.Proofs.Try.f124.body.getD .skip)) :=
  LoopsOk.of (l := [(0, lb Go.Proofs.Try.f124 0), (2, lb Go.Proofs.Try.f124 1), (4, lb Go.Proofs.Try.f124 2)]) (by kernel_rfl) (.cons (L := ⟨[(2, .ro none (.slice (.slice (.num .i64)))), (3, .ro none .bool), (8, .box true (.pair (.num .i64) (.pair (.num .i64) (.pair (.num .i64) (.slice (.pair (.num .i64) (.pair (.num .i64) (.num .i64)))))))), (10, .box true (.pair (.num .i64) (.pair (.num .i64) (.pair (.num .i64) (.slice (.pair (.num .i64) (.pair (.num .i64) (.num .i64)))))))), (11, .ro none (.num .i64)), (23, .ro none (.num .i64)), (24, .ro none (.num .i64))], r_impl_netOf_L0 c_impl_NetOk c_impl_GcdOf N⟩) (by kernel_rfl) (by intro s kc ke env; kernel_rfl) (.cons (L := ⟨[(2, .ro none (.slice (.slice (.num .i64)))), (3, .ro none .bool), (8, .box true (.pair (.num .i64) (.pair (.num .i64) (.pair (.num .i64) (.slice (.pair (.num .i64) (.pair (.num .i64) (.num .i64)))))))), (10, .box true (.pair (.num .i64) (.pair (.num .i64) (.pair (.num .i64) (.slice (.pair (.num .i64) (.pair (.num .i64) (.num .i64)))))))), (11, .ro none (.num .i64)), (12, .ro none (.num .i64)), (13, .ro none (.num .i64)), (23, .ro none (.num .i64)), (24, .ro none (.num .i64))], r_impl_netOf_L2 c_impl_NetOk c_impl_GcdOf N⟩) (by kernel_rfl) (by intro s kc ke env; kernel_rfl) (.cons (L := ⟨[(8, .box true (.pair (.num .i64) (.pair (.num .i64) (.pair (.num .i64) (.slice (.pair (.num .i64) (.pair (.num .i64) (.num .i64)))))))), (10, .box true (.pair (.num .i64) (.pair (.num .i64) (.pair (.num .i64) (.slice (.pair (.num .i64) (.pair (.num .i64) (.num .i64)))))))), (11, .ro none (.num .i64)), (65, .ro none (.num .i64)), (66, .ro none (.num .i64))], r_impl_netOf_L4 c_impl_NetOk c_impl_GcdOf N⟩) (by kernel_rfl) (by intro s kc ke env; kernel_rfl) .nil)))
theorem There124 : There Go.Proofs.Try.prog 124 := ⟨_, Go.Proofs.Try.func124, by kernel_rfl, by kernel_rfl⟩
theorem C124 {c_impl_NetOk : ((Int × Int × Int × List (Int × Int × Int)) × Unit → Option Bool)} {c_impl_GcdOf : (Int × Int × Unit → Option Int)} (h_c_impl_NetOk : Contract Go.Proofs.Try.prog 75 ⟨[net], .bool, c_impl_NetOk⟩) (h_c_impl_GcdOf : Contract Go.Proofs.Try.prog 166 ⟨[int, int], int, c_impl_GcdOf⟩) {f : (Int × Int × (List (List Int)) × Bool × Unit → Option ((Int × Int × Int × List (Int × Int × Int)) × Bool))} (h : ∀ a0 a1 a2 a3 r, f (a0, a1, a2, a3, ()) = some r → ∃ N, r_impl_netOf c_impl_NetOk c_impl_GcdOf N a0 a1 a2 a3 = some r) : Contract Go.Proofs.Try.prog 124 ⟨[int, int, (.slice (.slice int)), .bool], (.tup net .bool), f⟩ := by
  refine contract (E := E124 c_impl_NetOk c_impl_GcdOf) (envOf table ⟨⟨h_c_impl_NetOk, There75⟩, ⟨⟨h_c_impl_GcdOf, There166⟩, trivial⟩⟩ trivial) mixed Go.Proofs.Try.func124 (c := Go.Proofs.Try.f124.body.getD .skip) (by kernel_rfl) (Nat.le_of_ble_eq_true (by kernel_rfl)) fun xs r hr => ?_
  obtain ⟨a0, a1, a2, a3, _⟩ := xs
  obtain ⟨N, hN⟩ := h _ _ _ _ r hr
  exact ⟨N, A124 c_impl_NetOk c_impl_GcdOf N, L124 c_impl_NetOk c_impl_GcdOf N, (K124 c_impl_NetOk c_impl_GcdOf N a0 a1 a2 a3).trans hN⟩
theorem X124 : Contract Go.Proofs.Try.prog 124 ⟨[int, int, (.slice (.slice int)), .bool], (.tup net .bool), e_impl_netOf⟩ := C124 X75 X166 fun _ _ _ _ _ h => ⟨N0, h⟩
-- impl_PutWire
def E122 (c_impl_NetOk : ((Int × Int × Int × List (Int × Int × Int)) × Unit → Option Bool)) (c_impl_isNode : ((Int × Int × Int × List (Int × Int × Int)) × Int × Unit → Option Bool)) (c_impl_table : ((Int × Int × Int × List (Int × Int × Int)) × Unit → Option (List (List Int)))) (c_impl_netOf : (Int × Int × (List (List Int)) × Bool × Unit → Option ((Int × Int × Int × List (Int × Int × Int)) × Bool))) : Env := ⟨tys, [], [(75, ⟨[net], .bool, c_impl_NetOk⟩), (76, ⟨[net, int], .bool, c_impl_isNode⟩), (123, ⟨[net], (.slice (.slice int)), c_impl_table⟩), (124, ⟨[int, int, (.slice (.slice int)), .bool], (.tup net .bool), c_impl_netOf⟩)], []⟩
def A122 (_c_impl_NetOk : ((Int × Int × Int × List (Int × Int × Int)) × Unit → Option Bool)) (_c_impl_isNode : ((Int × Int × Int × List (Int × Int × Int)) × Int × Unit → Option Bool)) (_c_impl_table : ((Int × Int × Int × List (Int × Int × Int)) × Unit → Option (List (List Int)))) (_c_impl_netOf : (Int × Int × (List (List Int)) × Bool × Unit → Option ((Int × Int × Int × List (Int × Int × Int)) × Bool))) (_N : Nat) : List (Nat × Loop (Ty.den (.tup net .bool))) := []
theorem K122 (c_impl_NetOk : ((Int × Int × Int × List (Int × Int × Int)) × Unit → Option Bool)) (c_impl_isNode : ((Int × Int × Int × List (Int × Int × Int)) × Int × Unit → Option Bool)) (c_impl_table : ((Int × Int × Int × List (Int × Int × Int)) × Unit → Option (List (List Int)))) (c_impl_netOf : (Int × Int × (List (List Int)) × Bool × Unit → Option ((Int × Int × Int × List (Int × Int × Int)) × Bool))) (N : Nat) (a0 : (Int × Int × Int × List (Int × Int × Int))) (a1 : Int) (a2 : Int) (a3 : Int) : fnK N (E122 c_impl_NetOk c_impl_isNode c_impl_table c_impl_netOf) Go.Proofs.Try.f122 [net, int, int, int] (.tup net .bool) (A122 c_impl_NetOk c_impl_isNode c_impl_table c_impl_netOf N) (a0, a1, a2, a3, ()) = r_impl_PutWire c_impl_NetOk c_impl_isNode c_impl_table c_impl_netOf N a0 a1 a2 a3 := by kernel_rfl
theorem L122 (c_impl_NetOk : ((Int × Int × Int × List (Int × Int × Int)) × Unit → Option Bool)) (c_impl_isNode : ((Int × Int × Int × List (Int × Int × Int)) × Int × Unit → Option Bool)) (c_impl_table : ((Int × Int × Int × List (Int × Int × Int)) × Unit → Option (List (List Int)))) (c_impl_netOf : (Int × Int × (List (List Int)) × Bool × Unit → Option ((Int × Int × Int × List (Int × Int × Int)) × Bool))) (N : Nat) : LoopsOk N (E122 c_impl_NetOk c_impl_isNode c_impl_table c_impl_netOf) (A122 c_impl_NetOk c_impl_isNode c_impl_table c_impl_netOf N) Go.Proofs.Try.f122.ntmps (retOf (E122 c_impl_NetOk c_impl_isNode c_impl_table c_impl_netOf) Go.Proofs.Try.f122 (.tup net .bool)) (loopsOf (Go.Proofs.Try.f122.body.getD .skip)) :=
  LoopsOk.of (l := []) (by kernel_rfl) .nil
theorem There122 : There Go.Proofs.Try.prog 122 := ⟨_, Go.Proofs.Try.func122, by kernel_rfl, by kernel_rfl⟩
theorem C122 {c_impl_NetOk : ((Int × Int × Int × List (Int × Int × Int)) × Unit → Option Bool)} {c_impl_isNode : ((Int × Int × Int × List (Int × Int × Int)) × Int × Unit → Option Bool)} {c_impl_table : ((Int × Int × Int × List (Int × Int × Int)) × Unit → Option (List (List Int)))} {c_impl_netOf : (Int × Int × (List (List Int)) × Bool × Unit → Option ((Int × Int × Int × List (Int × Int × Int)) × Bool))} (h_c_impl_NetOk : Contract Go.Proofs.Try.prog 75 ⟨[net], .bool, c_impl_NetOk⟩) (h_c_impl_isNode : Contract Go.Proofs.Try.prog 76 ⟨[net, int], .bool, c_impl_isNode⟩) (h_c_impl_table : Contract Go.Proofs.Try.prog 123 ⟨[net], (.slice (.slice int)), c_impl_table⟩) (h_c_impl_netOf : Contract Go.Proofs.Try.prog 124 ⟨[int, int, (.slice (.slice int)), .bool], (.tup net .bool), c_impl_netOf⟩) {f : ((Int × Int × Int × List (Int × Int × Int)) × Int × Int × Int × Unit → Option ((Int × Int × Int × List (Int × Int × Int)) × Bool))} (h : ∀ a0 a1 a2 a3 r, f (a0, a1, a2, a3, ()) = some r → ∃ N, r_impl_PutWire c_impl_NetOk c_impl_isNode c_impl_table c_impl_netOf N a0 a1 a2 a3 = some r) : Contract Go.Proofs.Try.prog 122 ⟨[net, int, int, int], (.tup net .bool), f⟩ := by
  refine contract (E := E122 c_impl_NetOk c_impl_isNode c_impl_table c_impl_netOf) (envOf table ⟨⟨h_c_impl_NetOk, There75⟩, ⟨⟨h_c_impl_isNode, There76⟩, ⟨⟨h_c_impl_table, There123⟩, ⟨⟨h_c_impl_netOf, There124⟩, trivial⟩⟩⟩⟩ trivial) mixed Go.Proofs.Try.func122 (c := Go.Proofs.Try.f122.body.getD .skip) (by kernel_rfl) (Nat.le_of_ble_eq_true (by kernel_rfl)) fun xs r hr => ?_
  obtain ⟨a0, a1, a2, a3, _⟩ := xs
  obtain ⟨N, hN⟩ := h _ _ _ _ r hr
  exact ⟨N, A122 c_impl_NetOk c_impl_isNode c_impl_table c_impl_netOf N, L122 c_impl_NetOk c_impl_isNode c_impl_table c_impl_netOf N, (K122 c_impl_NetOk c_impl_isNode c_impl_table c_impl_netOf N a0 a1 a2 a3).trans hN⟩
theorem X122 : Contract Go.Proofs.Try.prog 122 ⟨[net, int, int, int], (.tup net .bool), e_impl_PutWire⟩ := C122 X75 X76 X123 X124 fun _ _ _ _ _ h => ⟨N0, h⟩
-- impl_ApplyFault
def E106 (c_impl_NetOk : ((Int × Int × Int × List (Int × Int × Int)) × Unit → Option Bool)) (c_impl_isWire : ((Int × Int × Int × List (Int × Int × Int)) × Int × Unit → Option Bool)) (c_impl_PutWire : ((Int × Int × Int × List (Int × Int × Int)) × Int × Int × Int × Unit → Option ((Int × Int × Int × List (Int × Int × Int)) × Bool))) : Env := ⟨tys, [], [(75, ⟨[net], .bool, c_impl_NetOk⟩), (83, ⟨[net, int], .bool, c_impl_isWire⟩), (122, ⟨[net, int, int, int], (.tup net .bool), c_impl_PutWire⟩)], []⟩
def A106 (_c_impl_NetOk : ((Int × Int × Int × List (Int × Int × Int)) × Unit → Option Bool)) (_c_impl_isWire : ((Int × Int × Int × List (Int × Int × Int)) × Int × Unit → Option Bool)) (_c_impl_PutWire : ((Int × Int × Int × List (Int × Int × Int)) × Int × Int × Int × Unit → Option ((Int × Int × Int × List (Int × Int × Int)) × Bool))) (_N : Nat) : List (Nat × Loop (Ty.den (.tup net .bool))) := []
theorem K106 (c_impl_NetOk : ((Int × Int × Int × List (Int × Int × Int)) × Unit → Option Bool)) (c_impl_isWire : ((Int × Int × Int × List (Int × Int × Int)) × Int × Unit → Option Bool)) (c_impl_PutWire : ((Int × Int × Int × List (Int × Int × Int)) × Int × Int × Int × Unit → Option ((Int × Int × Int × List (Int × Int × Int)) × Bool))) (N : Nat) (a0 : (Int × Int × Int × List (Int × Int × Int))) (a1 : (Int × Int)) : fnK N (E106 c_impl_NetOk c_impl_isWire c_impl_PutWire) Go.Proofs.Try.f106 [net, fault] (.tup net .bool) (A106 c_impl_NetOk c_impl_isWire c_impl_PutWire N) (a0, a1, ()) = r_impl_ApplyFault c_impl_NetOk c_impl_isWire c_impl_PutWire N a0 a1 := by kernel_rfl
theorem L106 (c_impl_NetOk : ((Int × Int × Int × List (Int × Int × Int)) × Unit → Option Bool)) (c_impl_isWire : ((Int × Int × Int × List (Int × Int × Int)) × Int × Unit → Option Bool)) (c_impl_PutWire : ((Int × Int × Int × List (Int × Int × Int)) × Int × Int × Int × Unit → Option ((Int × Int × Int × List (Int × Int × Int)) × Bool))) (N : Nat) : LoopsOk N (E106 c_impl_NetOk c_impl_isWire c_impl_PutWire) (A106 c_impl_NetOk c_impl_isWire c_impl_PutWire N) Go.Proofs.Try.f106.ntmps (retOf (E106 c_impl_NetOk c_impl_isWire c_impl_PutWire) Go.Proofs.Try.f106 (.tup net .bool)) (loopsOf (Go.Proofs.Try.f106.body.getD .skip)) :=
  LoopsOk.of (l := []) (by kernel_rfl) .nil
theorem There106 : There Go.Proofs.Try.prog 106 := ⟨_, Go.Proofs.Try.func106, by kernel_rfl, by kernel_rfl⟩
theorem C106 {c_impl_NetOk : ((Int × Int × Int × List (Int × Int × Int)) × Unit → Option Bool)} {c_impl_isWire : ((Int × Int × Int × List (Int × Int × Int)) × Int × Unit → Option Bool)} {c_impl_PutWire : ((Int × Int × Int × List (Int × Int × Int)) × Int × Int × Int × Unit → Option ((Int × Int × Int × List (Int × Int × Int)) × Bool))} (h_c_impl_NetOk : Contract Go.Proofs.Try.prog 75 ⟨[net], .bool, c_impl_NetOk⟩) (h_c_impl_isWire : Contract Go.Proofs.Try.prog 83 ⟨[net, int], .bool, c_impl_isWire⟩) (h_c_impl_PutWire : Contract Go.Proofs.Try.prog 122 ⟨[net, int, int, int], (.tup net .bool), c_impl_PutWire⟩) {f : ((Int × Int × Int × List (Int × Int × Int)) × (Int × Int) × Unit → Option ((Int × Int × Int × List (Int × Int × Int)) × Bool))} (h : ∀ a0 a1 r, f (a0, a1, ()) = some r → ∃ N, r_impl_ApplyFault c_impl_NetOk c_impl_isWire c_impl_PutWire N a0 a1 = some r) : Contract Go.Proofs.Try.prog 106 ⟨[net, fault], (.tup net .bool), f⟩ := by
  refine contract (E := E106 c_impl_NetOk c_impl_isWire c_impl_PutWire) (envOf table ⟨⟨h_c_impl_NetOk, There75⟩, ⟨⟨h_c_impl_isWire, There83⟩, ⟨⟨h_c_impl_PutWire, There122⟩, trivial⟩⟩⟩ trivial) mixed Go.Proofs.Try.func106 (c := Go.Proofs.Try.f106.body.getD .skip) (by kernel_rfl) (Nat.le_of_ble_eq_true (by kernel_rfl)) fun xs r hr => ?_
  obtain ⟨a0, a1, _⟩ := xs
  obtain ⟨N, hN⟩ := h _ _ r hr
  exact ⟨N, A106 c_impl_NetOk c_impl_isWire c_impl_PutWire N, L106 c_impl_NetOk c_impl_isWire c_impl_PutWire N, (K106 c_impl_NetOk c_impl_isWire c_impl_PutWire N a0 a1).trans hN⟩
theorem X106 : Contract Go.Proofs.Try.prog 106 ⟨[net, fault], (.tup net .bool), e_impl_ApplyFault⟩ := C106 X75 X83 X122 fun _ _ _ h => ⟨N0, h⟩
-- impl_AllFaults
def E98 (c_impl_NetOk : ((Int × Int × Int × List (Int × Int × Int)) × Unit → Option Bool)) (c_impl_ApplyFault : ((Int × Int × Int × List (Int × Int × Int)) × (Int × Int) × Unit → Option ((Int × Int × Int × List (Int × Int × Int)) × Bool))) : Env := ⟨tys, [], [(75, ⟨[net], .bool, c_impl_NetOk⟩), (106, ⟨[net, fault], (.tup net .bool), c_impl_ApplyFault⟩)], []⟩
def A98 (c_impl_NetOk : ((Int × Int × Int × List (Int × Int × Int)) × Unit → Option Bool)) (c_impl_ApplyFault : ((Int × Int × Int × List (Int × Int × Int)) × (Int × Int) × Unit → Option ((Int × Int × Int × List (Int × Int × Int)) × Bool))) (N : Nat) : List (Nat × Loop (Ty.den (.slice fault))) := [(0, ⟨[(1, .box false (.pair (.num .i64) (.pair (.num .i64) (.pair (.num .i64) (.slice (.pair (.num .i64) (.pair (.num .i64) (.num .i64)))))))), (3, .own (.slice (.pair (.num .i64) (.num .i64)))), (15, .ro none (.num .i64)), (16, .ro none (.num .i64))], r_impl_AllFaults_L0 c_impl_NetOk c_impl_ApplyFault N⟩), (2, ⟨[(1, .box false (.pair (.num .i64) (.pair (.num .i64) (.pair (.num .i64) (.slice (.pair (.num .i64) (.pair (.num .i64) (.num .i64)))))))), (3, .own (.slice (.pair (.num .i64) (.num .i64)))), (4, .ro none (.num .i64)), (15, .ro none (.num .i64)), (16, .ro none (.num .i64)), (19, .ro none (.num .i64))], r_impl_AllFaults_L2 c_impl_NetOk c_impl_ApplyFault N⟩)]
theorem K98 (c_impl_NetOk : ((Int × Int × Int × List (Int × Int × Int)) × Unit → Option Bool)) (c_impl_ApplyFault : ((Int × Int × Int × List (Int × Int × Int)) × (Int × Int) × Unit → Option ((Int × Int × Int × List (Int × Int × Int)) × Bool))) (N : Nat) (a0 : (Int × Int × Int × List (Int × Int × Int))) : fnK N (E98 c_impl_NetOk c_impl_ApplyFault) Go.Proofs.Try.f98 [net] (.slice fault) (A98 c_impl_NetOk c_impl_ApplyFault N) (a0, ()) = r_impl_AllFaults c_impl_NetOk c_impl_ApplyFault N a0 := by kernel_rfl
theorem L98 (c_impl_NetOk : ((Int × Int × Int × List (Int × Int × Int)) × Unit → Option Bool)) (c_impl_ApplyFault : ((Int × Int × Int × List (Int × Int × Int)) × (Int × Int) × Unit → Option ((Int × Int × Int × List (Int × Int × Int)) × Bool))) (N : Nat) : LoopsOk N (E98 c_impl_NetOk c_impl_ApplyFault) (A98 c_impl_NetOk c_impl_ApplyFault N) Go.Proofs.Try.f98.ntmps (retOf (E98 c_impl_NetOk c_impl_ApplyFault) Go.Proofs.Try.f98 (.slice fault)) (loopsOf (Go.Proofs.Try.f98.body.getD .skip)) :=
  LoopsOk.of (l := [(0, lb Go.Proofs.Try.f98 0), (2, lb Go.Proofs.Try.f98 1)]) (by kernel_rfl) (.cons (L := ⟨[(1, .box false (.pair (.num .i64) (.pair (.num .i64) (.pair (.num .i64) (.slice (.pair (.num .i64) (.pair (.num .i64) (.num .i64)))))))), (3, .own (.slice (.pair (.num .i64) (.num .i64)))), (15, .ro none (.num .i64)), (16, .ro none (.num .i64))], r_impl_AllFaults_L0 c_impl_NetOk c_impl_ApplyFault N⟩) (by kernel_rfl) (by intro s kc ke env; kernel_rfl) (.cons (L := ⟨[(1, .box false (.pair (.num .i64) (.pair (.num .i64) (.pair (.num .i64) (.slice (.pair (.num .i64) (.pair (.num .i64) (.num .i64)))))))), (3, .own (.slice (.pair (.num .i64) (.num .i64)))), (4, .ro none (.num .i64)), (15, .ro none (.num .i64)), (16, .ro none (.num .i64)), (19, .ro none (.num .i64))], r_impl_AllFaults_L2 c_impl_NetOk c_impl_ApplyFault N⟩) (by kernel_rfl) (by intro s kc ke env; kernel_rfl) .nil))
theorem There98 : There Go.Proofs.Try.prog 98 := ⟨_, Go.Proofs.Try.func98, by kernel_rfl, by kernel_rfl⟩
theorem C98 {c_impl_NetOk : ((Int × Int × Int × List (Int × Int × Int)) × Unit → Option Bool)} {c_impl_ApplyFault : ((Int × Int × Int × List (Int × Int × Int)) × (Int × Int) × Unit → Option ((Int × Int × Int × List (Int × Int × Int)) × Bool))} (h_c_impl_NetOk : Contract Go.Proofs.Try.prog 75 ⟨[net], .bool, c_impl_NetOk⟩) (h_c_impl_ApplyFault : Contract Go.Proofs.Try.prog 106 ⟨[net, fault], (.tup net .bool), c_impl_ApplyFault⟩) {f : ((Int × Int × Int × List (Int × Int × Int)) × Unit → Option (List (Int × Int)))} (h : ∀ a0 r, f (a0, ()) = some r → ∃ N, r_impl_AllFaults c_impl_NetOk c_impl_ApplyFault N a0 = some r) : Contract Go.Proofs.Try.prog 98 ⟨[net], (.slice fault), f⟩ := by
  refine contract (E := E98 c_impl_NetOk c_impl_ApplyFault) (envOf table ⟨⟨h_c_impl_NetOk, There75⟩, ⟨⟨h_c_impl_ApplyFault, There106⟩, trivial⟩⟩ trivial) mixed Go.Proofs.Try.func98 (c := Go.Proofs.Try.f98.body.getD .skip) (by kernel_rfl) (Nat.le_of_ble_eq_true (by kernel_rfl)) fun xs r hr => ?_
  obtain ⟨a0, _⟩ := xs
  obtain ⟨N, hN⟩ := h _ r hr
  exact ⟨N, A98 c_impl_NetOk c_impl_ApplyFault N, L98 c_impl_NetOk c_impl_ApplyFault N, (K98 c_impl_NetOk c_impl_ApplyFault N a0).trans hN⟩
theorem X98 : Contract Go.Proofs.Try.prog 98 ⟨[net], (.slice fault), e_impl_AllFaults⟩ := C98 X75 X106 fun _ _ h => ⟨N0, h⟩
-- impl_WeightAt
def E66 : Env := ⟨tys, [], [], []⟩
def A66 (N : Nat) : List (Nat × Loop (Ty.den int)) := [(0, ⟨[(1, .ro none (.num .i64)), (5, .ro none (.num .i64)), (9, .ro none (.slice (.pair (.num .i64) (.pair (.num .i64) (.num .i64))))), (10, .ro none (.num .i64)), (11, .ro none (.num .i64))], r_impl_WeightAt_L0 N⟩)]
theorem K66 (N : Nat) (a0 : (Int × Int × Int × List (Int × Int × Int))) (a1 : Int) : fnK N (E66) Go.Proofs.Try.f66 [net, int] int (A66 N) (a0, a1, ()) = r_impl_WeightAt N a0 a1 := by kernel_rfl
theorem L66 (N : Nat) : LoopsOk N (E66) (A66 N) Go.Proofs.Try.f66.ntmps (retOf (E66) Go.Proofs.Try.f66 int) (loopsOf (Go.Proofs.Try.f66.body.getD .skip)) :=
  LoopsOk.of (l := [(0, lb Go.Proofs.Try.f66 0)]) (by kernel_rfl) (.cons (L := ⟨[(1, .ro none (.num .i64)), (5, .ro none (.num .i64)), (9, .ro none (.slice (.pair (.num .i64) (.pair (.num .i64) (.num .i64))))), (10, .ro none (.num .i64)), (11, .ro none (.num .i64))], r_impl_WeightAt_L0 N⟩) (by kernel_rfl) (by intro s kc ke env; kernel_rfl) .nil)
theorem There66 : There Go.Proofs.Try.prog 66 := ⟨_, Go.Proofs.Try.func66, by kernel_rfl, by kernel_rfl⟩
theorem C66 {f : ((Int × Int × Int × List (Int × Int × Int)) × Int × Unit → Option Int)} (h : ∀ a0 a1 r, f (a0, a1, ()) = some r → ∃ N, r_impl_WeightAt N a0 a1 = some r) : Contract Go.Proofs.Try.prog 66 ⟨[net, int], int, f⟩ := by
  refine contract (E := E66) (envOf table trivial trivial) mixed Go.Proofs.Try.func66 (c := Go.Proofs.Try.f66.body.getD .skip) (by kernel_rfl) (Nat.le_of_ble_eq_true (by kernel_rfl)) fun xs r hr => ?_
  obtain ⟨a0, a1, _⟩ := xs
  obtain ⟨N, hN⟩ := h _ _ r hr
  exact ⟨N, A66 N, L66 N, (K66 N a0 a1).trans hN⟩
theorem X66 : Contract Go.Proofs.Try.prog 66 ⟨[net, int], int, e_impl_WeightAt⟩ := C66 fun _ _ _ h => ⟨N0, h⟩
-- impl_LaplacianOf
def E65 (c_impl_NetOk : ((Int × Int × Int × List (Int × Int × Int)) × Unit → Option Bool)) (c_impl_table : ((Int × Int × Int × List (Int × Int × Int)) × Unit → Option (List (List Int)))) (c_impl_WeightAt : ((Int × Int × Int × List (Int × Int × Int)) × Int × Unit → Option Int)) : Env := ⟨tys, [], [(75, ⟨[net], .bool, c_impl_NetOk⟩), (123, ⟨[net], (.slice (.slice int)), c_impl_table⟩), (66, ⟨[net, int], int, c_impl_WeightAt⟩)], []⟩
def A65 (c_impl_NetOk : ((Int × Int × Int × List (Int × Int × Int)) × Unit → Option Bool)) (c_impl_table : ((Int × Int × Int × List (Int × Int × Int)) × Unit → Option (List (List Int)))) (c_impl_WeightAt : ((Int × Int × Int × List (Int × Int × Int)) × Int × Unit → Option Int)) (N : Nat) : List (Nat × Loop (Ty.den (.slice (.slice int)))) := [(0, ⟨[(1, .box false (.pair (.num .i64) (.pair (.num .i64) (.pair (.num .i64) (.slice (.pair (.num .i64) (.pair (.num .i64) (.num .i64)))))))), (3, .own (.slice (.slice (.num .i64)))), (12, .ro none (.num .i64)), (13, .ro none (.num .i64))], r_impl_LaplacianOf_L0 c_impl_NetOk c_impl_table c_impl_WeightAt N⟩), (2, ⟨[(1, .box false (.pair (.num .i64) (.pair (.num .i64) (.pair (.num .i64) (.slice (.pair (.num .i64) (.pair (.num .i64) (.num .i64)))))))), (3, .own (.slice (.slice (.num .i64)))), (4, .ro none (.num .i64)), (12, .ro none (.num .i64)), (13, .ro none (.num .i64)), (17, .ro none (.num .i64)), (18, .ro none (.num .i64))], r_impl_LaplacianOf_L2 c_impl_NetOk c_impl_table c_impl_WeightAt N⟩)]
theorem K65 (c_impl_NetOk : ((Int × Int × Int × List (Int × Int × Int)) × Unit → Option Bool)) (c_impl_table : ((Int × Int × Int × List (Int × Int × Int)) × Unit → Option (List (List Int)))) (c_impl_WeightAt : ((Int × Int × Int × List (Int × Int × Int)) × Int × Unit → Option Int)) (N : Nat) (a0 : (Int × Int × Int × List (Int × Int × Int))) : fnK N (E65 c_impl_NetOk c_impl_table c_impl_WeightAt) Go.Proofs.Try.f65 [net] (.slice (.slice int)) (A65 c_impl_NetOk c_impl_table c_impl_WeightAt N) (a0, ()) = r_impl_LaplacianOf c_impl_NetOk c_impl_table c_impl_WeightAt N a0 := by kernel_rfl
theorem L65 (c_impl_NetOk : ((Int × Int × Int × List (Int × Int × Int)) × Unit → Option Bool)) (c_impl_table : ((Int × Int × Int × List (Int × Int × Int)) × Unit → Option (List (List Int)))) (c_impl_WeightAt : ((Int × Int × Int × List (Int × Int × Int)) × Int × Unit → Option Int)) (N : Nat) : LoopsOk N (E65 c_impl_NetOk c_impl_table c_impl_WeightAt) (A65 c_impl_NetOk c_impl_table c_impl_WeightAt N) Go.Proofs.Try.f65.ntmps (retOf (E65 c_impl_NetOk c_impl_table c_impl_WeightAt) Go.Proofs.Try.f65 (.slice (.slice int))) (loopsOf (Go.Proofs.Try.f65.body.getD .skip)) :=
  LoopsOk.of (l := [(0, lb Go.Proofs.Try.f65 0), (2, lb Go.Proofs.Try.f65 1)]) (by kernel_rfl) (.cons (L := ⟨[(1, .box false (.pair (.num .i64) (.pair (.num .i64) (.pair (.num .i64) (.slice (.pair (.num .i64) (.pair (.num .i64) (.num .i64)))))))), (3, .own (.slice (.slice (.num .i64)))), (12, .ro none (.num .i64)), (13, .ro none (.num .i64))], r_impl_LaplacianOf_L0 c_impl_NetOk c_impl_table c_impl_WeightAt N⟩) (by kernel_rfl) (by intro s kc ke env; kernel_rfl) (.cons (L := ⟨[(1, .box false (.pair (.num .i64) (.pair (.num .i64) (.pair (.num .i64) (.slice (.pair (.num .i64) (.pair (.num .i64) (.num .i64)))))))), (3, .own (.slice (.slice (.num .i64)))), (4, .ro none (.num .i64)), (12, .ro none (.num .i64)), (13, .ro none (.num .i64)), (17, .ro none (.num .i64)), (18, .ro none (.num .i64))], r_impl_LaplacianOf_L2 c_impl_NetOk c_impl_table c_impl_WeightAt N⟩) (by kernel_rfl) (by intro s kc ke env; kernel_rfl) .nil))
theorem There65 : There Go.Proofs.Try.prog 65 := ⟨_, Go.Proofs.Try.func65, by kernel_rfl, by kernel_rfl⟩
theorem C65 {c_impl_NetOk : ((Int × Int × Int × List (Int × Int × Int)) × Unit → Option Bool)} {c_impl_table : ((Int × Int × Int × List (Int × Int × Int)) × Unit → Option (List (List Int)))} {c_impl_WeightAt : ((Int × Int × Int × List (Int × Int × Int)) × Int × Unit → Option Int)} (h_c_impl_NetOk : Contract Go.Proofs.Try.prog 75 ⟨[net], .bool, c_impl_NetOk⟩) (h_c_impl_table : Contract Go.Proofs.Try.prog 123 ⟨[net], (.slice (.slice int)), c_impl_table⟩) (h_c_impl_WeightAt : Contract Go.Proofs.Try.prog 66 ⟨[net, int], int, c_impl_WeightAt⟩) {f : ((Int × Int × Int × List (Int × Int × Int)) × Unit → Option (List (List Int)))} (h : ∀ a0 r, f (a0, ()) = some r → ∃ N, r_impl_LaplacianOf c_impl_NetOk c_impl_table c_impl_WeightAt N a0 = some r) : Contract Go.Proofs.Try.prog 65 ⟨[net], (.slice (.slice int)), f⟩ := by
  refine contract (E := E65 c_impl_NetOk c_impl_table c_impl_WeightAt) (envOf table ⟨⟨h_c_impl_NetOk, There75⟩, ⟨⟨h_c_impl_table, There123⟩, ⟨⟨h_c_impl_WeightAt, There66⟩, trivial⟩⟩⟩ trivial) mixed Go.Proofs.Try.func65 (c := Go.Proofs.Try.f65.body.getD .skip) (by kernel_rfl) (Nat.le_of_ble_eq_true (by kernel_rfl)) fun xs r hr => ?_
  obtain ⟨a0, _⟩ := xs
  obtain ⟨N, hN⟩ := h _ r hr
  exact ⟨N, A65 c_impl_NetOk c_impl_table c_impl_WeightAt N, L65 c_impl_NetOk c_impl_table c_impl_WeightAt N, (K65 c_impl_NetOk c_impl_table c_impl_WeightAt N a0).trans hN⟩
theorem X65 : Contract Go.Proofs.Try.prog 65 ⟨[net], (.slice (.slice int)), e_impl_LaplacianOf⟩ := C65 X75 X123 X66 fun _ _ h => ⟨N0, h⟩
-- impl_inner
def E180 : Env := ⟨tys, [], [], []⟩
def A180 (N : Nat) : List (Nat × Loop (Ty.den (.slice int))) := [(0, ⟨[(1, .box false (.pair (.num .i64) (.pair (.num .i64) (.pair (.num .i64) (.slice (.pair (.num .i64) (.pair (.num .i64) (.num .i64)))))))), (3, .own (.slice (.num .i64))), (4, .ro none (.num .i64))], r_impl_inner_L0 N⟩)]
theorem K180 (N : Nat) (a0 : (Int × Int × Int × List (Int × Int × Int))) : fnK N (E180) Go.Proofs.Try.f180 [net] (.slice int) (A180 N) (a0, ()) = r_impl_inner N a0 := by kernel_rfl
theorem L180 (N : Nat) : LoopsOk N (E180) (A180 N) Go.Proofs.Try.f180.ntmps (retOf (E180) Go.Proofs.Try.f180 (.slice int)) (loopsOf (Go.Proofs.Try.f180.body.getD .skip)) :=
  LoopsOk.of (l := [(0, lb Go.Proofs.Try.f180 0)]) (by kernel_rfl) (.cons (L := ⟨[(1, .box false (.pair (.num .i64) (.pair (.num .i64) (.pair (.num .i64) (.slice (.pair (.num .i64) (.pair (.num .i64) (.num .i64)))))))), (3, .own (.slice (.num .i64))), (4, .ro none (.num .i64))], r_impl_inner_L0 N⟩) (by kernel_rfl) (by intro s kc ke env; kernel_rfl) .nil)
theorem There180 : There Go.Proofs.Try.prog 180 := ⟨_, Go.Proofs.Try.func180, by kernel_rfl, by kernel_rfl⟩
theorem C180 {f : ((Int × Int × Int × List (Int × Int × Int)) × Unit → Option (List Int))} (h : ∀ a0 r, f (a0, ()) = some r → ∃ N, r_impl_inner N a0 = some r) : Contract Go.Proofs.Try.prog 180 ⟨[net], (.slice int), f⟩ := by
  refine contract (E := E180) (envOf table trivial trivial) mixed Go.Proofs.Try.func180 (c := Go.Proofs.Try.f180.body.getD .skip) (by kernel_rfl) (Nat.le_of_ble_eq_true (by kernel_rfl)) fun xs r hr => ?_
  obtain ⟨a0, _⟩ := xs
  obtain ⟨N, hN⟩ := h _ r hr
  exact ⟨N, A180 N, L180 N, (K180 N a0).trans hN⟩
theorem X180 : Contract Go.Proofs.Try.prog 180 ⟨[net], (.slice int), e_impl_inner⟩ := C180 fun _ _ h => ⟨N0, h⟩
-- slices_Clone_int
def E161 : Env := ⟨tys, [], [], []⟩
def A161 (_N : Nat) : List (Nat × Loop (Ty.den (.slice int))) := []
theorem K161 (N : Nat) (a0 : (List Int)) : fnK N (E161) Go.Proofs.Try.f161 [(.slice int)] (.slice int) (A161 N) (a0, ()) = r_slices_Clone_int N a0 := by kernel_rfl
theorem L161 (N : Nat) : LoopsOk N (E161) (A161 N) Go.Proofs.Try.f161.ntmps (retOf (E161) Go.Proofs.Try.f161 (.slice int)) (loopsOf (Go.Proofs.Try.f161.body.getD .skip)) :=
  LoopsOk.of (l := []) (by kernel_rfl) .nil
theorem There161 : There Go.Proofs.Try.prog 161 := ⟨_, Go.Proofs.Try.func161, by kernel_rfl, by kernel_rfl⟩
theorem C161 {f : ((List Int) × Unit → Option (List Int))} (h : ∀ a0 r, f (a0, ()) = some r → ∃ N, r_slices_Clone_int N a0 = some r) : Contract Go.Proofs.Try.prog 161 ⟨[(.slice int)], (.slice int), f⟩ := by
  refine contract (E := E161) (envOf table trivial trivial) mixed Go.Proofs.Try.func161 (c := Go.Proofs.Try.f161.body.getD .skip) (by kernel_rfl) (Nat.le_of_ble_eq_true (by kernel_rfl)) fun xs r hr => ?_
  obtain ⟨a0, _⟩ := xs
  obtain ⟨N, hN⟩ := h _ r hr
  exact ⟨N, A161 N, L161 N, (K161 N a0).trans hN⟩
theorem X161 : Contract Go.Proofs.Try.prog 161 ⟨[(.slice int)], (.slice int), e_slices_Clone_int⟩ := C161 fun _ _ h => ⟨N0, h⟩
-- slices_Delete_int
theorem There167 : There Go.Proofs.Try.prog 167 := ⟨_, Go.Proofs.Try.func167, by kernel_rfl, by kernel_rfl⟩
end Go.Sx.S
namespace Go.Proofs
open Go.Shelf
def Try.laysDelete_ren : Go.Shelf.Ren := ⟨fun | 23 => 167 | n => n, fun | 22 => 38 | 3 => 3 | 4 => 4 | 0 => 0 | n => n, fun | n => n⟩
theorem Try.laysDelete : Go.Proofs.Lays2.n23 Try.prog Try.laysDelete_ren := {
  mixed := by kernel_rfl
  f23 := Try.func167.trans (congrArg some (by kernel_rfl))
  t0 := Try.underlying0
  a0 := Try.isAgg0
  z0 := Try.sizeOf0
  v0 := Try.zeroValue0
  t3 := Try.underlying3
  a3 := Try.isAgg3
  z3 := Try.sizeOf3
  v3 := Try.zeroValue3
  t4 := Try.underlying4
  a4 := Try.isAgg4
  z4 := Try.sizeOf4
  v4 := Try.zeroValue4
  t22 := Try.underlying38
  a22 := Try.isAgg38
  z22 := Try.sizeOf38
  v22 := Try.zeroValue38
  i3 := by kernel_rfl }
end Go.Proofs
namespace Go.Sx.S
open Go Go.Sx Go.Sx.R
theorem X167 : TakeC Go.Proofs.Try.prog 167 ⟨(.slice int), 0, [int, int], some (.slice int), e_slices_Delete_int⟩ :=
  takeC_delete (fun blk off cap i j zs w hH h1 h2 h3 h4 => Go.Proofs.Any.slices_Delete_int Go.Proofs.Try.laysDelete blk off cap i j zs w hH h1 h2 h3 h4) (fun a cap w => Go.Proofs.Any.slices_Delete_int_empty Go.Proofs.Try.laysDelete a cap w)

-- impl_det
def E130 (c_slices_Clone_int : ((List Int) × Unit → Option (List Int))) (m_slices_Delete_int : ((List Int) → (Int × Int × Unit) → Option ((List Int) × (List Int)))) (c_impl_det : ((List (List Int)) × (List Int) × (List Int) × Unit → Option Int)) : Env := ⟨tys, [], [(161, ⟨[(.slice int)], (.slice int), c_slices_Clone_int⟩), (130, ⟨[(.slice (.slice int)), (.slice int), (.slice int)], int, c_impl_det⟩)], [(167, ⟨(.slice int), 0, [int, int], some (.slice int), m_slices_Delete_int⟩)]⟩
def A130 (c_slices_Clone_int : ((List Int) × Unit → Option (List Int))) (m_slices_Delete_int : ((List Int) → (Int × Int × Unit) → Option ((List Int) × (List Int)))) (c_impl_det : ((List (List Int)) × (List Int) × (List Int) × Unit → Option Int)) (N : Nat) : List (Nat × Loop (Ty.den int)) := [(0, ⟨[(0, .ro none (.slice (.slice (.num .i64)))), (1, .ro none (.slice (.num .i64))), (2, .ro none (.slice (.num .i64))), (7, .ro none (.num .i64)), (8, .ro none (.num .i64)), (15, .ro none (.slice (.num .i64))), (16, .ro none (.num .i64)), (17, .ro none (.num .i64))], r_impl_det_L0 c_slices_Clone_int m_slices_Delete_int c_impl_det N⟩)]
theorem K130 (c_slices_Clone_int : ((List Int) × Unit → Option (List Int))) (m_slices_Delete_int : ((List Int) → (Int × Int × Unit) → Option ((List Int) × (List Int)))) (c_impl_det : ((List (List Int)) × (List Int) × (List Int) × Unit → Option Int)) (N : Nat) (a0 : (List (List Int))) (a1 : (List Int)) (a2 : (List Int)) : fnK N (E130 c_slices_Clone_int m_slices_Delete_int c_impl_det) Go.Proofs.Try.f130 [(.slice (.slice int)), (.slice int), (.slice int)] int (A130 c_slices_Clone_int m_slices_Delete_int c_impl_det N) (a0, a1, a2, ()) = r_impl_det c_slices_Clone_int m_slices_Delete_int c_impl_det N a0 a1 a2 := by kernel_rfl
theorem L130 (c_slices_Clone_int : ((List Int) × Unit → Option (List Int))) (m_slices_Delete_int : ((List Int) → (Int × Int × Unit) → Option ((List Int) × (List Int)))) (c_impl_det : ((List (List Int)) × (List Int) × (List Int) × Unit → Option Int)) (N : Nat) : LoopsOk N (E130 c_slices_Clone_int m_slices_Delete_int c_impl_det) (A130 c_slices_Clone_int m_slices_Delete_int c_impl_det N) Go.Proofs.Try.f130.ntmps (retOf (E130 c_slices_Clone_int m_slices_Delete_int c_impl_det) Go.Proofs.Try.f130 int) (loopsOf (Go.Proofs.Try.f130.body.getD .skip)) :=
  LoopsOk.of (l := [(0, lb Go.Proofs.Try.f130 0)]) (by kernel_rfl) (.cons (L := ⟨[(0, .ro none (.slice (.slice (.num .i64)))), (1, .ro none (.slice (.num .i64))), (2, .ro none (.slice (.num .i64))), (7, .ro none (.num .i64)), (8, .ro none (.num .i64)), (15, .ro none (.slice (.num .i64))), (16, .ro none (.num .i64)), (17, .ro none (.num .i64))], r_impl_det_L0 c_slices_Clone_int m_slices_Delete_int c_impl_det N⟩) (by kernel_rfl) (by intro s kc ke env; kernel_rfl) .nil)
theorem There130 : There Go.Proofs.Try.prog 130 := ⟨_, Go.Proofs.Try.func130, by kernel_rfl, by kernel_rfl⟩
theorem C130 {c_slices_Clone_int : ((List Int) × Unit → Option (List Int))} {m_slices_Delete_int : ((List Int) → (Int × Int × Unit) → Option ((List Int) × (List Int)))} {c_impl_det : ((List (List Int)) × (List Int) × (List Int) × Unit → Option Int)} (h_c_slices_Clone_int : Contract Go.Proofs.Try.prog 161 ⟨[(.slice int)], (.slice int), c_slices_Clone_int⟩) (h_m_slices_Delete_int : TakeC Go.Proofs.Try.prog 167 ⟨(.slice int), 0, [int, int], some (.slice int), m_slices_Delete_int⟩) (h_c_impl_det : Contract Go.Proofs.Try.prog 130 ⟨[(.slice (.slice int)), (.slice int), (.slice int)], int, c_impl_det⟩) {f : ((List (List Int)) × (List Int) × (List Int) × Unit → Option Int)} (h : ∀ a0 a1 a2 r, f (a0, a1, a2, ()) = some r → ∃ N, r_impl_det c_slices_Clone_int m_slices_Delete_int c_impl_det N a0 a1 a2 = some r) : Contract Go.Proofs.Try.prog 130 ⟨[(.slice (.slice int)), (.slice int), (.slice int)], int, f⟩ := by
  refine contract (E := E130 c_slices_Clone_int m_slices_Delete_int c_impl_det) (envOf table ⟨⟨h_c_slices_Clone_int, There161⟩, ⟨⟨h_c_impl_det, There130⟩, trivial⟩⟩ ⟨⟨h_m_slices_Delete_int, There167⟩, trivial⟩) mixed Go.Proofs.Try.func130 (c := Go.Proofs.Try.f130.body.getD .skip) (by kernel_rfl) (Nat.le_of_ble_eq_true (by kernel_rfl)) fun xs r hr => ?_
  obtain ⟨a0, a1, a2, _⟩ := xs
  obtain ⟨N, hN⟩ := h _ _ _ r hr
  exact ⟨N, A130 c_slices_Clone_int m_slices_Delete_int c_impl_det N, L130 c_slices_Clone_int m_slices_Delete_int c_impl_det N, (K130 c_slices_Clone_int m_slices_Delete_int c_impl_det N a0 a1 a2).trans hN⟩
theorem X130_n : ∀ n, Contract Go.Proofs.Try.prog 130 ⟨[(.slice (.slice int)), (.slice int), (.slice int)], int, e_impl_det_n n⟩
  | 0 => fun xs r vs w h => by simp [e_impl_det_n] at h
  | n + 1 => C130 X161 X167 (X130_n n) fun _ _ _ _ h => ⟨N0, h⟩
theorem X130 : Contract Go.Proofs.Try.prog 130 ⟨[(.slice (.slice int)), (.slice int), (.slice int)], int, e_impl_det⟩ := X130_n N0
-- impl_response
def E154 (c_impl_LaplacianOf : ((Int × Int × Int × List (Int × Int × Int)) × Unit → Option (List (List Int)))) (c_impl_inner : ((Int × Int × Int × List (Int × Int × Int)) × Unit → Option (List Int))) (c_impl_det : ((List (List Int)) × (List Int) × (List Int) × Unit → Option Int)) : Env := ⟨tys, [], [(65, ⟨[net], (.slice (.slice int)), c_impl_LaplacianOf⟩), (180, ⟨[net], (.slice int), c_impl_inner⟩), (130, ⟨[(.slice (.slice int)), (.slice int), (.slice int)], int, c_impl_det⟩)], []⟩
def A154 (c_impl_LaplacianOf : ((Int × Int × Int × List (Int × Int × Int)) × Unit → Option (List (List Int)))) (c_impl_inner : ((Int × Int × Int × List (Int × Int × Int)) × Unit → Option (List Int))) (c_impl_det : ((List (List Int)) × (List Int) × (List Int) × Unit → Option Int)) (N : Nat) : List (Nat × Loop (Ty.den (.tup (.slice (.slice int)) int))) := [(0, ⟨[(1, .box false (.pair (.num .i64) (.pair (.num .i64) (.pair (.num .i64) (.slice (.pair (.num .i64) (.pair (.num .i64) (.num .i64)))))))), (4, .own (.slice (.slice (.num .i64)))), (5, .own (.slice (.num .i64))), (6, .own (.slice (.slice (.num .i64)))), (17, .ro none (.num .i64)), (18, .ro none (.num .i64))], r_impl_response_L0 c_impl_LaplacianOf c_impl_inner c_impl_det N⟩), (2, ⟨[(1, .box false (.pair (.num .i64) (.pair (.num .i64) (.pair (.num .i64) (.slice (.pair (.num .i64) (.pair (.num .i64) (.num .i64)))))))), (4, .own (.slice (.slice (.num .i64)))), (5, .own (.slice (.num .i64))), (6, .own (.slice (.slice (.num .i64)))), (7, .ro none (.num .i64)), (17, .ro none (.num .i64)), (18, .ro none (.num .i64)), (22, .ro none (.num .i64)), (23, .ro none (.num .i64))], r_impl_response_L2 c_impl_LaplacianOf c_impl_inner c_impl_det N⟩)]
theorem K154 (c_impl_LaplacianOf : ((Int × Int × Int × List (Int × Int × Int)) × Unit → Option (List (List Int)))) (c_impl_inner : ((Int × Int × Int × List (Int × Int × Int)) × Unit → Option (List Int))) (c_impl_det : ((List (List Int)) × (List Int) × (List Int) × Unit → Option Int)) (N : Nat) (a0 : (Int × Int × Int × List (Int × Int × Int))) : fnK N (E154 c_impl_LaplacianOf c_impl_inner c_impl_det) Go.Proofs.Try.f154 [net] (.tup (.slice (.slice int)) int) (A154 c_impl_LaplacianOf c_impl_inner c_impl_det N) (a0, ()) = r_impl_response c_impl_LaplacianOf c_impl_inner c_impl_det N a0 := by kernel_rfl
theorem L154 (c_impl_LaplacianOf : ((Int × Int × Int × List (Int × Int × Int)) × Unit → Option (List (List Int)))) (c_impl_inner : ((Int × Int × Int × List (Int × Int × Int)) × Unit → Option (List Int))) (c_impl_det : ((List (List Int)) × (List Int) × (List Int) × Unit → Option Int)) (N : Nat) : LoopsOk N (E154 c_impl_LaplacianOf c_impl_inner c_impl_det) (A154 c_impl_LaplacianOf c_impl_inner c_impl_det N) Go.Proofs.Try.f154.ntmps (retOf (E154 c_impl_LaplacianOf c_impl_inner c_impl_det) Go.Proofs.Try.f154 (.tup (.slice (.slice int)) int)) (loopsOf (Go.Proofs.Try.f154.body.getD .skip)) :=
  LoopsOk.of (l := [(0, lb Go.Proofs.Try.f154 0), (2, lb Go.Proofs.Try.f154 1)]) (by kernel_rfl) (.cons (L := ⟨[(1, .box false (.pair (.num .i64) (.pair (.num .i64) (.pair (.num .i64) (.slice (.pair (.num .i64) (.pair (.num .i64) (.num .i64)))))))), (4, .own (.slice (.slice (.num .i64)))), (5, .own (.slice (.num .i64))), (6, .own (.slice (.slice (.num .i64)))), (17, .ro none (.num .i64)), (18, .ro none (.num .i64))], r_impl_response_L0 c_impl_LaplacianOf c_impl_inner c_impl_det N⟩) (by kernel_rfl) (by intro s kc ke env; kernel_rfl) (.cons (L := ⟨[(1, .box false (.pair (.num .i64) (.pair (.num .i64) (.pair (.num .i64) (.slice (.pair (.num .i64) (.pair (.num .i64) (.num .i64)))))))), (4, .own (.slice (.slice (.num .i64)))), (5, .own (.slice (.num .i64))), (6, .own (.slice (.slice (.num .i64)))), (7, .ro none (.num .i64)), (17, .ro none (.num .i64)), (18, .ro none (.num .i64)), (22, .ro none (.num .i64)), (23, .ro none (.num .i64))], r_impl_response_L2 c_impl_LaplacianOf c_impl_inner c_impl_det N⟩) (by kernel_rfl) (by intro s kc ke env; kernel_rfl) .nil))
theorem There154 : There Go.Proofs.Try.prog 154 := ⟨_, Go.Proofs.Try.func154, by kernel_rfl, by kernel_rfl⟩
theorem C154 {c_impl_LaplacianOf : ((Int × Int × Int × List (Int × Int × Int)) × Unit → Option (List (List Int)))} {c_impl_inner : ((Int × Int × Int × List (Int × Int × Int)) × Unit → Option (List Int))} {c_impl_det : ((List (List Int)) × (List Int) × (List Int) × Unit → Option Int)} (h_c_impl_LaplacianOf : Contract Go.Proofs.Try.prog 65 ⟨[net], (.slice (.slice int)), c_impl_LaplacianOf⟩) (h_c_impl_inner : Contract Go.Proofs.Try.prog 180 ⟨[net], (.slice int), c_impl_inner⟩) (h_c_impl_det : Contract Go.Proofs.Try.prog 130 ⟨[(.slice (.slice int)), (.slice int), (.slice int)], int, c_impl_det⟩) {f : ((Int × Int × Int × List (Int × Int × Int)) × Unit → Option ((List (List Int)) × Int))} (h : ∀ a0 r, f (a0, ()) = some r → ∃ N, r_impl_response c_impl_LaplacianOf c_impl_inner c_impl_det N a0 = some r) : Contract Go.Proofs.Try.prog 154 ⟨[net], (.tup (.slice (.slice int)) int), f⟩ := by
  refine contract (E := E154 c_impl_LaplacianOf c_impl_inner c_impl_det) (envOf table ⟨⟨h_c_impl_LaplacianOf, There65⟩, ⟨⟨h_c_impl_inner, There180⟩, ⟨⟨h_c_impl_det, There130⟩, trivial⟩⟩⟩ trivial) mixed Go.Proofs.Try.func154 (c := Go.Proofs.Try.f154.body.getD .skip) (by kernel_rfl) (Nat.le_of_ble_eq_true (by kernel_rfl)) fun xs r hr => ?_
  obtain ⟨a0, _⟩ := xs
  obtain ⟨N, hN⟩ := h _ r hr
  exact ⟨N, A154 c_impl_LaplacianOf c_impl_inner c_impl_det N, L154 c_impl_LaplacianOf c_impl_inner c_impl_det N, (K154 c_impl_LaplacianOf c_impl_inner c_impl_det N a0).trans hN⟩
theorem X154 : Contract Go.Proofs.Try.prog 154 ⟨[net], (.tup (.slice (.slice int)) int), e_impl_response⟩ := C154 X65 X180 X130 fun _ _ h => ⟨N0, h⟩
-- impl_RatioOf
def E77 (c_impl_size : (Int × Unit → Option Int)) (c_impl_common : (Int × Int × Unit → Option Int)) : Env := ⟨tys, [], [(139, ⟨[int], (.num .u64), c_impl_size⟩), (138, ⟨[(.num .u64), (.num .u64)], (.num .u64), c_impl_common⟩)], []⟩
def A77 (_c_impl_size : (Int × Unit → Option Int)) (_c_impl_common : (Int × Int × Unit → Option Int)) (_N : Nat) : List (Nat × Loop (Ty.den ratio)) := []
theorem K77 (c_impl_size : (Int × Unit → Option Int)) (c_impl_common : (Int × Int × Unit → Option Int)) (N : Nat) (a0 : Int) (a1 : Int) : fnK N (E77 c_impl_size c_impl_common) Go.Proofs.Try.f77 [int, int] ratio (A77 c_impl_size c_impl_common N) (a0, a1, ()) = r_impl_RatioOf c_impl_size c_impl_common N a0 a1 := by kernel_rfl
theorem L77 (c_impl_size : (Int × Unit → Option Int)) (c_impl_common : (Int × Int × Unit → Option Int)) (N : Nat) : LoopsOk N (E77 c_impl_size c_impl_common) (A77 c_impl_size c_impl_common N) Go.Proofs.Try.f77.ntmps (retOf (E77 c_impl_size c_impl_common) Go.Proofs.Try.f77 ratio) (loopsOf (Go.Proofs.Try.f77.body.getD .skip)) :=
  LoopsOk.of (l := []) (by kernel_rfl) .nil
theorem There77 : There Go.Proofs.Try.prog 77 := ⟨_, Go.Proofs.Try.func77, by kernel_rfl, by kernel_rfl⟩
theorem C77 {c_impl_size : (Int × Unit → Option Int)} {c_impl_common : (Int × Int × Unit → Option Int)} (h_c_impl_size : Contract Go.Proofs.Try.prog 139 ⟨[int], (.num .u64), c_impl_size⟩) (h_c_impl_common : Contract Go.Proofs.Try.prog 138 ⟨[(.num .u64), (.num .u64)], (.num .u64), c_impl_common⟩) {f : (Int × Int × Unit → Option (Int × Int))} (h : ∀ a0 a1 r, f (a0, a1, ()) = some r → ∃ N, r_impl_RatioOf c_impl_size c_impl_common N a0 a1 = some r) : Contract Go.Proofs.Try.prog 77 ⟨[int, int], ratio, f⟩ := by
  refine contract (E := E77 c_impl_size c_impl_common) (envOf table ⟨⟨h_c_impl_size, There139⟩, ⟨⟨h_c_impl_common, There138⟩, trivial⟩⟩ trivial) mixed Go.Proofs.Try.func77 (c := Go.Proofs.Try.f77.body.getD .skip) (by kernel_rfl) (Nat.le_of_ble_eq_true (by kernel_rfl)) fun xs r hr => ?_
  obtain ⟨a0, a1, _⟩ := xs
  obtain ⟨N, hN⟩ := h _ _ r hr
  exact ⟨N, A77 c_impl_size c_impl_common N, L77 c_impl_size c_impl_common N, (K77 c_impl_size c_impl_common N a0 a1).trans hN⟩
theorem X77 : Contract Go.Proofs.Try.prog 77 ⟨[int, int], ratio, e_impl_RatioOf⟩ := C77 X139 X138 fun _ _ _ h => ⟨N0, h⟩
-- impl_ResponseOf
def E105 (c_impl_NetOk : ((Int × Int × Int × List (Int × Int × Int)) × Unit → Option Bool)) (c_impl_response : ((Int × Int × Int × List (Int × Int × Int)) × Unit → Option ((List (List Int)) × Int))) (c_impl_RatioOf : (Int × Int × Unit → Option (Int × Int))) : Env := ⟨tys, [], [(75, ⟨[net], .bool, c_impl_NetOk⟩), (154, ⟨[net], (.tup (.slice (.slice int)) int), c_impl_response⟩), (77, ⟨[int, int], ratio, c_impl_RatioOf⟩)], []⟩
def A105 (c_impl_NetOk : ((Int × Int × Int × List (Int × Int × Int)) × Unit → Option Bool)) (c_impl_response : ((Int × Int × Int × List (Int × Int × Int)) × Unit → Option ((List (List Int)) × Int))) (c_impl_RatioOf : (Int × Int × Unit → Option (Int × Int))) (N : Nat) : List (Nat × Loop (Ty.den (.tup (.slice (.slice ratio)) .bool))) := [(0, ⟨[(4, .own (.slice (.slice (.num .i64)))), (5, .ro none (.num .i64)), (6, .own (.slice (.slice (.pair (.num .i64) (.num .i64))))), (22, .ro none (.num .i64)), (23, .ro none (.num .i64))], r_impl_ResponseOf_L0 c_impl_NetOk c_impl_response c_impl_RatioOf N⟩), (2, ⟨[(4, .own (.slice (.slice (.num .i64)))), (5, .ro none (.num .i64)), (6, .own (.slice (.slice (.pair (.num .i64) (.num .i64))))), (7, .ro none (.num .i64)), (22, .ro none (.num .i64)), (23, .ro none (.num .i64)), (29, .ro (some 4) (.slice (.num .i64))), (30, .ro none (.num .i64)), (31, .ro none (.num .i64))], r_impl_ResponseOf_L2 c_impl_NetOk c_impl_response c_impl_RatioOf N⟩)]
theorem K105 (c_impl_NetOk : ((Int × Int × Int × List (Int × Int × Int)) × Unit → Option Bool)) (c_impl_response : ((Int × Int × Int × List (Int × Int × Int)) × Unit → Option ((List (List Int)) × Int))) (c_impl_RatioOf : (Int × Int × Unit → Option (Int × Int))) (N : Nat) (a0 : (Int × Int × Int × List (Int × Int × Int))) : fnK N (E105 c_impl_NetOk c_impl_response c_impl_RatioOf) Go.Proofs.Try.f105 [net] (.tup (.slice (.slice ratio)) .bool) (A105 c_impl_NetOk c_impl_response c_impl_RatioOf N) (a0, ()) = r_impl_ResponseOf c_impl_NetOk c_impl_response c_impl_RatioOf N a0 := by kernel_rfl
theorem L105 (c_impl_NetOk : ((Int × Int × Int × List (Int × Int × Int)) × Unit → Option Bool)) (c_impl_response : ((Int × Int × Int × List (Int × Int × Int)) × Unit → Option ((List (List Int)) × Int))) (c_impl_RatioOf : (Int × Int × Unit → Option (Int × Int))) (N : Nat) : LoopsOk N (E105 c_impl_NetOk c_impl_response c_impl_RatioOf) (A105 c_impl_NetOk c_impl_response c_impl_RatioOf N) Go.Proofs.Try.f105.ntmps (retOf (E105 c_impl_NetOk c_impl_response c_impl_RatioOf) Go.Proofs.Try.f105 (.tup (.slice (.slice ratio)) .bool)) (loopsOf (Go.Proofs.Try.f105.body.getD .skip)) :=
  LoopsOk.of (l := [(0, lb Go.Proofs.Try.f105 0), (2, lb Go.Proofs.Try.f105 1)]) (by kernel_rfl) (.cons (L := ⟨[(4, .own (.slice (.slice (.num .i64)))), (5, .ro none (.num .i64)), (6, .own (.slice (.slice (.pair (.num .i64) (.num .i64))))), (22, .ro none (.num .i64)), (23, .ro none (.num .i64))], r_impl_ResponseOf_L0 c_impl_NetOk c_impl_response c_impl_RatioOf N⟩) (by kernel_rfl) (by intro s kc ke env; kernel_rfl) (.cons (L := ⟨[(4, .own (.slice (.slice (.num .i64)))), (5, .ro none (.num .i64)), (6, .own (.slice (.slice (.pair (.num .i64) (.num .i64))))), (7, .ro none (.num .i64)), (22, .ro none (.num .i64)), (23, .ro none (.num .i64)), (29, .ro (some 4) (.slice (.num .i64))), (30, .ro none (.num .i64)), (31, .ro none (.num .i64))], r_impl_ResponseOf_L2 c_impl_NetOk c_impl_response c_impl_RatioOf N⟩) (by kernel_rfl) (by intro s kc ke env; kernel_rfl) .nil))
theorem There105 : There Go.Proofs.Try.prog 105 := ⟨_, Go.Proofs.Try.func105, by kernel_rfl, by kernel_rfl⟩
theorem C105 {c_impl_NetOk : ((Int × Int × Int × List (Int × Int × Int)) × Unit → Option Bool)} {c_impl_response : ((Int × Int × Int × List (Int × Int × Int)) × Unit → Option ((List (List Int)) × Int))} {c_impl_RatioOf : (Int × Int × Unit → Option (Int × Int))} (h_c_impl_NetOk : Contract Go.Proofs.Try.prog 75 ⟨[net], .bool, c_impl_NetOk⟩) (h_c_impl_response : Contract Go.Proofs.Try.prog 154 ⟨[net], (.tup (.slice (.slice int)) int), c_impl_response⟩) (h_c_impl_RatioOf : Contract Go.Proofs.Try.prog 77 ⟨[int, int], ratio, c_impl_RatioOf⟩) {f : ((Int × Int × Int × List (Int × Int × Int)) × Unit → Option ((List (List (Int × Int))) × Bool))} (h : ∀ a0 r, f (a0, ()) = some r → ∃ N, r_impl_ResponseOf c_impl_NetOk c_impl_response c_impl_RatioOf N a0 = some r) : Contract Go.Proofs.Try.prog 105 ⟨[net], (.tup (.slice (.slice ratio)) .bool), f⟩ := by
  refine contract (E := E105 c_impl_NetOk c_impl_response c_impl_RatioOf) (envOf table ⟨⟨h_c_impl_NetOk, There75⟩, ⟨⟨h_c_impl_response, There154⟩, ⟨⟨h_c_impl_RatioOf, There77⟩, trivial⟩⟩⟩ trivial) mixed Go.Proofs.Try.func105 (c := Go.Proofs.Try.f105.body.getD .skip) (by kernel_rfl) (Nat.le_of_ble_eq_true (by kernel_rfl)) fun xs r hr => ?_
  obtain ⟨a0, _⟩ := xs
  obtain ⟨N, hN⟩ := h _ r hr
  exact ⟨N, A105 c_impl_NetOk c_impl_response c_impl_RatioOf N, L105 c_impl_NetOk c_impl_response c_impl_RatioOf N, (K105 c_impl_NetOk c_impl_response c_impl_RatioOf N a0).trans hN⟩
theorem X105 : Contract Go.Proofs.Try.prog 105 ⟨[net], (.tup (.slice (.slice ratio)) .bool), e_impl_ResponseOf⟩ := C105 X75 X154 X77 fun _ _ h => ⟨N0, h⟩
-- impl_after
def E101 (c_impl_ApplyFault : ((Int × Int × Int × List (Int × Int × Int)) × (Int × Int) × Unit → Option ((Int × Int × Int × List (Int × Int × Int)) × Bool))) (c_impl_ResponseOf : ((Int × Int × Int × List (Int × Int × Int)) × Unit → Option ((List (List (Int × Int))) × Bool))) : Env := ⟨tys, [], [(106, ⟨[net, fault], (.tup net .bool), c_impl_ApplyFault⟩), (105, ⟨[net], (.tup (.slice (.slice ratio)) .bool), c_impl_ResponseOf⟩)], []⟩
def A101 (_c_impl_ApplyFault : ((Int × Int × Int × List (Int × Int × Int)) × (Int × Int) × Unit → Option ((Int × Int × Int × List (Int × Int × Int)) × Bool))) (_c_impl_ResponseOf : ((Int × Int × Int × List (Int × Int × Int)) × Unit → Option ((List (List (Int × Int))) × Bool))) (_N : Nat) : List (Nat × Loop (Ty.den (.slice (.slice ratio)))) := []
theorem K101 (c_impl_ApplyFault : ((Int × Int × Int × List (Int × Int × Int)) × (Int × Int) × Unit → Option ((Int × Int × Int × List (Int × Int × Int)) × Bool))) (c_impl_ResponseOf : ((Int × Int × Int × List (Int × Int × Int)) × Unit → Option ((List (List (Int × Int))) × Bool))) (N : Nat) (a0 : (Int × Int × Int × List (Int × Int × Int))) (a1 : (Int × Int)) : fnK N (E101 c_impl_ApplyFault c_impl_ResponseOf) Go.Proofs.Try.f101 [net, fault] (.slice (.slice ratio)) (A101 c_impl_ApplyFault c_impl_ResponseOf N) (a0, a1, ()) = r_impl_after c_impl_ApplyFault c_impl_ResponseOf N a0 a1 := by kernel_rfl
theorem L101 (c_impl_ApplyFault : ((Int × Int × Int × List (Int × Int × Int)) × (Int × Int) × Unit → Option ((Int × Int × Int × List (Int × Int × Int)) × Bool))) (c_impl_ResponseOf : ((Int × Int × Int × List (Int × Int × Int)) × Unit → Option ((List (List (Int × Int))) × Bool))) (N : Nat) : LoopsOk N (E101 c_impl_ApplyFault c_impl_ResponseOf) (A101 c_impl_ApplyFault c_impl_ResponseOf N) Go.Proofs.Try.f101.ntmps (retOf (E101 c_impl_ApplyFault c_impl_ResponseOf) Go.Proofs.Try.f101 (.slice (.slice ratio))) (loopsOf (Go.Proofs.Try.f101.body.getD .skip)) :=
  LoopsOk.of (l := []) (by kernel_rfl) .nil
theorem There101 : There Go.Proofs.Try.prog 101 := ⟨_, Go.Proofs.Try.func101, by kernel_rfl, by kernel_rfl⟩
theorem C101 {c_impl_ApplyFault : ((Int × Int × Int × List (Int × Int × Int)) × (Int × Int) × Unit → Option ((Int × Int × Int × List (Int × Int × Int)) × Bool))} {c_impl_ResponseOf : ((Int × Int × Int × List (Int × Int × Int)) × Unit → Option ((List (List (Int × Int))) × Bool))} (h_c_impl_ApplyFault : Contract Go.Proofs.Try.prog 106 ⟨[net, fault], (.tup net .bool), c_impl_ApplyFault⟩) (h_c_impl_ResponseOf : Contract Go.Proofs.Try.prog 105 ⟨[net], (.tup (.slice (.slice ratio)) .bool), c_impl_ResponseOf⟩) {f : ((Int × Int × Int × List (Int × Int × Int)) × (Int × Int) × Unit → Option (List (List (Int × Int))))} (h : ∀ a0 a1 r, f (a0, a1, ()) = some r → ∃ N, r_impl_after c_impl_ApplyFault c_impl_ResponseOf N a0 a1 = some r) : Contract Go.Proofs.Try.prog 101 ⟨[net, fault], (.slice (.slice ratio)), f⟩ := by
  refine contract (E := E101 c_impl_ApplyFault c_impl_ResponseOf) (envOf table ⟨⟨h_c_impl_ApplyFault, There106⟩, ⟨⟨h_c_impl_ResponseOf, There105⟩, trivial⟩⟩ trivial) mixed Go.Proofs.Try.func101 (c := Go.Proofs.Try.f101.body.getD .skip) (by kernel_rfl) (Nat.le_of_ble_eq_true (by kernel_rfl)) fun xs r hr => ?_
  obtain ⟨a0, a1, _⟩ := xs
  obtain ⟨N, hN⟩ := h _ _ r hr
  exact ⟨N, A101 c_impl_ApplyFault c_impl_ResponseOf N, L101 c_impl_ApplyFault c_impl_ResponseOf N, (K101 c_impl_ApplyFault c_impl_ResponseOf N a0 a1).trans hN⟩
theorem X101 : Contract Go.Proofs.Try.prog 101 ⟨[net, fault], (.slice (.slice ratio)), e_impl_after⟩ := C101 X106 X105 fun _ _ _ h => ⟨N0, h⟩
-- slices_Equal_impl_Ratio
def E153 : Env := ⟨tys, [], [], []⟩
def A153 (N : Nat) : List (Nat × Loop (Ty.den .bool)) := [(0, ⟨[(0, .ro none (.slice (.pair (.num .i64) (.num .i64)))), (1, .ro none (.slice (.pair (.num .i64) (.num .i64)))), (12, .ro none (.num .i64)), (13, .ro none (.num .i64))], r_slices_Equal_impl_Ratio_L0 N⟩)]
theorem K153 (N : Nat) (a0 : (List (Int × Int))) (a1 : (List (Int × Int))) : fnK N (E153) Go.Proofs.Try.f153 [(.slice ratio), (.slice ratio)] .bool (A153 N) (a0, a1, ()) = r_slices_Equal_impl_Ratio N a0 a1 := by kernel_rfl
theorem L153 (N : Nat) : LoopsOk N (E153) (A153 N) Go.Proofs.Try.f153.ntmps (retOf (E153) Go.Proofs.Try.f153 .bool) (loopsOf (Go.Proofs.Try.f153.body.getD .skip)) :=
  LoopsOk.of (l := [(0, lb Go.Proofs.Try.f153 0)]) (by kernel_rfl) (.cons (L := ⟨[(0, .ro none (.slice (.pair (.num .i64) (.num .i64)))), (1, .ro none (.slice (.pair (.num .i64) (.num .i64)))), (12, .ro none (.num .i64)), (13, .ro none (.num .i64))], r_slices_Equal_impl_Ratio_L0 N⟩) (by kernel_rfl) (by intro s kc ke env; kernel_rfl) .nil)
theorem There153 : There Go.Proofs.Try.prog 153 := ⟨_, Go.Proofs.Try.func153, by kernel_rfl, by kernel_rfl⟩
theorem C153 {f : ((List (Int × Int)) × (List (Int × Int)) × Unit → Option Bool)} (h : ∀ a0 a1 r, f (a0, a1, ()) = some r → ∃ N, r_slices_Equal_impl_Ratio N a0 a1 = some r) : Contract Go.Proofs.Try.prog 153 ⟨[(.slice ratio), (.slice ratio)], .bool, f⟩ := by
  refine contract (E := E153) (envOf table trivial trivial) mixed Go.Proofs.Try.func153 (c := Go.Proofs.Try.f153.body.getD .skip) (by kernel_rfl) (Nat.le_of_ble_eq_true (by kernel_rfl)) fun xs r hr => ?_
  obtain ⟨a0, a1, _⟩ := xs
  obtain ⟨N, hN⟩ := h _ _ r hr
  exact ⟨N, A153 N, L153 N, (K153 N a0 a1).trans hN⟩
theorem X153 : Contract Go.Proofs.Try.prog 153 ⟨[(.slice ratio), (.slice ratio)], .bool, e_slices_Equal_impl_Ratio⟩ := C153 fun _ _ _ h => ⟨N0, h⟩
-- impl_SameResponse_1
def E152 (c_slices_Equal_impl_Ratio : ((List (Int × Int)) × (List (Int × Int)) × Unit → Option Bool)) : Env := ⟨tys, [], [(153, ⟨[(.slice ratio), (.slice ratio)], .bool, c_slices_Equal_impl_Ratio⟩)], []⟩
def A152 (_c_slices_Equal_impl_Ratio : ((List (Int × Int)) × (List (Int × Int)) × Unit → Option Bool)) (_N : Nat) : List (Nat × Loop (Ty.den .bool)) := []
theorem K152 (c_slices_Equal_impl_Ratio : ((List (Int × Int)) × (List (Int × Int)) × Unit → Option Bool)) (N : Nat) (a0 : (List (Int × Int))) (a1 : (List (Int × Int))) : fnK N (E152 c_slices_Equal_impl_Ratio) Go.Proofs.Try.f152 [(.slice ratio), (.slice ratio)] .bool (A152 c_slices_Equal_impl_Ratio N) (a0, a1, ()) = r_impl_SameResponse_1 c_slices_Equal_impl_Ratio N a0 a1 := by kernel_rfl
theorem L152 (c_slices_Equal_impl_Ratio : ((List (Int × Int)) × (List (Int × Int)) × Unit → Option Bool)) (N : Nat) : LoopsOk N (E152 c_slices_Equal_impl_Ratio) (A152 c_slices_Equal_impl_Ratio N) Go.Proofs.Try.f152.ntmps (retOf (E152 c_slices_Equal_impl_Ratio) Go.Proofs.Try.f152 .bool) (loopsOf (Go.Proofs.Try.f152.body.getD .skip)) :=
  LoopsOk.of (l := []) (by kernel_rfl) .nil
theorem There152 : There Go.Proofs.Try.prog 152 := ⟨_, Go.Proofs.Try.func152, by kernel_rfl, by kernel_rfl⟩
theorem C152 {c_slices_Equal_impl_Ratio : ((List (Int × Int)) × (List (Int × Int)) × Unit → Option Bool)} (h_c_slices_Equal_impl_Ratio : Contract Go.Proofs.Try.prog 153 ⟨[(.slice ratio), (.slice ratio)], .bool, c_slices_Equal_impl_Ratio⟩) {f : ((List (Int × Int)) × (List (Int × Int)) × Unit → Option Bool)} (h : ∀ a0 a1 r, f (a0, a1, ()) = some r → ∃ N, r_impl_SameResponse_1 c_slices_Equal_impl_Ratio N a0 a1 = some r) : Contract Go.Proofs.Try.prog 152 ⟨[(.slice ratio), (.slice ratio)], .bool, f⟩ := by
  refine contract (E := E152 c_slices_Equal_impl_Ratio) (envOf table ⟨⟨h_c_slices_Equal_impl_Ratio, There153⟩, trivial⟩ trivial) mixed Go.Proofs.Try.func152 (c := Go.Proofs.Try.f152.body.getD .skip) (by kernel_rfl) (Nat.le_of_ble_eq_true (by kernel_rfl)) fun xs r hr => ?_
  obtain ⟨a0, a1, _⟩ := xs
  obtain ⟨N, hN⟩ := h _ _ r hr
  exact ⟨N, A152 c_slices_Equal_impl_Ratio N, L152 c_slices_Equal_impl_Ratio N, (K152 c_slices_Equal_impl_Ratio N a0 a1).trans hN⟩
theorem X152 : Contract Go.Proofs.Try.prog 152 ⟨[(.slice ratio), (.slice ratio)], .bool, e_impl_SameResponse_1⟩ := C152 X153 fun _ _ _ h => ⟨N0, h⟩
-- slices_EqualFunc_Simpl_Ratio
def E151 (c_impl_SameResponse_1 : ((List (Int × Int)) × (List (Int × Int)) × Unit → Option Bool)) : Env := ⟨tys, [], [(152, ⟨[(.slice ratio), (.slice ratio)], .bool, c_impl_SameResponse_1⟩)], []⟩
def A151 (c_impl_SameResponse_1 : ((List (Int × Int)) × (List (Int × Int)) × Unit → Option Bool)) (N : Nat) : List (Nat × Loop (Ty.den .bool)) := [(0, ⟨[(1, .ro none (.slice (.slice (.pair (.num .i64) (.num .i64))))), (2, .ro none (.fn 152)), (15, .ro none (.slice (.slice (.pair (.num .i64) (.num .i64))))), (16, .ro none (.num .i64)), (17, .ro none (.num .i64))], r_slices_EqualFunc_Simpl_Ratio_L0 c_impl_SameResponse_1 N⟩)]
theorem K151 (c_impl_SameResponse_1 : ((List (Int × Int)) × (List (Int × Int)) × Unit → Option Bool)) (N : Nat) (a0 : (List (List (Int × Int)))) (a1 : (List (List (Int × Int)))) (a2 : Unit) : fnK N (E151 c_impl_SameResponse_1) Go.Proofs.Try.f151 [(.slice (.slice ratio)), (.slice (.slice ratio)), (.fn 152)] .bool (A151 c_impl_SameResponse_1 N) (a0, a1, a2, ()) = r_slices_EqualFunc_Simpl_Ratio c_impl_SameResponse_1 N a0 a1 a2 := by kernel_rfl
theorem L151 (c_impl_SameResponse_1 : ((List (Int × Int)) × (List (Int × Int)) × Unit → Option Bool)) (N : Nat) : LoopsOk N (E151 c_impl_SameResponse_1) (A151 c_impl_SameResponse_1 N) Go.Proofs.Try.f151.ntmps (retOf (E151 c_impl_SameResponse_1) Go.Proofs.Try.f151 .bool) (loopsOf (Go.Proofs.Try.f151.body.getD .skip)) :=
  LoopsOk.of (l := [(0, lb Go.Proofs.Try.f151 0)]) (by kernel_rfl) (.cons (L := ⟨[(1, .ro none (.slice (.slice (.pair (.num .i64) (.num .i64))))), (2, .ro none (.fn 152)), (15, .ro none (.slice (.slice (.pair (.num .i64) (.num .i64))))), (16, .ro none (.num .i64)), (17, .ro none (.num .i64))], r_slices_EqualFunc_Simpl_Ratio_L0 c_impl_SameResponse_1 N⟩) (by kernel_rfl) (by intro s kc ke env; kernel_rfl) .nil)
theorem There151 : There Go.Proofs.Try.prog 151 := ⟨_, Go.Proofs.Try.func151, by kernel_rfl, by kernel_rfl⟩
theorem C151 {c_impl_SameResponse_1 : ((List (Int × Int)) × (List (Int × Int)) × Unit → Option Bool)} (h_c_impl_SameResponse_1 : Contract Go.Proofs.Try.prog 152 ⟨[(.slice ratio), (.slice ratio)], .bool, c_impl_SameResponse_1⟩) {f : ((List (List (Int × Int))) × (List (List (Int × Int))) × Unit × Unit → Option Bool)} (h : ∀ a0 a1 a2 r, f (a0, a1, a2, ()) = some r → ∃ N, r_slices_EqualFunc_Simpl_Ratio c_impl_SameResponse_1 N a0 a1 a2 = some r) : Contract Go.Proofs.Try.prog 151 ⟨[(.slice (.slice ratio)), (.slice (.slice ratio)), (.fn 152)], .bool, f⟩ := by
  refine contract (E := E151 c_impl_SameResponse_1) (envOf table ⟨⟨h_c_impl_SameResponse_1, There152⟩, trivial⟩ trivial) mixed Go.Proofs.Try.func151 (c := Go.Proofs.Try.f151.body.getD .skip) (by kernel_rfl) (Nat.le_of_ble_eq_true (by kernel_rfl)) fun xs r hr => ?_
  obtain ⟨a0, a1, a2, _⟩ := xs
  obtain ⟨N, hN⟩ := h _ _ _ r hr
  exact ⟨N, A151 c_impl_SameResponse_1 N, L151 c_impl_SameResponse_1 N, (K151 c_impl_SameResponse_1 N a0 a1 a2).trans hN⟩
theorem X151 : Contract Go.Proofs.Try.prog 151 ⟨[(.slice (.slice ratio)), (.slice (.slice ratio)), (.fn 152)], .bool, e_slices_EqualFunc_Simpl_Ratio⟩ := C151 X152 fun _ _ _ _ h => ⟨N0, h⟩
-- impl_SameResponse
def E100 (c_slices_EqualFunc_Simpl_Ratio : ((List (List (Int × Int))) × (List (List (Int × Int))) × Unit × Unit → Option Bool)) : Env := ⟨tys, [], [(151, ⟨[(.slice (.slice ratio)), (.slice (.slice ratio)), (.fn 152)], .bool, c_slices_EqualFunc_Simpl_Ratio⟩)], []⟩
def A100 (_c_slices_EqualFunc_Simpl_Ratio : ((List (List (Int × Int))) × (List (List (Int × Int))) × Unit × Unit → Option Bool)) (_N : Nat) : List (Nat × Loop (Ty.den .bool)) := []
theorem K100 (c_slices_EqualFunc_Simpl_Ratio : ((List (List (Int × Int))) × (List (List (Int × Int))) × Unit × Unit → Option Bool)) (N : Nat) (a0 : (List (List (Int × Int)))) (a1 : (List (List (Int × Int)))) : fnK N (E100 c_slices_EqualFunc_Simpl_Ratio) Go.Proofs.Try.f100 [(.slice (.slice ratio)), (.slice (.slice ratio))] .bool (A100 c_slices_EqualFunc_Simpl_Ratio N) (a0, a1, ()) = r_impl_SameResponse c_slices_EqualFunc_Simpl_Ratio N a0 a1 := by kernel_rfl
theorem L100 (c_slices_EqualFunc_Simpl_Ratio : ((List (List (Int × Int))) × (List (List (Int × Int))) × Unit × Unit → Option Bool)) (N : Nat) : LoopsOk N (E100 c_slices_EqualFunc_Simpl_Ratio) (A100 c_slices_EqualFunc_Simpl_Ratio N) Go.Proofs.Try.f100.ntmps (retOf (E100 c_slices_EqualFunc_Simpl_Ratio) Go.Proofs.Try.f100 .bool) (loopsOf (Go.Proofs.Try.f100.body.getD .skip)) :=
  LoopsOk.of (l := []) (by kernel_rfl) .nil
theorem There100 : There Go.Proofs.Try.prog 100 := ⟨_, Go.Proofs.Try.func100, by kernel_rfl, by kernel_rfl⟩
theorem C100 {c_slices_EqualFunc_Simpl_Ratio : ((List (List (Int × Int))) × (List (List (Int × Int))) × Unit × Unit → Option Bool)} (h_c_slices_EqualFunc_Simpl_Ratio : Contract Go.Proofs.Try.prog 151 ⟨[(.slice (.slice ratio)), (.slice (.slice ratio)), (.fn 152)], .bool, c_slices_EqualFunc_Simpl_Ratio⟩) {f : ((List (List (Int × Int))) × (List (List (Int × Int))) × Unit → Option Bool)} (h : ∀ a0 a1 r, f (a0, a1, ()) = some r → ∃ N, r_impl_SameResponse c_slices_EqualFunc_Simpl_Ratio N a0 a1 = some r) : Contract Go.Proofs.Try.prog 100 ⟨[(.slice (.slice ratio)), (.slice (.slice ratio))], .bool, f⟩ := by
  refine contract (E := E100 c_slices_EqualFunc_Simpl_Ratio) (envOf table ⟨⟨h_c_slices_EqualFunc_Simpl_Ratio, There151⟩, trivial⟩ trivial) mixed Go.Proofs.Try.func100 (c := Go.Proofs.Try.f100.body.getD .skip) (by kernel_rfl) (Nat.le_of_ble_eq_true (by kernel_rfl)) fun xs r hr => ?_
  obtain ⟨a0, a1, _⟩ := xs
  obtain ⟨N, hN⟩ := h _ _ r hr
  exact ⟨N, A100 c_slices_EqualFunc_Simpl_Ratio N, L100 c_slices_EqualFunc_Simpl_Ratio N, (K100 c_slices_EqualFunc_Simpl_Ratio N a0 a1).trans hN⟩
theorem X100 : Contract Go.Proofs.Try.prog 100 ⟨[(.slice (.slice ratio)), (.slice (.slice ratio))], .bool, e_impl_SameResponse⟩ := C100 X151 fun _ _ _ h => ⟨N0, h⟩
-- impl_FaultsLike
theorem There32 : There Go.Proofs.Try.prog 32 := ⟨_, Go.Proofs.Try.func32, by kernel_rfl, by kernel_rfl⟩
open Go.Proofs Go.RowKit
theorem enters99 : ∀ args w, (callFunc 99 args).run Go.Proofs.Try.prog w = .ok (.enter 99 args) w := enters_of Go.Proofs.Try.func99 (by kernel_rfl) rfl
set_option maxHeartbeats 2000000 in
theorem indexF (p : Int × Int → Bool) (lb : Array Value) (b off n c : Nat) (zs : List (Int × Int)) (w : World)
    (hp : ∀ (W : World) (x : Int × Int), x ∈ zs → Grow w W → Calls Go.Proofs.Try.prog 99 (#[.agg #[.int .i64 x.1, .int .i64 x.2]] ++ lb) W fun e w' => e = .returned (.bool (p x)) ∧ Grow w w') (hz : n ≤ zs.length) (hbig : n ≤ 9223372036854775807) (hb : b < w.heap.size)
    (hc : ∀ j, j < zs.length → w.cell? ⟨b, off + j * 2, none⟩ = some (.int .i64 zs[j]!.1) ∧ w.cell? ⟨b, off + j * 2 + 1, none⟩ = some (.int .i64 zs[j]!.2)) :
    Calls Go.Proofs.Try.prog 150 #[.slice (some ⟨b, off, none⟩) n c, .func (.func 99) #[] lb] w fun e w' => (∃ m : Int, e = .returned (.int .i64 m) ∧ ((m = -1 ∧ ∀ j, j < n → p zs[j]! = false) ∨ ∃ k : Nat, m = k ∧ k < n ∧ p zs[k]! = true ∧ ∀ j, j < k → p zs[j]! = false)) ∧ Grow w w' := by
  have eg := enters99
  have hrow : ∀ (W : World), Grow w W → ∀ j, j < zs.length → W.cell? ⟨b, off + j * 2, none⟩ = some (.int .i64 zs[j]!.1) ∧ W.cell? ⟨b, off + j * 2 + 1, none⟩ = some (.int .i64 zs[j]!.2) := fun W hW j hj => by
    have := hc j hj
    simp only [World.cell?, hW.same b hb]
    simpa only [World.cell?] using this
  clear hc
  go_enter Go.Proofs.Try.func150, Go.Proofs.Try.ntmps150
  go_wp2
  go_loopg [5, 8] n (fun gg _ s8 wr => ∃ kk : Nat, kk ≤ n ∧ n - kk ≤ gg ∧ s8 = .int .i64 kk ∧ Aside (Grow w wr) ∧ Aside (∀ j, j < kk → p zs[j]! = false))
  case atStart => exact ⟨0, Nat.zero_le _, by omega, rfl, Grow.refl w, fun j hj => absurd hj (Nat.not_lt_zero _)⟩
  case round =>
    obtain ⟨kk, hkk, hg, rfl, BW, A⟩ := hrel
    by_cases hlt : kk < n
    · have hltz : (kk : Int) < (n : Int) := by omega
      obtain ⟨l1, l2⟩ := hrow wr BW.out kk (by omega)
      have hcall := hp wr zs[kk]! (by rw [getElem!_pos zs kk (by omega)]; exact List.getElem_mem _) BW.out
      clear hrow hp
      generalize hy : zs[kk]! = y at l1 l2 hcall
      have B : Aside (zs[kk]! = y) := hy
      clear hy
      cases hq : p y with
      | true =>
        rw [hq] at hcall
        go_wp2_with (go_at_fn 99; refine hcall.mono ?_; rintro e w' ⟨rfl, hb'⟩)
        go_ret
        exact ⟨⟨kk, rfl, .inr ⟨kk, rfl, hlt, by rw [B.out]; exact hq, A.out⟩⟩, hb'⟩
      | false =>
        rw [hq] at hcall
        go_wp2_with (go_at_fn 99; refine hcall.mono ?_; rintro e w' ⟨rfl, hb'⟩)
        go_roundg (n - (kk + 1))
        case measure => omega
        case rel =>
          refine ⟨kk + 1, by omega, by omega, by go_num, hb', (show Aside _ from fun j hj => ?_)⟩
          by_cases e : j = kk
          · subst e
            rw [B.out]; exact hq
          · exact A.out j (by omega)
    · have hltz : ¬ (kk : Int) < (n : Int) := by omega
      have : kk = n := by omega
      subst this
      go_wp2
      go_ret
      exact ⟨⟨-1, rfl, .inl ⟨rfl, by simpa using A.out⟩⟩, BW.out⟩


theorem filter_same {p : Int × Int → Bool} {l : List (Int × Int)} (h : ∀ j, j < l.length → p l[j]! = false) : (l.filter fun x => !p x) = l := by
  rw [List.filter_eq_self]
  intro a ha
  obtain ⟨i, hi, rfl⟩ := List.mem_iff_getElem.1 ha
  have := h i hi
  rw [getElem!_pos l i hi] at this
  rw [this]; rfl

/-- What holds while the row is rewritten: i elements are kept of the first j. -/
structure Half (p : Int × Int → Bool) (zs dk : List (Int × Int)) (i j : Nat) : Prop where
  len : dk.length = zs.length
  ij : i < j
  kept : dk.take i = (zs.take j).filter (fun x => !p x)
  rest : dk.drop j = zs.drop j

theorem take_succ_filter {p : Int × Int → Bool} {zs : List (Int × Int)} {j : Nat} {u : Int × Int} (h : zs[j]? = some u) : (zs.take (j + 1)).filter (fun x => !p x) = (zs.take j).filter (fun x => !p x) ++ (if p u then [] else [u]) := by
  rw [List.take_add_one, h, List.filter_append]
  cases hp : p u <;> simp [hp]

theorem Half.start {p : Int × Int → Bool} {zs : List (Int × Int)} {k0 : Nat} (hk : k0 < zs.length) (hp : p zs[k0]! = true) (h : ∀ j, j < k0 → p zs[j]! = false) : Half p zs zs k0 (k0 + 1) := by
  refine ⟨rfl, by omega, ?_, rfl⟩
  rw [take_succ_filter (List.getElem?_eq_getElem hk)]
  rw [getElem!_pos zs k0 hk] at hp
  rw [if_pos hp, List.append_nil]
  symm
  refine filter_same fun j hj => ?_
  have hj' : j < k0 := by simp at hj; omega
  have := h j hj'
  rw [getElem!_pos zs j (by omega)] at this
  rw [getElem!_pos _ j hj]; simpa using this

theorem Half.skip {p : Int × Int → Bool} {zs dk : List (Int × Int)} {i j : Nat} {u : Int × Int} (h : Half p zs dk i j) (hu : zs[j]? = some u) (hp : p u = true) : Half p zs dk i (j + 1) := by
  refine ⟨h.len, by have := h.ij; omega, ?_, ?_⟩
  · rw [take_succ_filter hu, if_pos hp, List.append_nil]; exact h.kept
  · have := congrArg (List.drop 1) h.rest
    simpa [List.drop_drop] using this

theorem Half.keep {p : Int × Int → Bool} {zs dk : List (Int × Int)} {i j : Nat} {u : Int × Int} (h : Half p zs dk i j) (hu : zs[j]? = some u) (hp : p u = false) : Half p zs (dk.set i u) (i + 1) (j + 1) := by
  have hj : j < zs.length := (List.getElem?_eq_some_iff.1 hu).1
  refine ⟨by simpa using h.len, by have := h.ij; omega, ?_, ?_⟩
  · rw [take_succ_filter hu, if_neg (by simp [hp]), ← h.kept, List.take_add_one, List.take_set_of_le (Nat.le_refl i), List.getElem?_set, if_pos rfl, if_pos (by have := h.len; have := h.ij; omega)]
    rfl
  · have := congrArg (List.drop 1) h.rest
    rw [List.drop_set_of_lt (by have := h.ij; omega)]
    simpa [List.drop_drop] using this

theorem Half.next {p : Int × Int → Bool} {zs dk : List (Int × Int)} {i j : Nat} {u : Int × Int} (h : Half p zs dk i j) (hu : zs[j]? = some u) : dk[j]? = some u := by
  have := congrArg (fun l : List (Int × Int) => l[0]?) h.rest
  simpa [List.getElem?_drop, hu] using this

theorem zero_cells (n : Nat) : (Builtin.zeroCells #[Value.int .i64 0, Value.int .i64 0] n).toList = List.replicate (n * 2) (Value.int .i64 0) := by
  apply List.ext_getElem
  · simp [Builtin.zeroCells]
  · intro i h1 h2
    simp only [Builtin.zeroCells, List.getElem_replicate]
    simp only [Builtin.zeroCells, Array.getElem_toList, Array.getElem_map, Array.getElem_range]
    have : i % 2 = 0 ∨ i % 2 = 1 := by omega
    rcases this with h | h <;> simp [h]

theorem clear_run {w wr : World} {b off : Nat} {El : TypeId} {L : Array Value} {dk : List (Int × Int)} (h : Rew w wr b off El L dk) {i : Nat} (hi : i < dk.length) (c : Nat) :
    (Builtin.clear_ #[48] 0 #[.slice (some ⟨b, off + i * 2, none⟩) (dk.length - i) c]).run Go.Proofs.Try.prog wr = .ok (.tuple #[]) (wr.setCells b (off + i * 2) (List.replicate ((dk.length - i) * 2) (.int .i64 0))) := by
  have hcell : ∀ j, j < (dk.length - i) * 2 → (wr.cell? ⟨b, off + i * 2 + 0 + j, none⟩).isSome = true ∧ wr.frozen? ⟨b, off + i * 2 + 0 + j, none⟩ = false := by
    intro j hj
    have hlt : i + j / 2 < dk.length := by omega
    obtain ⟨q1, q2, q3, q4⟩ := h.cells (List.getElem?_eq_getElem hlt)
    have : j % 2 = 0 ∨ j % 2 = 1 := by omega
    rcases this with e | e
    · have : off + i * 2 + 0 + j = off + (i + j / 2) * 2 := by omega
      rw [this, q1, q3]; exact ⟨rfl, rfl⟩
    · have : off + i * 2 + 0 + j = off + (i + j / 2) * 2 + 1 := by omega
      rw [this, q2, q4]; exact ⟨rfl, rfl⟩
  have hst := run_storeCells_cells (P := Go.Proofs.Try.prog) b (off + i * 2) (List.replicate ((dk.length - i) * 2) (Value.int .i64 0)) 0 wr (by simpa using fun j hj => (hcell j hj).1) (by simpa using fun j hj => (hcell j hj).2) (by intro v hv; rw [List.eq_of_mem_replicate hv]; rfl)
  obtain ⟨m, hm⟩ : ∃ m, dk.length - i = m + 1 := ⟨dk.length - i - 1, by omega⟩
  rw [hm] at hst ⊢
  simp only [Nat.add_zero] at hst
  simp [Builtin.clear_, Go.Proofs.Try.runUnderlying48, Go.Proofs.Try.zeroValue62, Value.cells, zero_cells, hst]

set_option maxRecDepth 1000000 in
set_option maxHeartbeats 4000000 in
theorem deleteF (p : Int × Int → Bool) (lb : Array Value) (b off cap : Nat) (zs : List (Int × Int)) (w : World) (L : Array Value) (El : TypeId)
    (hp : ∀ (W : World) (x : Int × Int), x ∈ zs → w.heap.size ≤ W.heap.size → Calm w W → (∀ c, c < w.heap.size → c ≠ b → W.heap[c]? = w.heap[c]?) → Calls Go.Proofs.Try.prog 99 (#[.agg #[.int .i64 x.1, .int .i64 x.2]] ++ lb) W fun e w' => e = .returned (.bool (p x)) ∧ Grow W w')
    (hbig : zs.length ≤ 9223372036854775807) (hcap : zs.length ≤ cap) (hb : w.heap[b]? = some (.cells L El (0, 0)))
    (hrow : ∀ t x, zs[t]? = some x → L[off + t * 2]? = some (.int .i64 x.1) ∧ L[off + t * 2 + 1]? = some (.int .i64 x.2)) :
    Calls Go.Proofs.Try.prog 97 #[.slice (some ⟨b, off, none⟩) zs.length cap, .func (.func 99) #[] lb] w fun e w' => e = .returned (.slice (some ⟨b, off, none⟩) (zs.filter fun x => !p x).length cap) ∧ Rew w w' b off El L (zs.filter fun x => !p x) := by
  have hbl : b < w.heap.size := heap_in hb
  have hIF := indexF p lb b off zs.length cap zs w (fun W x hx hg => (hp W x hx hg.size hg.calm fun c hc _ => hg.same c hc).mono fun e w' ⟨h1, h2⟩ => ⟨h1, hg.trans h2⟩) (Nat.le_refl _) hbig hbl (fun j hj => by
    have := hrow j zs[j] (List.getElem?_eq_getElem hj)
    rw [getElem!_pos zs j hj]
    simpa only [World.cell?, hb, Option.isSome_none, Bool.false_eq_true, if_false] using this)
  have R0 : Rew w w b off El L zs := ⟨Nat.le_refl _, Calm.refl w, fun _ _ _ => rfl, L, hb, rfl, hrow⟩
  have eg := enters99
  have HI : Aside _ := hIF
  have HP : Aside _ := hp
  have HB : Aside _ := hb
  have HR : Aside (Rew w w b off El L zs) := R0
  clear hIF hp hb hrow R0
  go_enter Go.Proofs.Try.func97, Go.Proofs.Try.ntmps97
  go_wp2_with fail
  refine Calls.mono HI.out ?_
  rintro e w1 ⟨⟨m, rfl, hm⟩, hg⟩
  rcases hm with ⟨rfl, hall⟩ | ⟨k0, rfl, hk0, hpk, hbef⟩
  · have HA : Aside _ := hall
    have HG : Aside (Grow w w1) := hg
    clear hall hg
    go_wp2
    go_ret
    rw [filter_same HA.out]
    exact ⟨rfl, HR.out.grow HG.out⟩
  · have HH : Aside (Half p zs zs k0 (k0 + 1)) := Half.start hk0 hpk hbef
    have HG : Aside (Rew w w1 b off El L zs) := HR.out.grow hg
    clear hbef hg hpk
    have hne1 : ((k0 : Int) == -1) = false := beq_eq_false_iff_ne.2 (by omega)
    go_wp2_with fail
    go_loopg [5, 6, 7] zs.length (fun gg s5 s6 _ wr => ∃ (i j : Nat) (dk : List (Int × Int)), s5 = .int .i64 i ∧ s6 = .int .i64 j ∧ j ≤ zs.length ∧ zs.length - j ≤ gg ∧ i < j ∧ Aside (Rew w wr b off El L dk) ∧ Aside (Half p zs dk i j))
    case atStart => exact ⟨k0, k0 + 1, zs, rfl, by go_num, by omega, by omega, by omega, HG, HH⟩
    case round =>
      obtain ⟨i, j, dk, rfl, rfl, hjd, hgg, hij, R, I2⟩ := hrel
      by_cases hlt : j < zs.length
      · have hltz : (j : Int) < (zs.length : Int) := by omega
        obtain ⟨u, hu⟩ : ∃ u, zs[j]? = some u := ⟨_, List.getElem?_eq_getElem hlt⟩
        obtain ⟨cj, cj2, _, _⟩ := R.out.cells (I2.out.next hu)
        have hidk : i < dk.length := by have := I2.out.len; omega
        have R1 : Rew w (wr.alloc (.cells #[.int .i64 u.1, .int .i64 u.2] 62)) b off El L dk := R.out.grow (Grow.alloc _ _ _)
        have hcall : Calls Go.Proofs.Try.prog 99 (#[.agg #[.int .i64 u.1, .int .i64 u.2]] ++ lb) (wr.alloc (.cells #[.int .i64 u.1, .int .i64 u.2] 62)) fun e w' => e = .returned (.bool (p u)) ∧ Aside (Rew w w' b off El L dk) ∧
            w'.cell? ⟨wr.heap.size, 0, none⟩ = some (.int .i64 u.1) ∧ w'.cell? ⟨wr.heap.size, 1, none⟩ = some (.int .i64 u.2) ∧ w'.cell? ⟨b, off + i * 2, none⟩ = some (.int .i64 dk[i].1) ∧ w'.cell? ⟨b, off + i * 2 + 1, none⟩ = some (.int .i64 dk[i].2) ∧
            w'.frozen? ⟨b, off + i * 2, none⟩ = false ∧ w'.frozen? ⟨b, off + i * 2 + 1, none⟩ = false := by
          refine (HP.out _ u (List.mem_of_getElem? hu) R1.size R1.calm R1.other).mono fun e w' ⟨h1, h2⟩ => ?_
          have R2 := R1.grow h2
          obtain ⟨q1, q2, q3, q4⟩ := R2.cells (List.getElem?_eq_getElem hidk)
          have hnew : w'.heap[wr.heap.size]? = some (.cells #[.int .i64 u.1, .int .i64 u.2] 62 (0, 0)) := by
            rw [h2.same _ (by simp only [World.alloc, Array.size_push]; omega)]
            simp only [World.alloc, Array.getElem?_push_size]
          exact ⟨h1, R2, by simp [World.cell?, hnew], by simp [World.cell?, hnew], q1, q2, q3, q4⟩
        have C : Aside (zs[j]? = some u) := hu
        clear hu R1
        generalize dk[i].1 = o1 at hcall
        generalize dk[i].2 = o2 at hcall
        have D : Aside (i < dk.length) := hidk
        clear hidk
        cases hq : p u with
        | false =>
          rw [hq] at hcall
          go_wp2_with fail
          refine Calls.mono hcall ?_
          rintro e w2 ⟨rfl, R2, c1, c2, c3, c4, f3, f4⟩
          clear hcall
          go_wp2_with fail
          go_roundg (zs.length - (j + 1))
          case measure => omega
          case rel => exact ⟨i + 1, j + 1, dk.set i u, by go_num, by go_num, by omega, Nat.le_refl _, by omega, R2.out.put D.out u, I2.out.keep C.out hq⟩
        | true =>
          rw [hq] at hcall
          go_wp2_with fail
          refine Calls.mono hcall ?_
          rintro e w2 ⟨rfl, R2, c1, c2, c3, c4, f3, f4⟩
          clear hcall
          go_wp2_with fail
          go_roundg (zs.length - (j + 1))
          case measure => omega
          case rel => exact ⟨i, j + 1, dk, rfl, by go_num, by omega, Nat.le_refl _, by omega, R2, I2.out.skip C.out hq⟩
      · obtain rfl : j = zs.length := by omega
        have hltz : ¬ (zs.length : Int) < (zs.length : Int) := by omega
        have hdl : dk.length = zs.length := I2.out.len
        have hcl := clear_run R.out (i := i) (by omega) (cap - i)
        rw [hdl] at hcl
        go_wp2_with fail
        go_ret
        have hk : dk.take i = zs.filter fun x => !p x := by rw [I2.out.kept, List.take_length]
        have hl : (zs.filter fun x => !p x).length = i := by rw [← hk, List.length_take]; omega
        rw [hl, ← hk]
        exact ⟨rfl, R.out.wipe i _⟩

noncomputable def E99 : Env := ⟨tys, [], [(101, ⟨[net, fault], (.slice (.slice ratio)), e_impl_after⟩), (100, ⟨[(.slice (.slice ratio)), (.slice (.slice ratio))], .bool, e_impl_SameResponse⟩)], []⟩
theorem K99 (N : Nat) (x : Int × Int) (n : TNet') (m : TMat') :
    runK N E99 ([] : List (Nat × Loop Bool)) Go.Proofs.Try.f99.ntmps (retOf E99 Go.Proofs.Try.f99 .bool) (Go.Proofs.Try.f99.body.getD .skip) (initR Go.Proofs.Try.f99.ntmps [fault] (x, ()) [net, .slice (.slice ratio)] (n, m, ())) (fun _ _ => none) (retOf E99 Go.Proofs.Try.f99 .bool) = e_impl_FaultsLike_1 x n m := by kernel_rfl

theorem clo99 {x : Int × Int} {n : TNet'} {m : TMat'} {b : Bool} (h : e_impl_FaultsLike_1 x n m = some b) {W : World} {p2 p3 : Nat} {L2 L3 : Array Value} {T2 T3 : TypeId} (h2 : W.heap[p2]? = some (.cells L2 T2 (0, 0))) (s2 : L2.size = net.size) (r2 : Rep false W net L2.toList n (fun c => c < W.heap.size))
    (h3 : W.heap[p3]? = some (.cells L3 T3 (0, 0))) (s3 : L3.size = 1) (r3 : Rep false W (.slice (.slice ratio)) L3.toList m (fun c => c < W.heap.size)) :
    Calls Go.Proofs.Try.prog 99 (#[.agg #[.int .i64 x.1, .int .i64 x.2]] ++ #[.pointer (some ⟨p2, 0, none⟩), .pointer (some ⟨p3, 0, none⟩)]) W fun e w' => e = .returned (.bool b) ∧ Grow W w' := by
  have hE : EnvOk Go.Proofs.Try.prog E99 := envOf table ⟨⟨X101, There101⟩, ⟨X100, There100⟩, trivial⟩ trivial
  have := contractR hE mixed Go.Proofs.Try.func99 (c := Go.Proofs.Try.f99.body.getD .skip) (by kernel_rfl) (ts := [fault]) (caps := [net, .slice (.slice ratio)]) (res := .bool) (Nat.le_of_ble_eq_true (by kernel_rfl)) (N := 0) (ann := []) (xs := (x, ())) (ys := (n, m, ())) (r := b)
    (LoopsOk.of (l := []) (by kernel_rfl) .nil) ((K99 0 x n m).trans h) (vs := [.agg #[.int .i64 x.1, .int .i64 x.2]]) (ws := [.pointer (some ⟨p2, 0, none⟩), .pointer (some ⟨p3, 0, none⟩)]) (w := W)
    ⟨_, [], rfl, ⟨[.int .i64 x.1, .int .i64 x.2], rfl, [.int .i64 x.1], [.int .i64 x.2], fun _ => False, fun _ => False, rfl, rfl, rfl, fun _ h => h.elim, fun _ h => h.elim, fun _ _ h => h.elim⟩, rfl⟩
    ⟨p2, L2, T2, _, rfl, h2, s2, r2, p3, L3, T3, _, rfl, h3, s3, r3, rfl⟩
  refine this.mono fun e w' ⟨v, cs, h1, h2, h3, h4⟩ => ⟨?_, h2⟩
  simp only [Rep] at h4
  subst h4
  simp only [Shape, Shape1, List.cons.injEq, and_true] at h3
  rw [h1, h3]

set_option maxHeartbeats 1000000 in
theorem deleteF_empty (a : Option Addr) (c : Nat) (lb : Array Value) (w : World) :
    Calls Go.Proofs.Try.prog 97 #[.slice a 0 c, .func (.func 99) #[] lb] w fun e w' => e = .returned (.slice a 0 c) ∧ Grow w w' := by
  have hIF : ∀ w : World, Calls Go.Proofs.Try.prog 150 #[.slice a 0 c, .func (.func 99) #[] lb] w fun e w' => e = .returned (.int .i64 (-1)) ∧ Grow w w' := by
    intro w
    go_enter Go.Proofs.Try.func150, Go.Proofs.Try.ntmps150
    go_wp2
    go_loopg [5, 8] 0 (fun gg _ s8 wr => s8 = .int .i64 0 ∧ Aside (Grow w wr))
    case atStart => exact ⟨rfl, Grow.refl w⟩
    case round =>
      obtain ⟨rfl, BW⟩ := hrel
      go_wp2
      go_ret
      exact ⟨rfl, BW.out⟩
  have HI : Aside _ := hIF w
  clear hIF
  go_enter Go.Proofs.Try.func97, Go.Proofs.Try.ntmps97
  go_wp2_with fail
  refine Calls.mono HI.out ?_
  rintro e w1 ⟨rfl, hg⟩
  have HG : Aside (Grow w w1) := hg
  clear hg
  go_wp2
  go_ret
  exact ⟨rfl, HG.out⟩
theorem fault_cells {tr : Bool} {w : World} {cs : List Value} {x : Int × Int} {S : Nat → Prop} (h : Rep tr w fault cs x S) : cs = [.int .i64 x.1, .int .i64 x.2] := by
  obtain ⟨c1, c2, _, _, rfl, h1, h2, _⟩ := h
  simp only [fault, int, Rep] at h1 h2
  rw [h1, h2]; rfl

/-- A slice of faults in a row of its own. -/
theorem fault_row {w : World} {p : Option Addr} {c : Nat} {l : List (Int × Int)} {S : Nat → Prop} (h : Rep true w (.slice fault) [.slice p l.length c] l S) : (l = [] ∧ c = 0) ∨
    ∃ b o L El, p = some ⟨b, o, none⟩ ∧ w.heap[b]? = some (.cells L El (0, 0)) ∧ S b ∧ l.length ≤ c ∧ c ≤ 9223372036854775807 ∧ o + c * 2 ≤ L.size ∧ ∀ t x, l[t]? = some x → L[o + t * 2]? = some (.int .i64 x.1) ∧ L[o + t * 2 + 1]? = some (.int .i64 x.2) := by
  obtain ⟨p', c', hc, hle, h⟩ := h
  have hle : l.length ≤ c' := hle
  simp only [List.cons.injEq, Value.slice.injEq, and_true] at hc
  obtain ⟨rfl, _, rfl⟩ := hc
  rcases h with h | ⟨b, o, L, El, fz, rfl, hh, hS, hf, hroom, Si, hel, _, _⟩
  · simp only [cond_true] at h
    exact .inl ⟨List.length_eq_zero_iff.1 (by omega), h⟩
  · obtain ⟨rfl, hcm⟩ := hf rfl
    have hroom : o + c * 2 ≤ L.size := hroom
    refine .inr ⟨b, o, L, El, rfl, hh, hS, hle, hcm, hroom, fun t x hx => ?_⟩
    have h1 := fault_cells (hel t x hx)
    have h1 : seg L (o + t * 2) 2 = [.int .i64 x.1, .int .i64 x.2] := h1
    have ha := congrArg (fun l => l[0]?) h1
    have hb := congrArg (fun l => l[1]?) h1
    simp only [seg_get] at ha hb
    exact ⟨by simpa using ha, by simpa using hb⟩

theorem row_fault {w : World} {b o c : Nat} {L : Array Value} {El : TypeId} {l : List (Int × Int)} (hh : w.heap[b]? = some (.cells L El (0, 0))) (hle : l.length ≤ c) (hcm : c ≤ 9223372036854775807) (hroom : o + c * 2 ≤ L.size)
    (hrow : ∀ t x, l[t]? = some x → L[o + t * 2]? = some (.int .i64 x.1) ∧ L[o + t * 2 + 1]? = some (.int .i64 x.2)) : Rep true w (.slice fault) [.slice (some ⟨b, o, none⟩) l.length c] l (fun c => c = b) := by
  refine ⟨_, c, rfl, hle, .inr ⟨b, o, L, El, (0, 0), rfl, hh, rfl, fun _ => ⟨rfl, hcm⟩, hroom, fun _ _ => False, fun i y hy => ?_, fun _ _ h => h.elim, fun _ _ _ _ _ h => h.elim⟩⟩
  obtain ⟨q1, q2⟩ := hrow i y hy
  have : seg L (o + i * fault.size) fault.size = [.int .i64 y.1] ++ [.int .i64 y.2] := by
    apply List.ext_getElem?; intro j
    rw [seg_get]
    show (if j < 2 then L.toList[o + i * 2 + j]? else none) = _
    match j with
    | 0 => simpa using q1
    | 1 => simpa using q2
    | j + 2 => rw [if_neg (by omega)]; rfl
  rw [this]
  exact ⟨_, _, fun _ => False, fun _ => False, rfl, rfl, rfl, fun _ h => h.elim, fun _ h => h.elim, fun _ _ h => h.elim⟩

theorem FL_some {n : TNet'} {m : TMat'} {u : Unit} {r : List (Int × Int)} (h : e_impl_FaultsLike (n, m, u) = some r) :
    ∃ l, e_impl_AllFaults (n, ()) = some l ∧ (∀ x ∈ l, (e_impl_FaultsLike_1 x n m).isSome = true) ∧ (l.filter fun x => !(e_impl_FaultsLike_1 x n m).getD true) = r := by
  unfold e_impl_FaultsLike at h
  obtain ⟨l, hl, hr⟩ := Option.bind_eq_some_iff.1 h
  split at hr
  · rename_i hall
    simp only [Option.some.injEq] at hr
    exact ⟨l, hl, hall, hr⟩
  · simp at hr

set_option maxRecDepth 1000000 in
set_option maxHeartbeats 2000000 in
theorem flCore {n : TNet'} {m : TMat'} {r : List (Int × Int)} (hr : e_impl_FaultsLike (n, m, ()) = some r) {w : World} {v1 v2 : Value} {cs1 cs2 : List Value} (sh1 : Shape net v1 cs1) (rp1 : Rep false w net cs1 n (fun c => c < w.heap.size))
    (sh2 : Shape (.slice (.slice ratio)) v2 cs2) (rp2 : Rep false w (.slice (.slice ratio)) cs2 m (fun c => c < w.heap.size)) :
    Calls Go.Proofs.Try.prog 32 #[v1, v2] w fun e w' => ∃ v cs, e = .returned v ∧ Grow w w' ∧ Shape (.slice fault) v cs ∧ Rep true w' (.slice fault) cs r (fun c => w.heap.size ≤ c ∧ c < w'.heap.size) := by
  obtain ⟨l, hl, hall, hr⟩ := FL_some hr
  -- the cells of the arguments
  obtain ⟨c1, k1, S1, T1, rfl, q1, ⟨c2, k2, S2, T2, rfl, q2, ⟨c3, k3, S3, T3, rfl, q3, q4, -⟩, -⟩, -⟩ := id rp1
  have q1 : c1 = [.int .i64 n.1] := q1
  have q2 : c2 = [.int .i64 n.2.1] := q2
  have q3 : c3 = [.int .i64 n.2.2.1] := q3
  obtain ⟨pw, cw, q4, -⟩ := q4
  subst q1; subst q2; subst q3; subst q4
  obtain ⟨pm, cm, hc2, -⟩ := id rp2
  subst hc2
  have e1 : v1 = .agg #[.int .i64 n.1, .int .i64 n.2.1, .int .i64 n.2.2.1, .slice pw n.2.2.2.length cw] := sh1
  have e2 : v2 = .slice pm m.length cm := by
    simp only [Shape, Shape1, List.cons.injEq, and_true] at sh2; exact sh2.symm
  subst e1; subst e2
  clear sh1 sh2
  have rp1 : Rep false w net [.int .i64 n.1, .int .i64 n.2.1, .int .i64 n.2.2.1, .slice pw n.2.2.2.length cw] n (fun c => c < w.heap.size) := rp1
  have rp2 : Rep false w (.slice (.slice ratio)) [.slice pm m.length cm] m (fun c => c < w.heap.size) := rp2
  -- the boxes
  obtain ⟨w2, hw2⟩ : ∃ w2, w2 = (w.alloc (.cells #[.int .i64 n.1, .int .i64 n.2.1, .int .i64 n.2.2.1, .slice pw n.2.2.2.length cw] 32)).alloc (.cells #[.slice pm m.length cm] 50) := ⟨_, rfl⟩
  have g2 : Grow w w2 := by rw [hw2]; exact (Grow.alloc _ _ _).trans (Grow.alloc _ _ _)
  have hsz2 : w2.heap.size = w.heap.size + 2 := by
    rw [hw2, alloc_size, alloc_size]
  have b2 : w2.heap[w.heap.size]? = some (.cells #[.int .i64 n.1, .int .i64 n.2.1, .int .i64 n.2.2.1, .slice pw n.2.2.2.length cw] 32 (0, 0)) := by
    rw [hw2, (Grow.alloc _ _ _).same _ (by rw [alloc_size]; omega), alloc_new]
  have b3 : w2.heap[w.heap.size + 1]? = some (.cells #[.slice pm m.length cm] 50 (0, 0)) := by
    rw [hw2, ← alloc_size w (.cells #[.int .i64 n.1, .int .i64 n.2.1, .int .i64 n.2.2.1, .slice pw n.2.2.2.length cw] 32 (0, 0)), alloc_new]
  have hX := X98 (n, ()) l [.agg #[.int .i64 n.1, .int .i64 n.2.1, .int .i64 n.2.2.1, .slice pw n.2.2.2.length cw]] w2 hl ⟨_, [], rfl, ⟨_, rfl, (rp1.agree fun c hc => g2.same c hc).mono fun c hc => Nat.lt_of_lt_of_le hc g2.size⟩, rfl⟩
  -- the rest, once the list is there
  have rest : ∀ (w3 : World) (v : Value) (cs : List Value), Grow w2 w3 → Shape (.slice fault) v cs → Rep true w3 (.slice fault) cs l (fun c => w2.heap.size ≤ c ∧ c < w3.heap.size) →
      Calls Go.Proofs.Try.prog 97 #[v, .func (.func 99) #[] #[.pointer (some ⟨w.heap.size, 0, none⟩), .pointer (some ⟨w.heap.size + 1, 0, none⟩)]] w3 fun e w' => ∃ v cs, e = .returned v ∧ Grow w w' ∧ Shape (.slice fault) v cs ∧ Rep true w' (.slice fault) cs r (fun c => w.heap.size ≤ c ∧ c < w'.heap.size) := by
    intro w3 v cs g3 hs hrep
    obtain ⟨p3, cap, hcs, _⟩ := id hrep
    subst hcs
    have hv : v = .slice p3 l.length cap := by
      simp only [Shape, Shape1, List.cons.injEq, and_true] at hs; exact hs.symm
    subst hv
    rcases fault_row hrep with ⟨rfl, rfl⟩ | ⟨b, o, L, El, rfl, hb, ⟨hfr, _⟩, hle, hcm, hroom, hrow⟩
    · refine (deleteF_empty p3 0 _ w3).mono fun e w' ⟨h1, h2⟩ => ⟨_, _, h1, g2.trans (g3.trans h2), hs, ?_⟩
      rw [← hr]
      exact ⟨p3, 0, rfl, Nat.le_refl _, .inl rfl⟩
    · have hp : ∀ (W : World) (x : Int × Int), x ∈ l → w3.heap.size ≤ W.heap.size → Calm w3 W → (∀ c, c < w3.heap.size → c ≠ b → W.heap[c]? = w3.heap[c]?) →
          Calls Go.Proofs.Try.prog 99 (#[.agg #[.int .i64 x.1, .int .i64 x.2]] ++ #[.pointer (some ⟨w.heap.size, 0, none⟩), .pointer (some ⟨w.heap.size + 1, 0, none⟩)]) W fun e w' => e = .returned (.bool ((e_impl_FaultsLike_1 x n m).getD true)) ∧ Grow W w' := by
        intro W x hx hsz _ hsame
        obtain ⟨bb, hbb⟩ := Option.isSome_iff_exists.1 (hall x hx)
        have old : ∀ c, c < w2.heap.size → W.heap[c]? = w2.heap[c]? := fun c hc => (hsame c (Nat.lt_of_lt_of_le hc g3.size) (by omega)).trans (g3.same c hc)
        have hlt : ∀ c, c < w.heap.size → W.heap[c]? = w.heap[c]? := fun c hc => (old c (Nat.lt_of_lt_of_le hc g2.size)).trans (g2.same c hc)
        have hszW : w.heap.size ≤ W.heap.size := Nat.le_trans g2.size (Nat.le_trans g3.size hsz)
        have := clo99 hbb (W := W) ((old _ (by omega)).trans b2) rfl ((rp1.agree hlt).mono fun c hc => Nat.lt_of_lt_of_le hc hszW) ((old _ (by omega)).trans b3) rfl ((rp2.agree hlt).mono fun c hc => Nat.lt_of_lt_of_le hc hszW)
        rw [hbb]; exact this
      refine (deleteF (fun x => (e_impl_FaultsLike_1 x n m).getD true) _ b o cap l w3 L El hp (by omega) hle hb hrow).mono fun e w' ⟨h1, h2⟩ => ?_
      rw [hr] at h1 h2
      obtain ⟨L', k1, k2, k3⟩ := h2.row
      have hbw : w.heap.size ≤ b := by omega
      have hrl : r.length ≤ l.length := by rw [← hr]; exact List.length_filter_le _ _
      refine ⟨_, _, h1, ⟨?_, fun c hc => ?_, (g2.calm.trans g3.calm).trans h2.calm⟩, rfl, (row_fault k1 (Nat.le_trans hrl hle) hcm (by omega) k3).mono fun c hc => ?_⟩
      · exact Nat.le_trans g2.size (Nat.le_trans g3.size h2.size)
      · rw [h2.other c (Nat.lt_of_lt_of_le hc (Nat.le_trans g2.size g3.size)) (by omega), g3.same c (Nat.lt_of_lt_of_le hc g2.size), g2.same c hc]
      · subst hc; exact ⟨hbw, heap_in k1⟩
  have HX : Aside _ := hX
  have HR : Aside _ := rest
  subst hw2
  clear hX rest hr hall hl rp1 rp2 g2 b2 b3 hsz2
  go_enter Go.Proofs.Try.func32, Go.Proofs.Try.ntmps32
  go_wp2_with fail
  refine Calls.mono HX.out ?_
  rintro e w3 ⟨v, cs, rfl, g3, hs, hrep⟩
  have HN : Aside _ := HR.out w3 v cs g3 hs hrep
  clear HX HR g3 hs hrep
  go_wp2_with fail
  refine Calls.mono HN.out ?_
  rintro e w4 ⟨v4, cs4, rfl, g4, hs4, hrep4⟩
  have HF : Aside _ := And.intro g4 (And.intro hs4 hrep4)
  clear HN g4 hs4 hrep4
  go_wp2
  go_ret
  exact ⟨_, _, rfl, HF.out.1, HF.out.2.1, HF.out.2.2⟩

theorem X32 : Contract Go.Proofs.Try.prog 32 ⟨[net, .slice (.slice ratio)], .slice fault, e_impl_FaultsLike⟩ := by
  intro xs r vs w hr hargs
  obtain ⟨n, m, u⟩ := xs
  obtain ⟨v1, vr, rfl, ⟨cs1, sh1, rp1⟩, v2, vr2, rfl, ⟨cs2, sh2, rp2⟩, rfl⟩ := hargs
  exact flCore hr sh1 rp1 sh2 rp2

-- laws_eqFault
def E44 : Env := ⟨tys, [], [], []⟩
def A44 (_N : Nat) : List (Nat × Loop (Ty.den .bool)) := []
theorem K44 (N : Nat) (a0 : (Int × Int)) (a1 : (Int × Int)) : fnK N (E44) Go.Proofs.Try.f44 [fault, fault] .bool (A44 N) (a0, a1, ()) = r_laws_eqFault N a0 a1 := by kernel_rfl
theorem L44 (N : Nat) : LoopsOk N (E44) (A44 N) Go.Proofs.Try.f44.ntmps (retOf (E44) Go.Proofs.Try.f44 .bool) (loopsOf (Go.Proofs.Try.f44.body.getD .skip)) :=
  LoopsOk.of (l := []) (by kernel_rfl) .nil
theorem There44 : There Go.Proofs.Try.prog 44 := ⟨_, Go.Proofs.Try.func44, by kernel_rfl, by kernel_rfl⟩
theorem C44 {f : ((Int × Int) × (Int × Int) × Unit → Option Bool)} (h : ∀ a0 a1 r, f (a0, a1, ()) = some r → ∃ N, r_laws_eqFault N a0 a1 = some r) : Contract Go.Proofs.Try.prog 44 ⟨[fault, fault], .bool, f⟩ := by
  refine contract (E := E44) (envOf table trivial trivial) mixed Go.Proofs.Try.func44 (c := Go.Proofs.Try.f44.body.getD .skip) (by kernel_rfl) (Nat.le_of_ble_eq_true (by kernel_rfl)) fun xs r hr => ?_
  obtain ⟨a0, a1, _⟩ := xs
  obtain ⟨N, hN⟩ := h _ _ r hr
  exact ⟨N, A44 N, L44 N, (K44 N a0 a1).trans hN⟩
theorem X44 : Contract Go.Proofs.Try.prog 44 ⟨[fault, fault], .bool, e_laws_eqFault⟩ := C44 fun _ _ _ h => ⟨N0, h⟩
-- laws_eqFaultS
def E33 (c_laws_eqFault : ((Int × Int) × (Int × Int) × Unit → Option Bool)) : Env := ⟨tys, [], [(44, ⟨[fault, fault], .bool, c_laws_eqFault⟩)], []⟩
def A33 (c_laws_eqFault : ((Int × Int) × (Int × Int) × Unit → Option Bool)) (N : Nat) : List (Nat × Loop (Ty.den .bool)) := [(0, ⟨[(0, .ro none (.slice (.pair (.num .i64) (.num .i64)))), (1, .ro none (.slice (.pair (.num .i64) (.num .i64)))), (5, .ro none (.num .i64))], r_laws_eqFaultS_L0 c_laws_eqFault N⟩)]
theorem K33 (c_laws_eqFault : ((Int × Int) × (Int × Int) × Unit → Option Bool)) (N : Nat) (a0 : (List (Int × Int))) (a1 : (List (Int × Int))) : fnK N (E33 c_laws_eqFault) Go.Proofs.Try.f33 [(.slice fault), (.slice fault)] .bool (A33 c_laws_eqFault N) (a0, a1, ()) = r_laws_eqFaultS c_laws_eqFault N a0 a1 := by kernel_rfl
theorem L33 (c_laws_eqFault : ((Int × Int) × (Int × Int) × Unit → Option Bool)) (N : Nat) : LoopsOk N (E33 c_laws_eqFault) (A33 c_laws_eqFault N) Go.Proofs.Try.f33.ntmps (retOf (E33 c_laws_eqFault) Go.Proofs.Try.f33 .bool) (loopsOf (Go.Proofs.Try.f33.body.getD .skip)) :=
  LoopsOk.of (l := [(0, lb Go.Proofs.Try.f33 0)]) (by kernel_rfl) (.cons (L := ⟨[(0, .ro none (.slice (.pair (.num .i64) (.num .i64)))), (1, .ro none (.slice (.pair (.num .i64) (.num .i64)))), (5, .ro none (.num .i64))], r_laws_eqFaultS_L0 c_laws_eqFault N⟩) (by kernel_rfl) (by intro s kc ke env; kernel_rfl) .nil)
theorem There33 : There Go.Proofs.Try.prog 33 := ⟨_, Go.Proofs.Try.func33, by kernel_rfl, by kernel_rfl⟩
theorem C33 {c_laws_eqFault : ((Int × Int) × (Int × Int) × Unit → Option Bool)} (h_c_laws_eqFault : Contract Go.Proofs.Try.prog 44 ⟨[fault, fault], .bool, c_laws_eqFault⟩) {f : ((List (Int × Int)) × (List (Int × Int)) × Unit → Option Bool)} (h : ∀ a0 a1 r, f (a0, a1, ()) = some r → ∃ N, r_laws_eqFaultS c_laws_eqFault N a0 a1 = some r) : Contract Go.Proofs.Try.prog 33 ⟨[(.slice fault), (.slice fault)], .bool, f⟩ := by
  refine contract (E := E33 c_laws_eqFault) (envOf table ⟨⟨h_c_laws_eqFault, There44⟩, trivial⟩ trivial) mixed Go.Proofs.Try.func33 (c := Go.Proofs.Try.f33.body.getD .skip) (by kernel_rfl) (Nat.le_of_ble_eq_true (by kernel_rfl)) fun xs r hr => ?_
  obtain ⟨a0, a1, _⟩ := xs
  obtain ⟨N, hN⟩ := h _ _ r hr
  exact ⟨N, A33 c_laws_eqFault N, L33 c_laws_eqFault N, (K33 c_laws_eqFault N a0 a1).trans hN⟩
theorem X33 : Contract Go.Proofs.Try.prog 33 ⟨[(.slice fault), (.slice fault)], .bool, e_laws_eqFaultS⟩ := C33 X44 fun _ _ _ h => ⟨N0, h⟩
-- laws_eqWire
def E140 : Env := ⟨tys, [], [], []⟩
def A140 (_N : Nat) : List (Nat × Loop (Ty.den .bool)) := []
theorem K140 (N : Nat) (a0 : (Int × Int × Int)) (a1 : (Int × Int × Int)) : fnK N (E140) Go.Proofs.Try.f140 [wire, wire] .bool (A140 N) (a0, a1, ()) = r_laws_eqWire N a0 a1 := by kernel_rfl
theorem L140 (N : Nat) : LoopsOk N (E140) (A140 N) Go.Proofs.Try.f140.ntmps (retOf (E140) Go.Proofs.Try.f140 .bool) (loopsOf (Go.Proofs.Try.f140.body.getD .skip)) :=
  LoopsOk.of (l := []) (by kernel_rfl) .nil
theorem There140 : There Go.Proofs.Try.prog 140 := ⟨_, Go.Proofs.Try.func140, by kernel_rfl, by kernel_rfl⟩
theorem C140 {f : ((Int × Int × Int) × (Int × Int × Int) × Unit → Option Bool)} (h : ∀ a0 a1 r, f (a0, a1, ()) = some r → ∃ N, r_laws_eqWire N a0 a1 = some r) : Contract Go.Proofs.Try.prog 140 ⟨[wire, wire], .bool, f⟩ := by
  refine contract (E := E140) (envOf table trivial trivial) mixed Go.Proofs.Try.func140 (c := Go.Proofs.Try.f140.body.getD .skip) (by kernel_rfl) (Nat.le_of_ble_eq_true (by kernel_rfl)) fun xs r hr => ?_
  obtain ⟨a0, a1, _⟩ := xs
  obtain ⟨N, hN⟩ := h _ _ r hr
  exact ⟨N, A140 N, L140 N, (K140 N a0 a1).trans hN⟩
theorem X140 : Contract Go.Proofs.Try.prog 140 ⟨[wire, wire], .bool, e_laws_eqWire⟩ := C140 fun _ _ _ h => ⟨N0, h⟩
-- laws_eqWireS
def E78 (c_laws_eqWire : ((Int × Int × Int) × (Int × Int × Int) × Unit → Option Bool)) : Env := ⟨tys, [], [(140, ⟨[wire, wire], .bool, c_laws_eqWire⟩)], []⟩
def A78 (c_laws_eqWire : ((Int × Int × Int) × (Int × Int × Int) × Unit → Option Bool)) (N : Nat) : List (Nat × Loop (Ty.den .bool)) := [(0, ⟨[(0, .ro none (.slice (.pair (.num .i64) (.pair (.num .i64) (.num .i64))))), (1, .ro none (.slice (.pair (.num .i64) (.pair (.num .i64) (.num .i64))))), (5, .ro none (.num .i64))], r_laws_eqWireS_L0 c_laws_eqWire N⟩)]
theorem K78 (c_laws_eqWire : ((Int × Int × Int) × (Int × Int × Int) × Unit → Option Bool)) (N : Nat) (a0 : (List (Int × Int × Int))) (a1 : (List (Int × Int × Int))) : fnK N (E78 c_laws_eqWire) Go.Proofs.Try.f78 [(.slice wire), (.slice wire)] .bool (A78 c_laws_eqWire N) (a0, a1, ()) = r_laws_eqWireS c_laws_eqWire N a0 a1 := by kernel_rfl
theorem L78 (c_laws_eqWire : ((Int × Int × Int) × (Int × Int × Int) × Unit → Option Bool)) (N : Nat) : LoopsOk N (E78 c_laws_eqWire) (A78 c_laws_eqWire N) Go.Proofs.Try.f78.ntmps (retOf (E78 c_laws_eqWire) Go.Proofs.Try.f78 .bool) (loopsOf (Go.Proofs.Try.f78.body.getD .skip)) :=
  LoopsOk.of (l := [(0, lb Go.Proofs.Try.f78 0)]) (by kernel_rfl) (.cons (L := ⟨[(0, .ro none (.slice (.pair (.num .i64) (.pair (.num .i64) (.num .i64))))), (1, .ro none (.slice (.pair (.num .i64) (.pair (.num .i64) (.num .i64))))), (5, .ro none (.num .i64))], r_laws_eqWireS_L0 c_laws_eqWire N⟩) (by kernel_rfl) (by intro s kc ke env; kernel_rfl) .nil)
theorem There78 : There Go.Proofs.Try.prog 78 := ⟨_, Go.Proofs.Try.func78, by kernel_rfl, by kernel_rfl⟩
theorem C78 {c_laws_eqWire : ((Int × Int × Int) × (Int × Int × Int) × Unit → Option Bool)} (h_c_laws_eqWire : Contract Go.Proofs.Try.prog 140 ⟨[wire, wire], .bool, c_laws_eqWire⟩) {f : ((List (Int × Int × Int)) × (List (Int × Int × Int)) × Unit → Option Bool)} (h : ∀ a0 a1 r, f (a0, a1, ()) = some r → ∃ N, r_laws_eqWireS c_laws_eqWire N a0 a1 = some r) : Contract Go.Proofs.Try.prog 78 ⟨[(.slice wire), (.slice wire)], .bool, f⟩ := by
  refine contract (E := E78 c_laws_eqWire) (envOf table ⟨⟨h_c_laws_eqWire, There140⟩, trivial⟩ trivial) mixed Go.Proofs.Try.func78 (c := Go.Proofs.Try.f78.body.getD .skip) (by kernel_rfl) (Nat.le_of_ble_eq_true (by kernel_rfl)) fun xs r hr => ?_
  obtain ⟨a0, a1, _⟩ := xs
  obtain ⟨N, hN⟩ := h _ _ r hr
  exact ⟨N, A78 c_laws_eqWire N, L78 c_laws_eqWire N, (K78 c_laws_eqWire N a0 a1).trans hN⟩
theorem X78 : Contract Go.Proofs.Try.prog 78 ⟨[(.slice wire), (.slice wire)], .bool, e_laws_eqWireS⟩ := C78 X140 fun _ _ _ h => ⟨N0, h⟩
-- laws_eqNet
def E20 (c_laws_eqWireS : ((List (Int × Int × Int)) × (List (Int × Int × Int)) × Unit → Option Bool)) : Env := ⟨tys, [], [(78, ⟨[(.slice wire), (.slice wire)], .bool, c_laws_eqWireS⟩)], []⟩
def A20 (_c_laws_eqWireS : ((List (Int × Int × Int)) × (List (Int × Int × Int)) × Unit → Option Bool)) (_N : Nat) : List (Nat × Loop (Ty.den .bool)) := []
theorem K20 (c_laws_eqWireS : ((List (Int × Int × Int)) × (List (Int × Int × Int)) × Unit → Option Bool)) (N : Nat) (a0 : (Int × Int × Int × List (Int × Int × Int))) (a1 : (Int × Int × Int × List (Int × Int × Int))) : fnK N (E20 c_laws_eqWireS) Go.Proofs.Try.f20 [net, net] .bool (A20 c_laws_eqWireS N) (a0, a1, ()) = r_laws_eqNet c_laws_eqWireS N a0 a1 := by kernel_rfl
theorem L20 (c_laws_eqWireS : ((List (Int × Int × Int)) × (List (Int × Int × Int)) × Unit → Option Bool)) (N : Nat) : LoopsOk N (E20 c_laws_eqWireS) (A20 c_laws_eqWireS N) Go.Proofs.Try.f20.ntmps (retOf (E20 c_laws_eqWireS) Go.Proofs.Try.f20 .bool) (loopsOf (Go.Proofs.Try.f20.body.getD .skip)) :=
  LoopsOk.of (l := []) (by kernel_rfl) .nil
theorem There20 : There Go.Proofs.Try.prog 20 := ⟨_, Go.Proofs.Try.func20, by kernel_rfl, by kernel_rfl⟩
theorem C20 {c_laws_eqWireS : ((List (Int × Int × Int)) × (List (Int × Int × Int)) × Unit → Option Bool)} (h_c_laws_eqWireS : Contract Go.Proofs.Try.prog 78 ⟨[(.slice wire), (.slice wire)], .bool, c_laws_eqWireS⟩) {f : ((Int × Int × Int × List (Int × Int × Int)) × (Int × Int × Int × List (Int × Int × Int)) × Unit → Option Bool)} (h : ∀ a0 a1 r, f (a0, a1, ()) = some r → ∃ N, r_laws_eqNet c_laws_eqWireS N a0 a1 = some r) : Contract Go.Proofs.Try.prog 20 ⟨[net, net], .bool, f⟩ := by
  refine contract (E := E20 c_laws_eqWireS) (envOf table ⟨⟨h_c_laws_eqWireS, There78⟩, trivial⟩ trivial) mixed Go.Proofs.Try.func20 (c := Go.Proofs.Try.f20.body.getD .skip) (by kernel_rfl) (Nat.le_of_ble_eq_true (by kernel_rfl)) fun xs r hr => ?_
  obtain ⟨a0, a1, _⟩ := xs
  obtain ⟨N, hN⟩ := h _ _ r hr
  exact ⟨N, A20 c_laws_eqWireS N, L20 c_laws_eqWireS N, (K20 c_laws_eqWireS N a0 a1).trans hN⟩
theorem X20 : Contract Go.Proofs.Try.prog 20 ⟨[net, net], .bool, e_laws_eqNet⟩ := C20 X78 fun _ _ _ h => ⟨N0, h⟩
-- laws_eqRatio
def E19 : Env := ⟨tys, [], [], []⟩
def A19 (_N : Nat) : List (Nat × Loop (Ty.den .bool)) := []
theorem K19 (N : Nat) (a0 : (Int × Int)) (a1 : (Int × Int)) : fnK N (E19) Go.Proofs.Try.f19 [ratio, ratio] .bool (A19 N) (a0, a1, ()) = r_laws_eqRatio N a0 a1 := by kernel_rfl
theorem L19 (N : Nat) : LoopsOk N (E19) (A19 N) Go.Proofs.Try.f19.ntmps (retOf (E19) Go.Proofs.Try.f19 .bool) (loopsOf (Go.Proofs.Try.f19.body.getD .skip)) :=
  LoopsOk.of (l := []) (by kernel_rfl) .nil
theorem There19 : There Go.Proofs.Try.prog 19 := ⟨_, Go.Proofs.Try.func19, by kernel_rfl, by kernel_rfl⟩
theorem C19 {f : ((Int × Int) × (Int × Int) × Unit → Option Bool)} (h : ∀ a0 a1 r, f (a0, a1, ()) = some r → ∃ N, r_laws_eqRatio N a0 a1 = some r) : Contract Go.Proofs.Try.prog 19 ⟨[ratio, ratio], .bool, f⟩ := by
  refine contract (E := E19) (envOf table trivial trivial) mixed Go.Proofs.Try.func19 (c := Go.Proofs.Try.f19.body.getD .skip) (by kernel_rfl) (Nat.le_of_ble_eq_true (by kernel_rfl)) fun xs r hr => ?_
  obtain ⟨a0, a1, _⟩ := xs
  obtain ⟨N, hN⟩ := h _ _ r hr
  exact ⟨N, A19 N, L19 N, (K19 N a0 a1).trans hN⟩
theorem X19 : Contract Go.Proofs.Try.prog 19 ⟨[ratio, ratio], .bool, e_laws_eqRatio⟩ := C19 fun _ _ _ h => ⟨N0, h⟩
-- laws_eqRatioS
def E102 (c_laws_eqRatio : ((Int × Int) × (Int × Int) × Unit → Option Bool)) : Env := ⟨tys, [], [(19, ⟨[ratio, ratio], .bool, c_laws_eqRatio⟩)], []⟩
def A102 (c_laws_eqRatio : ((Int × Int) × (Int × Int) × Unit → Option Bool)) (N : Nat) : List (Nat × Loop (Ty.den .bool)) := [(0, ⟨[(0, .ro none (.slice (.pair (.num .i64) (.num .i64)))), (1, .ro none (.slice (.pair (.num .i64) (.num .i64)))), (5, .ro none (.num .i64))], r_laws_eqRatioS_L0 c_laws_eqRatio N⟩)]
theorem K102 (c_laws_eqRatio : ((Int × Int) × (Int × Int) × Unit → Option Bool)) (N : Nat) (a0 : (List (Int × Int))) (a1 : (List (Int × Int))) : fnK N (E102 c_laws_eqRatio) Go.Proofs.Try.f102 [(.slice ratio), (.slice ratio)] .bool (A102 c_laws_eqRatio N) (a0, a1, ()) = r_laws_eqRatioS c_laws_eqRatio N a0 a1 := by kernel_rfl
theorem L102 (c_laws_eqRatio : ((Int × Int) × (Int × Int) × Unit → Option Bool)) (N : Nat) : LoopsOk N (E102 c_laws_eqRatio) (A102 c_laws_eqRatio N) Go.Proofs.Try.f102.ntmps (retOf (E102 c_laws_eqRatio) Go.Proofs.Try.f102 .bool) (loopsOf (Go.Proofs.Try.f102.body.getD .skip)) :=
  LoopsOk.of (l := [(0, lb Go.Proofs.Try.f102 0)]) (by kernel_rfl) (.cons (L := ⟨[(0, .ro none (.slice (.pair (.num .i64) (.num .i64)))), (1, .ro none (.slice (.pair (.num .i64) (.num .i64)))), (5, .ro none (.num .i64))], r_laws_eqRatioS_L0 c_laws_eqRatio N⟩) (by kernel_rfl) (by intro s kc ke env; kernel_rfl) .nil)
theorem There102 : There Go.Proofs.Try.prog 102 := ⟨_, Go.Proofs.Try.func102, by kernel_rfl, by kernel_rfl⟩
theorem C102 {c_laws_eqRatio : ((Int × Int) × (Int × Int) × Unit → Option Bool)} (h_c_laws_eqRatio : Contract Go.Proofs.Try.prog 19 ⟨[ratio, ratio], .bool, c_laws_eqRatio⟩) {f : ((List (Int × Int)) × (List (Int × Int)) × Unit → Option Bool)} (h : ∀ a0 a1 r, f (a0, a1, ()) = some r → ∃ N, r_laws_eqRatioS c_laws_eqRatio N a0 a1 = some r) : Contract Go.Proofs.Try.prog 102 ⟨[(.slice ratio), (.slice ratio)], .bool, f⟩ := by
  refine contract (E := E102 c_laws_eqRatio) (envOf table ⟨⟨h_c_laws_eqRatio, There19⟩, trivial⟩ trivial) mixed Go.Proofs.Try.func102 (c := Go.Proofs.Try.f102.body.getD .skip) (by kernel_rfl) (Nat.le_of_ble_eq_true (by kernel_rfl)) fun xs r hr => ?_
  obtain ⟨a0, a1, _⟩ := xs
  obtain ⟨N, hN⟩ := h _ _ r hr
  exact ⟨N, A102 c_laws_eqRatio N, L102 c_laws_eqRatio N, (K102 c_laws_eqRatio N a0 a1).trans hN⟩
theorem X102 : Contract Go.Proofs.Try.prog 102 ⟨[(.slice ratio), (.slice ratio)], .bool, e_laws_eqRatioS⟩ := C102 X19 fun _ _ _ h => ⟨N0, h⟩
-- laws_eqRatioSS
def E34 (c_laws_eqRatioS : ((List (Int × Int)) × (List (Int × Int)) × Unit → Option Bool)) : Env := ⟨tys, [], [(102, ⟨[(.slice ratio), (.slice ratio)], .bool, c_laws_eqRatioS⟩)], []⟩
def A34 (c_laws_eqRatioS : ((List (Int × Int)) × (List (Int × Int)) × Unit → Option Bool)) (N : Nat) : List (Nat × Loop (Ty.den .bool)) := [(0, ⟨[(0, .ro none (.slice (.slice (.pair (.num .i64) (.num .i64))))), (1, .ro none (.slice (.slice (.pair (.num .i64) (.num .i64))))), (5, .ro none (.num .i64))], r_laws_eqRatioSS_L0 c_laws_eqRatioS N⟩)]
theorem K34 (c_laws_eqRatioS : ((List (Int × Int)) × (List (Int × Int)) × Unit → Option Bool)) (N : Nat) (a0 : (List (List (Int × Int)))) (a1 : (List (List (Int × Int)))) : fnK N (E34 c_laws_eqRatioS) Go.Proofs.Try.f34 [(.slice (.slice ratio)), (.slice (.slice ratio))] .bool (A34 c_laws_eqRatioS N) (a0, a1, ()) = r_laws_eqRatioSS c_laws_eqRatioS N a0 a1 := by kernel_rfl
theorem L34 (c_laws_eqRatioS : ((List (Int × Int)) × (List (Int × Int)) × Unit → Option Bool)) (N : Nat) : LoopsOk N (E34 c_laws_eqRatioS) (A34 c_laws_eqRatioS N) Go.Proofs.Try.f34.ntmps (retOf (E34 c_laws_eqRatioS) Go.Proofs.Try.f34 .bool) (loopsOf (Go.Proofs.Try.f34.body.getD .skip)) :=
  LoopsOk.of (l := [(0, lb Go.Proofs.Try.f34 0)]) (by kernel_rfl) (.cons (L := ⟨[(0, .ro none (.slice (.slice (.pair (.num .i64) (.num .i64))))), (1, .ro none (.slice (.slice (.pair (.num .i64) (.num .i64))))), (5, .ro none (.num .i64))], r_laws_eqRatioSS_L0 c_laws_eqRatioS N⟩) (by kernel_rfl) (by intro s kc ke env; kernel_rfl) .nil)
theorem There34 : There Go.Proofs.Try.prog 34 := ⟨_, Go.Proofs.Try.func34, by kernel_rfl, by kernel_rfl⟩
theorem C34 {c_laws_eqRatioS : ((List (Int × Int)) × (List (Int × Int)) × Unit → Option Bool)} (h_c_laws_eqRatioS : Contract Go.Proofs.Try.prog 102 ⟨[(.slice ratio), (.slice ratio)], .bool, c_laws_eqRatioS⟩) {f : ((List (List (Int × Int))) × (List (List (Int × Int))) × Unit → Option Bool)} (h : ∀ a0 a1 r, f (a0, a1, ()) = some r → ∃ N, r_laws_eqRatioSS c_laws_eqRatioS N a0 a1 = some r) : Contract Go.Proofs.Try.prog 34 ⟨[(.slice (.slice ratio)), (.slice (.slice ratio))], .bool, f⟩ := by
  refine contract (E := E34 c_laws_eqRatioS) (envOf table ⟨⟨h_c_laws_eqRatioS, There102⟩, trivial⟩ trivial) mixed Go.Proofs.Try.func34 (c := Go.Proofs.Try.f34.body.getD .skip) (by kernel_rfl) (Nat.le_of_ble_eq_true (by kernel_rfl)) fun xs r hr => ?_
  obtain ⟨a0, a1, _⟩ := xs
  obtain ⟨N, hN⟩ := h _ _ r hr
  exact ⟨N, A34 c_laws_eqRatioS N, L34 c_laws_eqRatioS N, (K34 c_laws_eqRatioS N a0 a1).trans hN⟩
theorem X34 : Contract Go.Proofs.Try.prog 34 ⟨[(.slice (.slice ratio)), (.slice (.slice ratio))], .bool, e_laws_eqRatioSS⟩ := C34 X102 fun _ _ _ h => ⟨N0, h⟩
-- laws_markWireS
def E103 : Env := ⟨tys, [], [], []⟩
def A103 (N : Nat) : List (Nat × Loop (Ty.den (.slice wire) × resDen (some int))) := [(0, ⟨[(0, .own (.slice (.pair (.num .i64) (.pair (.num .i64) (.num .i64))))), (1, .ro none (.num .i64)), (5, .ro none (.num .i64))], r_laws_markWireS_L0 N⟩)]
theorem K103 (m_laws_markWireS_ : ((List (Int × Int × Int)) → (Int × Unit) → Option ((List (Int × Int × Int)) × Int))) (N : Nat) (a0 : (List (Int × Int × Int))) (a1 : Int) : fnMut N (E103) Go.Proofs.Try.f103 ⟨(.slice wire), 0, [int], some int, m_laws_markWireS_⟩ (A103 N) a0 (a1, ()) = r_laws_markWireS N a0 a1 := by kernel_rfl
theorem L103 (m_laws_markWireS_ : ((List (Int × Int × Int)) → (Int × Unit) → Option ((List (Int × Int × Int)) × Int))) (N : Nat) : LoopsOk N (E103) (A103 N) Go.Proofs.Try.f103.ntmps (retM (E103) Go.Proofs.Try.f103 ⟨(.slice wire), 0, [int], some int, m_laws_markWireS_⟩) (loopsOf (Go.Proofs.Try.f103.body.getD .skip)) :=
  LoopsOk.of (l := [(0, lb Go.Proofs.Try.f103 0)]) (by kernel_rfl) (.cons (L := ⟨[(0, .own (.slice (.pair (.num .i64) (.pair (.num .i64) (.num .i64))))), (1, .ro none (.num .i64)), (5, .ro none (.num .i64))], r_laws_markWireS_L0 N⟩) (by kernel_rfl) (by intro s kc ke env; kernel_rfl) .nil)
theorem There103 : There Go.Proofs.Try.prog 103 := ⟨_, Go.Proofs.Try.func103, by kernel_rfl, by kernel_rfl⟩
theorem C103 {f : ((List (Int × Int × Int)) → (Int × Unit) → Option ((List (Int × Int × Int)) × Int))} (h : ∀ a0 a1 r, f a0 (a1, ()) = some r → ∃ N, r_laws_markWireS N a0 a1 = some r) : MutC Go.Proofs.Try.prog 103 ⟨(.slice wire), 0, [int], some int, f⟩ := by
  refine mutC (E := E103) (envOf table trivial trivial) mixed Go.Proofs.Try.func103 (c := Go.Proofs.Try.f103.body.getD .skip) (by kernel_rfl) (Nat.le_of_ble_eq_true (by kernel_rfl)) (Nat.le_of_ble_eq_true (by kernel_rfl)) (by kernel_rfl) fun a0 xs r hr => ?_
  obtain ⟨a1, _⟩ := xs
  obtain ⟨N, hN⟩ := h _ _ r hr
  exact ⟨N, A103 N, L103 f N, (K103 f N a0 a1).trans hN⟩
theorem X103 : MutC Go.Proofs.Try.prog 103 ⟨(.slice wire), 0, [int], some int, e_laws_markWireS⟩ := C103 fun _ _ _ h => ⟨N0, h⟩
-- laws_markNet
theorem There35 : There Go.Proofs.Try.prog 35 := ⟨_, Go.Proofs.Try.func35, by kernel_rfl, by kernel_rfl⟩
theorem X35 : MutC Go.Proofs.Try.prog 35 ⟨net, 0, [int], some int, e_laws_markNet⟩ :=
  mutC_net (envOf (mu := []) (sp := []) table trivial trivial) (D := 32) (S := 30) (by kernel_rfl) (by kernel_rfl) (by kernel_rfl) X103 There103 Go.Proofs.Try.func35 rfl rfl rfl

-- laws_markRatioS
def E104 : Env := ⟨tys, [], [], []⟩
def A104 (N : Nat) : List (Nat × Loop (Ty.den (.slice ratio) × resDen (some int))) := [(0, ⟨[(0, .own (.slice (.pair (.num .i64) (.num .i64)))), (1, .ro none (.num .i64)), (5, .ro none (.num .i64))], r_laws_markRatioS_L0 N⟩)]
theorem K104 (m_laws_markRatioS_ : ((List (Int × Int)) → (Int × Unit) → Option ((List (Int × Int)) × Int))) (N : Nat) (a0 : (List (Int × Int))) (a1 : Int) : fnMut N (E104) Go.Proofs.Try.f104 ⟨(.slice ratio), 0, [int], some int, m_laws_markRatioS_⟩ (A104 N) a0 (a1, ()) = r_laws_markRatioS N a0 a1 := by kernel_rfl
theorem L104 (m_laws_markRatioS_ : ((List (Int × Int)) → (Int × Unit) → Option ((List (Int × Int)) × Int))) (N : Nat) : LoopsOk N (E104) (A104 N) Go.Proofs.Try.f104.ntmps (retM (E104) Go.Proofs.Try.f104 ⟨(.slice ratio), 0, [int], some int, m_laws_markRatioS_⟩) (loopsOf (Go.Proofs.Try.f104.body.getD .skip)) :=
  LoopsOk.of (l := [(0, lb Go.Proofs.Try.f104 0)]) (by kernel_rfl) (.cons (L := ⟨[(0, .own (.slice (.pair (.num .i64) (.num .i64)))), (1, .ro none (.num .i64)), (5, .ro none (.num .i64))], r_laws_markRatioS_L0 N⟩) (by kernel_rfl) (by intro s kc ke env; kernel_rfl) .nil)
theorem There104 : There Go.Proofs.Try.prog 104 := ⟨_, Go.Proofs.Try.func104, by kernel_rfl, by kernel_rfl⟩
theorem C104 {f : ((List (Int × Int)) → (Int × Unit) → Option ((List (Int × Int)) × Int))} (h : ∀ a0 a1 r, f a0 (a1, ()) = some r → ∃ N, r_laws_markRatioS N a0 a1 = some r) : MutC Go.Proofs.Try.prog 104 ⟨(.slice ratio), 0, [int], some int, f⟩ := by
  refine mutC (E := E104) (envOf table trivial trivial) mixed Go.Proofs.Try.func104 (c := Go.Proofs.Try.f104.body.getD .skip) (by kernel_rfl) (Nat.le_of_ble_eq_true (by kernel_rfl)) (Nat.le_of_ble_eq_true (by kernel_rfl)) (by kernel_rfl) fun a0 xs r hr => ?_
  obtain ⟨a1, _⟩ := xs
  obtain ⟨N, hN⟩ := h _ _ r hr
  exact ⟨N, A104 N, L104 f N, (K104 f N a0 a1).trans hN⟩
theorem X104 : MutC Go.Proofs.Try.prog 104 ⟨(.slice ratio), 0, [int], some int, e_laws_markRatioS⟩ := C104 fun _ _ _ h => ⟨N0, h⟩
-- laws_markRatioSS
def E36 (m_laws_markRatioS : ((List (Int × Int)) → (Int × Unit) → Option ((List (Int × Int)) × Int))) : Env := ⟨tys, [], [], [(104, ⟨(.slice ratio), 0, [int], some int, m_laws_markRatioS⟩)]⟩
def A36 (m_laws_markRatioS : ((List (Int × Int)) → (Int × Unit) → Option ((List (Int × Int)) × Int))) (N : Nat) : List (Nat × Loop (Ty.den (.slice (.slice ratio)) × resDen (some int))) := [(0, ⟨[(0, .own (.slice (.slice (.pair (.num .i64) (.num .i64))))), (1, .ro none (.num .i64)), (5, .ro none (.num .i64))], r_laws_markRatioSS_L0 m_laws_markRatioS N⟩)]
theorem K36 (m_laws_markRatioS : ((List (Int × Int)) → (Int × Unit) → Option ((List (Int × Int)) × Int))) (m_laws_markRatioSS_ : ((List (List (Int × Int))) → (Int × Unit) → Option ((List (List (Int × Int))) × Int))) (N : Nat) (a0 : (List (List (Int × Int)))) (a1 : Int) : fnMut N (E36 m_laws_markRatioS) Go.Proofs.Try.f36 ⟨(.slice (.slice ratio)), 0, [int], some int, m_laws_markRatioSS_⟩ (A36 m_laws_markRatioS N) a0 (a1, ()) = r_laws_markRatioSS m_laws_markRatioS N a0 a1 := by kernel_rfl
theorem L36 (m_laws_markRatioS : ((List (Int × Int)) → (Int × Unit) → Option ((List (Int × Int)) × Int))) (m_laws_markRatioSS_ : ((List (List (Int × Int))) → (Int × Unit) → Option ((List (List (Int × Int))) × Int))) (N : Nat) : LoopsOk N (E36 m_laws_markRatioS) (A36 m_laws_markRatioS N) Go.Proofs.Try.f36.ntmps (retM (E36 m_laws_markRatioS) Go.Proofs.Try.f36 ⟨(.slice (.slice ratio)), 0, [int], some int, m_laws_markRatioSS_⟩) (loopsOf (Go.Proofs.Try.f36.body.getD .skip)) :=
  LoopsOk.of (l := [(0, lb Go.Proofs.Try.f36 0)]) (by kernel_rfl) (.cons (L := ⟨[(0, .own (.slice (.slice (.pair (.num .i64) (.num .i64))))), (1, .ro none (.num .i64)), (5, .ro none (.num .i64))], r_laws_markRatioSS_L0 m_laws_markRatioS N⟩) (by kernel_rfl) (by intro s kc ke env; kernel_rfl) .nil)
theorem There36 : There Go.Proofs.Try.prog 36 := ⟨_, Go.Proofs.Try.func36, by kernel_rfl, by kernel_rfl⟩
theorem C36 {m_laws_markRatioS : ((List (Int × Int)) → (Int × Unit) → Option ((List (Int × Int)) × Int))} (h_m_laws_markRatioS : MutC Go.Proofs.Try.prog 104 ⟨(.slice ratio), 0, [int], some int, m_laws_markRatioS⟩) {f : ((List (List (Int × Int))) → (Int × Unit) → Option ((List (List (Int × Int))) × Int))} (h : ∀ a0 a1 r, f a0 (a1, ()) = some r → ∃ N, r_laws_markRatioSS m_laws_markRatioS N a0 a1 = some r) : MutC Go.Proofs.Try.prog 36 ⟨(.slice (.slice ratio)), 0, [int], some int, f⟩ := by
  refine mutC (E := E36 m_laws_markRatioS) (envOf table trivial ⟨⟨h_m_laws_markRatioS, There104⟩, trivial⟩) mixed Go.Proofs.Try.func36 (c := Go.Proofs.Try.f36.body.getD .skip) (by kernel_rfl) (Nat.le_of_ble_eq_true (by kernel_rfl)) (Nat.le_of_ble_eq_true (by kernel_rfl)) (by kernel_rfl) fun a0 xs r hr => ?_
  obtain ⟨a1, _⟩ := xs
  obtain ⟨N, hN⟩ := h _ _ r hr
  exact ⟨N, A36 m_laws_markRatioS N, L36 m_laws_markRatioS f N, (K36 m_laws_markRatioS f N a0 a1).trans hN⟩
theorem X36 : MutC Go.Proofs.Try.prog 36 ⟨(.slice (.slice ratio)), 0, [int], some int, e_laws_markRatioSS⟩ := C36 X104 fun _ _ _ h => ⟨N0, h⟩
-- laws_markFaultS
def E37 : Env := ⟨tys, [], [], []⟩
def A37 (N : Nat) : List (Nat × Loop (Ty.den (.slice fault) × resDen (some int))) := [(0, ⟨[(0, .own (.slice (.pair (.num .i64) (.num .i64)))), (1, .ro none (.num .i64)), (5, .ro none (.num .i64))], r_laws_markFaultS_L0 N⟩)]
theorem K37 (m_laws_markFaultS_ : ((List (Int × Int)) → (Int × Unit) → Option ((List (Int × Int)) × Int))) (N : Nat) (a0 : (List (Int × Int))) (a1 : Int) : fnMut N (E37) Go.Proofs.Try.f37 ⟨(.slice fault), 0, [int], some int, m_laws_markFaultS_⟩ (A37 N) a0 (a1, ()) = r_laws_markFaultS N a0 a1 := by kernel_rfl
theorem L37 (m_laws_markFaultS_ : ((List (Int × Int)) → (Int × Unit) → Option ((List (Int × Int)) × Int))) (N : Nat) : LoopsOk N (E37) (A37 N) Go.Proofs.Try.f37.ntmps (retM (E37) Go.Proofs.Try.f37 ⟨(.slice fault), 0, [int], some int, m_laws_markFaultS_⟩) (loopsOf (Go.Proofs.Try.f37.body.getD .skip)) :=
  LoopsOk.of (l := [(0, lb Go.Proofs.Try.f37 0)]) (by kernel_rfl) (.cons (L := ⟨[(0, .own (.slice (.pair (.num .i64) (.num .i64)))), (1, .ro none (.num .i64)), (5, .ro none (.num .i64))], r_laws_markFaultS_L0 N⟩) (by kernel_rfl) (by intro s kc ke env; kernel_rfl) .nil)
theorem There37 : There Go.Proofs.Try.prog 37 := ⟨_, Go.Proofs.Try.func37, by kernel_rfl, by kernel_rfl⟩
theorem C37 {f : ((List (Int × Int)) → (Int × Unit) → Option ((List (Int × Int)) × Int))} (h : ∀ a0 a1 r, f a0 (a1, ()) = some r → ∃ N, r_laws_markFaultS N a0 a1 = some r) : MutC Go.Proofs.Try.prog 37 ⟨(.slice fault), 0, [int], some int, f⟩ := by
  refine mutC (E := E37) (envOf table trivial trivial) mixed Go.Proofs.Try.func37 (c := Go.Proofs.Try.f37.body.getD .skip) (by kernel_rfl) (Nat.le_of_ble_eq_true (by kernel_rfl)) (Nat.le_of_ble_eq_true (by kernel_rfl)) (by kernel_rfl) fun a0 xs r hr => ?_
  obtain ⟨a1, _⟩ := xs
  obtain ⟨N, hN⟩ := h _ _ r hr
  exact ⟨N, A37 N, L37 f N, (K37 f N a0 a1).trans hN⟩
theorem X37 : MutC Go.Proofs.Try.prog 37 ⟨(.slice fault), 0, [int], some int, e_laws_markFaultS⟩ := C37 fun _ _ _ h => ⟨N0, h⟩
-- laws_heldFaultS
def E38 : Env := ⟨tys, [], [], []⟩
def A38 (N : Nat) : List (Nat × Loop (Ty.den int)) := [(0, ⟨[(0, .ro none (.slice (.pair (.num .i64) (.num .i64)))), (1, .ro none (.num .i64)), (5, .ro none (.num .i64))], r_laws_heldFaultS_L0 N⟩)]
theorem K38 (N : Nat) (a0 : (List (Int × Int))) (a1 : Int) : fnK N (E38) Go.Proofs.Try.f38 [(.slice fault), int] int (A38 N) (a0, a1, ()) = r_laws_heldFaultS N a0 a1 := by kernel_rfl
theorem L38 (N : Nat) : LoopsOk N (E38) (A38 N) Go.Proofs.Try.f38.ntmps (retOf (E38) Go.Proofs.Try.f38 int) (loopsOf (Go.Proofs.Try.f38.body.getD .skip)) :=
  LoopsOk.of (l := [(0, lb Go.Proofs.Try.f38 0)]) (by kernel_rfl) (.cons (L := ⟨[(0, .ro none (.slice (.pair (.num .i64) (.num .i64)))), (1, .ro none (.num .i64)), (5, .ro none (.num .i64))], r_laws_heldFaultS_L0 N⟩) (by kernel_rfl) (by intro s kc ke env; kernel_rfl) .nil)
theorem There38 : There Go.Proofs.Try.prog 38 := ⟨_, Go.Proofs.Try.func38, by kernel_rfl, by kernel_rfl⟩
theorem C38 {f : ((List (Int × Int)) × Int × Unit → Option Int)} (h : ∀ a0 a1 r, f (a0, a1, ()) = some r → ∃ N, r_laws_heldFaultS N a0 a1 = some r) : Contract Go.Proofs.Try.prog 38 ⟨[(.slice fault), int], int, f⟩ := by
  refine contract (E := E38) (envOf table trivial trivial) mixed Go.Proofs.Try.func38 (c := Go.Proofs.Try.f38.body.getD .skip) (by kernel_rfl) (Nat.le_of_ble_eq_true (by kernel_rfl)) fun xs r hr => ?_
  obtain ⟨a0, a1, _⟩ := xs
  obtain ⟨N, hN⟩ := h _ _ r hr
  exact ⟨N, A38 N, L38 N, (K38 N a0 a1).trans hN⟩
theorem X38 : Contract Go.Proofs.Try.prog 38 ⟨[(.slice fault), int], int, e_laws_heldFaultS⟩ := C38 fun _ _ _ h => ⟨N0, h⟩
-- laws_FnExactFaultsLike
def E7 (c_laws_szNet : ((Int × Int × Int × List (Int × Int × Int)) × Int × Unit → Option Int)) (c_laws_szRatioSS : ((List (List (Int × Int))) × Int × Unit → Option Int)) (c_laws_toNet : ((Int × Int × Int × List (Int × Int × Int)) × Unit → Option (Int × Int × Int × List (Int × Int × Int)))) (c_laws_toRatioSS : ((List (List (Int × Int))) × Unit → Option (List (List (Int × Int))))) (c_spec_FaultsLike : ((Int × Int × Int × List (Int × Int × Int)) × (List (List (Int × Int))) × Unit → Option (List (Int × Int)))) (c_impl_FaultsLike : ((Int × Int × Int × List (Int × Int × Int)) × (List (List (Int × Int))) × Unit → Option (List (Int × Int)))) (c_laws_eqFaultS : ((List (Int × Int)) × (List (Int × Int)) × Unit → Option Bool)) (c_laws_eqNet : ((Int × Int × Int × List (Int × Int × Int)) × (Int × Int × Int × List (Int × Int × Int)) × Unit → Option Bool)) (c_laws_eqRatioSS : ((List (List (Int × Int))) × (List (List (Int × Int))) × Unit → Option Bool)) (m_laws_markNet : ((Int × Int × Int × List (Int × Int × Int)) → (Int × Unit) → Option ((Int × Int × Int × List (Int × Int × Int)) × Int))) (m_laws_markRatioSS : ((List (List (Int × Int))) → (Int × Unit) → Option ((List (List (Int × Int))) × Int))) (m_laws_markFaultS : ((List (Int × Int)) → (Int × Unit) → Option ((List (Int × Int)) × Int))) (c_laws_heldFaultS : ((List (Int × Int)) × Int × Unit → Option Int)) : Env := ⟨tys, [], [(15, ⟨[net, int], int, c_laws_szNet⟩), (29, ⟨[(.slice (.slice ratio)), int], int, c_laws_szRatioSS⟩), (17, ⟨[net], net, c_laws_toNet⟩), (31, ⟨[(.slice (.slice ratio))], (.slice (.slice ratio)), c_laws_toRatioSS⟩), (30, ⟨[net, (.slice (.slice ratio))], (.slice fault), c_spec_FaultsLike⟩), (32, ⟨[net, (.slice (.slice ratio))], (.slice fault), c_impl_FaultsLike⟩), (33, ⟨[(.slice fault), (.slice fault)], .bool, c_laws_eqFaultS⟩), (20, ⟨[net, net], .bool, c_laws_eqNet⟩), (34, ⟨[(.slice (.slice ratio)), (.slice (.slice ratio))], .bool, c_laws_eqRatioSS⟩), (38, ⟨[(.slice fault), int], int, c_laws_heldFaultS⟩)], [(35, ⟨net, 0, [int], some int, m_laws_markNet⟩), (36, ⟨(.slice (.slice ratio)), 0, [int], some int, m_laws_markRatioSS⟩), (37, ⟨(.slice fault), 0, [int], some int, m_laws_markFaultS⟩)]⟩
def A7 (_c_laws_szNet : ((Int × Int × Int × List (Int × Int × Int)) × Int × Unit → Option Int)) (_c_laws_szRatioSS : ((List (List (Int × Int))) × Int × Unit → Option Int)) (_c_laws_toNet : ((Int × Int × Int × List (Int × Int × Int)) × Unit → Option (Int × Int × Int × List (Int × Int × Int)))) (_c_laws_toRatioSS : ((List (List (Int × Int))) × Unit → Option (List (List (Int × Int))))) (_c_spec_FaultsLike : ((Int × Int × Int × List (Int × Int × Int)) × (List (List (Int × Int))) × Unit → Option (List (Int × Int)))) (_c_impl_FaultsLike : ((Int × Int × Int × List (Int × Int × Int)) × (List (List (Int × Int))) × Unit → Option (List (Int × Int)))) (_c_laws_eqFaultS : ((List (Int × Int)) × (List (Int × Int)) × Unit → Option Bool)) (_c_laws_eqNet : ((Int × Int × Int × List (Int × Int × Int)) × (Int × Int × Int × List (Int × Int × Int)) × Unit → Option Bool)) (_c_laws_eqRatioSS : ((List (List (Int × Int))) × (List (List (Int × Int))) × Unit → Option Bool)) (_m_laws_markNet : ((Int × Int × Int × List (Int × Int × Int)) → (Int × Unit) → Option ((Int × Int × Int × List (Int × Int × Int)) × Int))) (_m_laws_markRatioSS : ((List (List (Int × Int))) → (Int × Unit) → Option ((List (List (Int × Int))) × Int))) (_m_laws_markFaultS : ((List (Int × Int)) → (Int × Unit) → Option ((List (Int × Int)) × Int))) (_c_laws_heldFaultS : ((List (Int × Int)) × Int × Unit → Option Int)) (_N : Nat) : List (Nat × Loop (Ty.den .bool)) := []
theorem K7 (c_laws_szNet : ((Int × Int × Int × List (Int × Int × Int)) × Int × Unit → Option Int)) (c_laws_szRatioSS : ((List (List (Int × Int))) × Int × Unit → Option Int)) (c_laws_toNet : ((Int × Int × Int × List (Int × Int × Int)) × Unit → Option (Int × Int × Int × List (Int × Int × Int)))) (c_laws_toRatioSS : ((List (List (Int × Int))) × Unit → Option (List (List (Int × Int))))) (c_spec_FaultsLike : ((Int × Int × Int × List (Int × Int × Int)) × (List (List (Int × Int))) × Unit → Option (List (Int × Int)))) (c_impl_FaultsLike : ((Int × Int × Int × List (Int × Int × Int)) × (List (List (Int × Int))) × Unit → Option (List (Int × Int)))) (c_laws_eqFaultS : ((List (Int × Int)) × (List (Int × Int)) × Unit → Option Bool)) (c_laws_eqNet : ((Int × Int × Int × List (Int × Int × Int)) × (Int × Int × Int × List (Int × Int × Int)) × Unit → Option Bool)) (c_laws_eqRatioSS : ((List (List (Int × Int))) × (List (List (Int × Int))) × Unit → Option Bool)) (m_laws_markNet : ((Int × Int × Int × List (Int × Int × Int)) → (Int × Unit) → Option ((Int × Int × Int × List (Int × Int × Int)) × Int))) (m_laws_markRatioSS : ((List (List (Int × Int))) → (Int × Unit) → Option ((List (List (Int × Int))) × Int))) (m_laws_markFaultS : ((List (Int × Int)) → (Int × Unit) → Option ((List (Int × Int)) × Int))) (c_laws_heldFaultS : ((List (Int × Int)) × Int × Unit → Option Int)) (N : Nat) (a0 : (Int × Int × Int × List (Int × Int × Int))) (a1 : (List (List (Int × Int)))) : fnK N (E7 c_laws_szNet c_laws_szRatioSS c_laws_toNet c_laws_toRatioSS c_spec_FaultsLike c_impl_FaultsLike c_laws_eqFaultS c_laws_eqNet c_laws_eqRatioSS m_laws_markNet m_laws_markRatioSS m_laws_markFaultS c_laws_heldFaultS) Go.Proofs.Try.f7 [net, (.slice (.slice ratio))] .bool (A7 c_laws_szNet c_laws_szRatioSS c_laws_toNet c_laws_toRatioSS c_spec_FaultsLike c_impl_FaultsLike c_laws_eqFaultS c_laws_eqNet c_laws_eqRatioSS m_laws_markNet m_laws_markRatioSS m_laws_markFaultS c_laws_heldFaultS N) (a0, a1, ()) = r_laws_FnExactFaultsLike c_laws_szNet c_laws_szRatioSS c_laws_toNet c_laws_toRatioSS c_spec_FaultsLike c_impl_FaultsLike c_laws_eqFaultS c_laws_eqNet c_laws_eqRatioSS m_laws_markNet m_laws_markRatioSS m_laws_markFaultS c_laws_heldFaultS N a0 a1 := by kernel_rfl
theorem L7 (c_laws_szNet : ((Int × Int × Int × List (Int × Int × Int)) × Int × Unit → Option Int)) (c_laws_szRatioSS : ((List (List (Int × Int))) × Int × Unit → Option Int)) (c_laws_toNet : ((Int × Int × Int × List (Int × Int × Int)) × Unit → Option (Int × Int × Int × List (Int × Int × Int)))) (c_laws_toRatioSS : ((List (List (Int × Int))) × Unit → Option (List (List (Int × Int))))) (c_spec_FaultsLike : ((Int × Int × Int × List (Int × Int × Int)) × (List (List (Int × Int))) × Unit → Option (List (Int × Int)))) (c_impl_FaultsLike : ((Int × Int × Int × List (Int × Int × Int)) × (List (List (Int × Int))) × Unit → Option (List (Int × Int)))) (c_laws_eqFaultS : ((List (Int × Int)) × (List (Int × Int)) × Unit → Option Bool)) (c_laws_eqNet : ((Int × Int × Int × List (Int × Int × Int)) × (Int × Int × Int × List (Int × Int × Int)) × Unit → Option Bool)) (c_laws_eqRatioSS : ((List (List (Int × Int))) × (List (List (Int × Int))) × Unit → Option Bool)) (m_laws_markNet : ((Int × Int × Int × List (Int × Int × Int)) → (Int × Unit) → Option ((Int × Int × Int × List (Int × Int × Int)) × Int))) (m_laws_markRatioSS : ((List (List (Int × Int))) → (Int × Unit) → Option ((List (List (Int × Int))) × Int))) (m_laws_markFaultS : ((List (Int × Int)) → (Int × Unit) → Option ((List (Int × Int)) × Int))) (c_laws_heldFaultS : ((List (Int × Int)) × Int × Unit → Option Int)) (N : Nat) : LoopsOk N (E7 c_laws_szNet c_laws_szRatioSS c_laws_toNet c_laws_toRatioSS c_spec_FaultsLike c_impl_FaultsLike c_laws_eqFaultS c_laws_eqNet c_laws_eqRatioSS m_laws_markNet m_laws_markRatioSS m_laws_markFaultS c_laws_heldFaultS) (A7 c_laws_szNet c_laws_szRatioSS c_laws_toNet c_laws_toRatioSS c_spec_FaultsLike c_impl_FaultsLike c_laws_eqFaultS c_laws_eqNet c_laws_eqRatioSS m_laws_markNet m_laws_markRatioSS m_laws_markFaultS c_laws_heldFaultS N) Go.Proofs.Try.f7.ntmps (retOf (E7 c_laws_szNet c_laws_szRatioSS c_laws_toNet c_laws_toRatioSS c_spec_FaultsLike c_impl_FaultsLike c_laws_eqFaultS c_laws_eqNet c_laws_eqRatioSS m_laws_markNet m_laws_markRatioSS m_laws_markFaultS c_laws_heldFaultS) Go.Proofs.Try.f7 .bool) (loopsOf (Go.Proofs.Try.f7.body.getD .skip)) :=
  LoopsOk.of (l := []) (by kernel_rfl) .nil
theorem There7 : There Go.Proofs.Try.prog 7 := ⟨_, Go.Proofs.Try.func7, by kernel_rfl, by kernel_rfl⟩
theorem C7 {c_laws_szNet : ((Int × Int × Int × List (Int × Int × Int)) × Int × Unit → Option Int)} {c_laws_szRatioSS : ((List (List (Int × Int))) × Int × Unit → Option Int)} {c_laws_toNet : ((Int × Int × Int × List (Int × Int × Int)) × Unit → Option (Int × Int × Int × List (Int × Int × Int)))} {c_laws_toRatioSS : ((List (List (Int × Int))) × Unit → Option (List (List (Int × Int))))} {c_spec_FaultsLike : ((Int × Int × Int × List (Int × Int × Int)) × (List (List (Int × Int))) × Unit → Option (List (Int × Int)))} {c_impl_FaultsLike : ((Int × Int × Int × List (Int × Int × Int)) × (List (List (Int × Int))) × Unit → Option (List (Int × Int)))} {c_laws_eqFaultS : ((List (Int × Int)) × (List (Int × Int)) × Unit → Option Bool)} {c_laws_eqNet : ((Int × Int × Int × List (Int × Int × Int)) × (Int × Int × Int × List (Int × Int × Int)) × Unit → Option Bool)} {c_laws_eqRatioSS : ((List (List (Int × Int))) × (List (List (Int × Int))) × Unit → Option Bool)} {m_laws_markNet : ((Int × Int × Int × List (Int × Int × Int)) → (Int × Unit) → Option ((Int × Int × Int × List (Int × Int × Int)) × Int))} {m_laws_markRatioSS : ((List (List (Int × Int))) → (Int × Unit) → Option ((List (List (Int × Int))) × Int))} {m_laws_markFaultS : ((List (Int × Int)) → (Int × Unit) → Option ((List (Int × Int)) × Int))} {c_laws_heldFaultS : ((List (Int × Int)) × Int × Unit → Option Int)} (h_c_laws_szNet : Contract Go.Proofs.Try.prog 15 ⟨[net, int], int, c_laws_szNet⟩) (h_c_laws_szRatioSS : Contract Go.Proofs.Try.prog 29 ⟨[(.slice (.slice ratio)), int], int, c_laws_szRatioSS⟩) (h_c_laws_toNet : Contract Go.Proofs.Try.prog 17 ⟨[net], net, c_laws_toNet⟩) (h_c_laws_toRatioSS : Contract Go.Proofs.Try.prog 31 ⟨[(.slice (.slice ratio))], (.slice (.slice ratio)), c_laws_toRatioSS⟩) (h_c_spec_FaultsLike : Contract Go.Proofs.Try.prog 30 ⟨[net, (.slice (.slice ratio))], (.slice fault), c_spec_FaultsLike⟩) (h_c_impl_FaultsLike : Contract Go.Proofs.Try.prog 32 ⟨[net, (.slice (.slice ratio))], (.slice fault), c_impl_FaultsLike⟩) (h_c_laws_eqFaultS : Contract Go.Proofs.Try.prog 33 ⟨[(.slice fault), (.slice fault)], .bool, c_laws_eqFaultS⟩) (h_c_laws_eqNet : Contract Go.Proofs.Try.prog 20 ⟨[net, net], .bool, c_laws_eqNet⟩) (h_c_laws_eqRatioSS : Contract Go.Proofs.Try.prog 34 ⟨[(.slice (.slice ratio)), (.slice (.slice ratio))], .bool, c_laws_eqRatioSS⟩) (h_m_laws_markNet : MutC Go.Proofs.Try.prog 35 ⟨net, 0, [int], some int, m_laws_markNet⟩) (h_m_laws_markRatioSS : MutC Go.Proofs.Try.prog 36 ⟨(.slice (.slice ratio)), 0, [int], some int, m_laws_markRatioSS⟩) (h_m_laws_markFaultS : MutC Go.Proofs.Try.prog 37 ⟨(.slice fault), 0, [int], some int, m_laws_markFaultS⟩) (h_c_laws_heldFaultS : Contract Go.Proofs.Try.prog 38 ⟨[(.slice fault), int], int, c_laws_heldFaultS⟩) {f : ((Int × Int × Int × List (Int × Int × Int)) × (List (List (Int × Int))) × Unit → Option Bool)} (h : ∀ a0 a1 r, f (a0, a1, ()) = some r → ∃ N, r_laws_FnExactFaultsLike c_laws_szNet c_laws_szRatioSS c_laws_toNet c_laws_toRatioSS c_spec_FaultsLike c_impl_FaultsLike c_laws_eqFaultS c_laws_eqNet c_laws_eqRatioSS m_laws_markNet m_laws_markRatioSS m_laws_markFaultS c_laws_heldFaultS N a0 a1 = some r) : Contract Go.Proofs.Try.prog 7 ⟨[net, (.slice (.slice ratio))], .bool, f⟩ := by
  refine contract (E := E7 c_laws_szNet c_laws_szRatioSS c_laws_toNet c_laws_toRatioSS c_spec_FaultsLike c_impl_FaultsLike c_laws_eqFaultS c_laws_eqNet c_laws_eqRatioSS m_laws_markNet m_laws_markRatioSS m_laws_markFaultS c_laws_heldFaultS) (envOf table ⟨⟨h_c_laws_szNet, There15⟩, ⟨⟨h_c_laws_szRatioSS, There29⟩, ⟨⟨h_c_laws_toNet, There17⟩, ⟨⟨h_c_laws_toRatioSS, There31⟩, ⟨⟨h_c_spec_FaultsLike, There30⟩, ⟨⟨h_c_impl_FaultsLike, There32⟩, ⟨⟨h_c_laws_eqFaultS, There33⟩, ⟨⟨h_c_laws_eqNet, There20⟩, ⟨⟨h_c_laws_eqRatioSS, There34⟩, ⟨⟨h_c_laws_heldFaultS, There38⟩, trivial⟩⟩⟩⟩⟩⟩⟩⟩⟩⟩ ⟨⟨h_m_laws_markNet, There35⟩, ⟨⟨h_m_laws_markRatioSS, There36⟩, ⟨⟨h_m_laws_markFaultS, There37⟩, trivial⟩⟩⟩) mixed Go.Proofs.Try.func7 (c := Go.Proofs.Try.f7.body.getD .skip) (by kernel_rfl) (Nat.le_of_ble_eq_true (by kernel_rfl)) fun xs r hr => ?_
  obtain ⟨a0, a1, _⟩ := xs
  obtain ⟨N, hN⟩ := h _ _ r hr
  exact ⟨N, A7 c_laws_szNet c_laws_szRatioSS c_laws_toNet c_laws_toRatioSS c_spec_FaultsLike c_impl_FaultsLike c_laws_eqFaultS c_laws_eqNet c_laws_eqRatioSS m_laws_markNet m_laws_markRatioSS m_laws_markFaultS c_laws_heldFaultS N, L7 c_laws_szNet c_laws_szRatioSS c_laws_toNet c_laws_toRatioSS c_spec_FaultsLike c_impl_FaultsLike c_laws_eqFaultS c_laws_eqNet c_laws_eqRatioSS m_laws_markNet m_laws_markRatioSS m_laws_markFaultS c_laws_heldFaultS N, (K7 c_laws_szNet c_laws_szRatioSS c_laws_toNet c_laws_toRatioSS c_spec_FaultsLike c_impl_FaultsLike c_laws_eqFaultS c_laws_eqNet c_laws_eqRatioSS m_laws_markNet m_laws_markRatioSS m_laws_markFaultS c_laws_heldFaultS N a0 a1).trans hN⟩
theorem X7 : Contract Go.Proofs.Try.prog 7 ⟨[net, (.slice (.slice ratio))], .bool, e_laws_FnExactFaultsLike⟩ := C7 X15 X29 X17 X31 X30 X32 X33 X20 X34 X35 X36 X37 X38 fun _ _ _ h => ⟨N0, h⟩
-- spec_HiddenFaults
def E39 (c_spec_ResponseOf : ((Int × Int × Int × List (Int × Int × Int)) × Unit → Option ((List (List (Int × Int))) × Bool))) (c_spec_FaultsLike : ((Int × Int × Int × List (Int × Int × Int)) × (List (List (Int × Int))) × Unit → Option (List (Int × Int)))) : Env := ⟨tys, [], [(94, ⟨[net], (.tup (.slice (.slice ratio)) .bool), c_spec_ResponseOf⟩), (30, ⟨[net, (.slice (.slice ratio))], (.slice fault), c_spec_FaultsLike⟩)], []⟩
def A39 (_c_spec_ResponseOf : ((Int × Int × Int × List (Int × Int × Int)) × Unit → Option ((List (List (Int × Int))) × Bool))) (_c_spec_FaultsLike : ((Int × Int × Int × List (Int × Int × Int)) × (List (List (Int × Int))) × Unit → Option (List (Int × Int)))) (_N : Nat) : List (Nat × Loop (Ty.den (.slice fault))) := []
theorem K39 (c_spec_ResponseOf : ((Int × Int × Int × List (Int × Int × Int)) × Unit → Option ((List (List (Int × Int))) × Bool))) (c_spec_FaultsLike : ((Int × Int × Int × List (Int × Int × Int)) × (List (List (Int × Int))) × Unit → Option (List (Int × Int)))) (N : Nat) (a0 : (Int × Int × Int × List (Int × Int × Int))) : fnK N (E39 c_spec_ResponseOf c_spec_FaultsLike) Go.Proofs.Try.f39 [net] (.slice fault) (A39 c_spec_ResponseOf c_spec_FaultsLike N) (a0, ()) = r_spec_HiddenFaults c_spec_ResponseOf c_spec_FaultsLike N a0 := by kernel_rfl
theorem L39 (c_spec_ResponseOf : ((Int × Int × Int × List (Int × Int × Int)) × Unit → Option ((List (List (Int × Int))) × Bool))) (c_spec_FaultsLike : ((Int × Int × Int × List (Int × Int × Int)) × (List (List (Int × Int))) × Unit → Option (List (Int × Int)))) (N : Nat) : LoopsOk N (E39 c_spec_ResponseOf c_spec_FaultsLike) (A39 c_spec_ResponseOf c_spec_FaultsLike N) Go.Proofs.Try.f39.ntmps (retOf (E39 c_spec_ResponseOf c_spec_FaultsLike) Go.Proofs.Try.f39 (.slice fault)) (loopsOf (Go.Proofs.Try.f39.body.getD .skip)) :=
  LoopsOk.of (l := []) (by kernel_rfl) .nil
theorem There39 : There Go.Proofs.Try.prog 39 := ⟨_, Go.Proofs.Try.func39, by kernel_rfl, by kernel_rfl⟩
theorem C39 {c_spec_ResponseOf : ((Int × Int × Int × List (Int × Int × Int)) × Unit → Option ((List (List (Int × Int))) × Bool))} {c_spec_FaultsLike : ((Int × Int × Int × List (Int × Int × Int)) × (List (List (Int × Int))) × Unit → Option (List (Int × Int)))} (h_c_spec_ResponseOf : Contract Go.Proofs.Try.prog 94 ⟨[net], (.tup (.slice (.slice ratio)) .bool), c_spec_ResponseOf⟩) (h_c_spec_FaultsLike : Contract Go.Proofs.Try.prog 30 ⟨[net, (.slice (.slice ratio))], (.slice fault), c_spec_FaultsLike⟩) {f : ((Int × Int × Int × List (Int × Int × Int)) × Unit → Option (List (Int × Int)))} (h : ∀ a0 r, f (a0, ()) = some r → ∃ N, r_spec_HiddenFaults c_spec_ResponseOf c_spec_FaultsLike N a0 = some r) : Contract Go.Proofs.Try.prog 39 ⟨[net], (.slice fault), f⟩ := by
  refine contract (E := E39 c_spec_ResponseOf c_spec_FaultsLike) (envOf table ⟨⟨h_c_spec_ResponseOf, There94⟩, ⟨⟨h_c_spec_FaultsLike, There30⟩, trivial⟩⟩ trivial) mixed Go.Proofs.Try.func39 (c := Go.Proofs.Try.f39.body.getD .skip) (by kernel_rfl) (Nat.le_of_ble_eq_true (by kernel_rfl)) fun xs r hr => ?_
  obtain ⟨a0, _⟩ := xs
  obtain ⟨N, hN⟩ := h _ r hr
  exact ⟨N, A39 c_spec_ResponseOf c_spec_FaultsLike N, L39 c_spec_ResponseOf c_spec_FaultsLike N, (K39 c_spec_ResponseOf c_spec_FaultsLike N a0).trans hN⟩
theorem X39 : Contract Go.Proofs.Try.prog 39 ⟨[net], (.slice fault), e_spec_HiddenFaults⟩ := C39 X94 X30 fun _ _ h => ⟨N0, h⟩
-- impl_HiddenFaults
def E40 (c_impl_ResponseOf : ((Int × Int × Int × List (Int × Int × Int)) × Unit → Option ((List (List (Int × Int))) × Bool))) (c_impl_FaultsLike : ((Int × Int × Int × List (Int × Int × Int)) × (List (List (Int × Int))) × Unit → Option (List (Int × Int)))) : Env := ⟨tys, [], [(105, ⟨[net], (.tup (.slice (.slice ratio)) .bool), c_impl_ResponseOf⟩), (32, ⟨[net, (.slice (.slice ratio))], (.slice fault), c_impl_FaultsLike⟩)], []⟩
def A40 (_c_impl_ResponseOf : ((Int × Int × Int × List (Int × Int × Int)) × Unit → Option ((List (List (Int × Int))) × Bool))) (_c_impl_FaultsLike : ((Int × Int × Int × List (Int × Int × Int)) × (List (List (Int × Int))) × Unit → Option (List (Int × Int)))) (_N : Nat) : List (Nat × Loop (Ty.den (.slice fault))) := []
theorem K40 (c_impl_ResponseOf : ((Int × Int × Int × List (Int × Int × Int)) × Unit → Option ((List (List (Int × Int))) × Bool))) (c_impl_FaultsLike : ((Int × Int × Int × List (Int × Int × Int)) × (List (List (Int × Int))) × Unit → Option (List (Int × Int)))) (N : Nat) (a0 : (Int × Int × Int × List (Int × Int × Int))) : fnK N (E40 c_impl_ResponseOf c_impl_FaultsLike) Go.Proofs.Try.f40 [net] (.slice fault) (A40 c_impl_ResponseOf c_impl_FaultsLike N) (a0, ()) = r_impl_HiddenFaults c_impl_ResponseOf c_impl_FaultsLike N a0 := by kernel_rfl
theorem L40 (c_impl_ResponseOf : ((Int × Int × Int × List (Int × Int × Int)) × Unit → Option ((List (List (Int × Int))) × Bool))) (c_impl_FaultsLike : ((Int × Int × Int × List (Int × Int × Int)) × (List (List (Int × Int))) × Unit → Option (List (Int × Int)))) (N : Nat) : LoopsOk N (E40 c_impl_ResponseOf c_impl_FaultsLike) (A40 c_impl_ResponseOf c_impl_FaultsLike N) Go.Proofs.Try.f40.ntmps (retOf (E40 c_impl_ResponseOf c_impl_FaultsLike) Go.Proofs.Try.f40 (.slice fault)) (loopsOf (Go.Proofs.Try.f40.body.getD .skip)) :=
  LoopsOk.of (l := []) (by kernel_rfl) .nil
theorem There40 : There Go.Proofs.Try.prog 40 := ⟨_, Go.Proofs.Try.func40, by kernel_rfl, by kernel_rfl⟩
theorem C40 {c_impl_ResponseOf : ((Int × Int × Int × List (Int × Int × Int)) × Unit → Option ((List (List (Int × Int))) × Bool))} {c_impl_FaultsLike : ((Int × Int × Int × List (Int × Int × Int)) × (List (List (Int × Int))) × Unit → Option (List (Int × Int)))} (h_c_impl_ResponseOf : Contract Go.Proofs.Try.prog 105 ⟨[net], (.tup (.slice (.slice ratio)) .bool), c_impl_ResponseOf⟩) (h_c_impl_FaultsLike : Contract Go.Proofs.Try.prog 32 ⟨[net, (.slice (.slice ratio))], (.slice fault), c_impl_FaultsLike⟩) {f : ((Int × Int × Int × List (Int × Int × Int)) × Unit → Option (List (Int × Int)))} (h : ∀ a0 r, f (a0, ()) = some r → ∃ N, r_impl_HiddenFaults c_impl_ResponseOf c_impl_FaultsLike N a0 = some r) : Contract Go.Proofs.Try.prog 40 ⟨[net], (.slice fault), f⟩ := by
  refine contract (E := E40 c_impl_ResponseOf c_impl_FaultsLike) (envOf table ⟨⟨h_c_impl_ResponseOf, There105⟩, ⟨⟨h_c_impl_FaultsLike, There32⟩, trivial⟩⟩ trivial) mixed Go.Proofs.Try.func40 (c := Go.Proofs.Try.f40.body.getD .skip) (by kernel_rfl) (Nat.le_of_ble_eq_true (by kernel_rfl)) fun xs r hr => ?_
  obtain ⟨a0, _⟩ := xs
  obtain ⟨N, hN⟩ := h _ r hr
  exact ⟨N, A40 c_impl_ResponseOf c_impl_FaultsLike N, L40 c_impl_ResponseOf c_impl_FaultsLike N, (K40 c_impl_ResponseOf c_impl_FaultsLike N a0).trans hN⟩
theorem X40 : Contract Go.Proofs.Try.prog 40 ⟨[net], (.slice fault), e_impl_HiddenFaults⟩ := C40 X105 X32 fun _ _ h => ⟨N0, h⟩
-- laws_FnExactHiddenFaults
def E8 (c_laws_szNet : ((Int × Int × Int × List (Int × Int × Int)) × Int × Unit → Option Int)) (c_laws_toNet : ((Int × Int × Int × List (Int × Int × Int)) × Unit → Option (Int × Int × Int × List (Int × Int × Int)))) (c_spec_HiddenFaults : ((Int × Int × Int × List (Int × Int × Int)) × Unit → Option (List (Int × Int)))) (c_impl_HiddenFaults : ((Int × Int × Int × List (Int × Int × Int)) × Unit → Option (List (Int × Int)))) (c_laws_eqFaultS : ((List (Int × Int)) × (List (Int × Int)) × Unit → Option Bool)) (c_laws_eqNet : ((Int × Int × Int × List (Int × Int × Int)) × (Int × Int × Int × List (Int × Int × Int)) × Unit → Option Bool)) (m_laws_markNet : ((Int × Int × Int × List (Int × Int × Int)) → (Int × Unit) → Option ((Int × Int × Int × List (Int × Int × Int)) × Int))) (m_laws_markFaultS : ((List (Int × Int)) → (Int × Unit) → Option ((List (Int × Int)) × Int))) (c_laws_heldFaultS : ((List (Int × Int)) × Int × Unit → Option Int)) : Env := ⟨tys, [], [(15, ⟨[net, int], int, c_laws_szNet⟩), (17, ⟨[net], net, c_laws_toNet⟩), (39, ⟨[net], (.slice fault), c_spec_HiddenFaults⟩), (40, ⟨[net], (.slice fault), c_impl_HiddenFaults⟩), (33, ⟨[(.slice fault), (.slice fault)], .bool, c_laws_eqFaultS⟩), (20, ⟨[net, net], .bool, c_laws_eqNet⟩), (38, ⟨[(.slice fault), int], int, c_laws_heldFaultS⟩)], [(35, ⟨net, 0, [int], some int, m_laws_markNet⟩), (37, ⟨(.slice fault), 0, [int], some int, m_laws_markFaultS⟩)]⟩
def A8 (_c_laws_szNet : ((Int × Int × Int × List (Int × Int × Int)) × Int × Unit → Option Int)) (_c_laws_toNet : ((Int × Int × Int × List (Int × Int × Int)) × Unit → Option (Int × Int × Int × List (Int × Int × Int)))) (_c_spec_HiddenFaults : ((Int × Int × Int × List (Int × Int × Int)) × Unit → Option (List (Int × Int)))) (_c_impl_HiddenFaults : ((Int × Int × Int × List (Int × Int × Int)) × Unit → Option (List (Int × Int)))) (_c_laws_eqFaultS : ((List (Int × Int)) × (List (Int × Int)) × Unit → Option Bool)) (_c_laws_eqNet : ((Int × Int × Int × List (Int × Int × Int)) × (Int × Int × Int × List (Int × Int × Int)) × Unit → Option Bool)) (_m_laws_markNet : ((Int × Int × Int × List (Int × Int × Int)) → (Int × Unit) → Option ((Int × Int × Int × List (Int × Int × Int)) × Int))) (_m_laws_markFaultS : ((List (Int × Int)) → (Int × Unit) → Option ((List (Int × Int)) × Int))) (_c_laws_heldFaultS : ((List (Int × Int)) × Int × Unit → Option Int)) (_N : Nat) : List (Nat × Loop (Ty.den .bool)) := []
theorem K8 (c_laws_szNet : ((Int × Int × Int × List (Int × Int × Int)) × Int × Unit → Option Int)) (c_laws_toNet : ((Int × Int × Int × List (Int × Int × Int)) × Unit → Option (Int × Int × Int × List (Int × Int × Int)))) (c_spec_HiddenFaults : ((Int × Int × Int × List (Int × Int × Int)) × Unit → Option (List (Int × Int)))) (c_impl_HiddenFaults : ((Int × Int × Int × List (Int × Int × Int)) × Unit → Option (List (Int × Int)))) (c_laws_eqFaultS : ((List (Int × Int)) × (List (Int × Int)) × Unit → Option Bool)) (c_laws_eqNet : ((Int × Int × Int × List (Int × Int × Int)) × (Int × Int × Int × List (Int × Int × Int)) × Unit → Option Bool)) (m_laws_markNet : ((Int × Int × Int × List (Int × Int × Int)) → (Int × Unit) → Option ((Int × Int × Int × List (Int × Int × Int)) × Int))) (m_laws_markFaultS : ((List (Int × Int)) → (Int × Unit) → Option ((List (Int × Int)) × Int))) (c_laws_heldFaultS : ((List (Int × Int)) × Int × Unit → Option Int)) (N : Nat) (a0 : (Int × Int × Int × List (Int × Int × Int))) : fnK N (E8 c_laws_szNet c_laws_toNet c_spec_HiddenFaults c_impl_HiddenFaults c_laws_eqFaultS c_laws_eqNet m_laws_markNet m_laws_markFaultS c_laws_heldFaultS) Go.Proofs.Try.f8 [net] .bool (A8 c_laws_szNet c_laws_toNet c_spec_HiddenFaults c_impl_HiddenFaults c_laws_eqFaultS c_laws_eqNet m_laws_markNet m_laws_markFaultS c_laws_heldFaultS N) (a0, ()) = r_laws_FnExactHiddenFaults c_laws_szNet c_laws_toNet c_spec_HiddenFaults c_impl_HiddenFaults c_laws_eqFaultS c_laws_eqNet m_laws_markNet m_laws_markFaultS c_laws_heldFaultS N a0 := by kernel_rfl
theorem L8 (c_laws_szNet : ((Int × Int × Int × List (Int × Int × Int)) × Int × Unit → Option Int)) (c_laws_toNet : ((Int × Int × Int × List (Int × Int × Int)) × Unit → Option (Int × Int × Int × List (Int × Int × Int)))) (c_spec_HiddenFaults : ((Int × Int × Int × List (Int × Int × Int)) × Unit → Option (List (Int × Int)))) (c_impl_HiddenFaults : ((Int × Int × Int × List (Int × Int × Int)) × Unit → Option (List (Int × Int)))) (c_laws_eqFaultS : ((List (Int × Int)) × (List (Int × Int)) × Unit → Option Bool)) (c_laws_eqNet : ((Int × Int × Int × List (Int × Int × Int)) × (Int × Int × Int × List (Int × Int × Int)) × Unit → Option Bool)) (m_laws_markNet : ((Int × Int × Int × List (Int × Int × Int)) → (Int × Unit) → Option ((Int × Int × Int × List (Int × Int × Int)) × Int))) (m_laws_markFaultS : ((List (Int × Int)) → (Int × Unit) → Option ((List (Int × Int)) × Int))) (c_laws_heldFaultS : ((List (Int × Int)) × Int × Unit → Option Int)) (N : Nat) : LoopsOk N (E8 c_laws_szNet c_laws_toNet c_spec_HiddenFaults c_impl_HiddenFaults c_laws_eqFaultS c_laws_eqNet m_laws_markNet m_laws_markFaultS c_laws_heldFaultS) (A8 c_laws_szNet c_laws_toNet c_spec_HiddenFaults c_impl_HiddenFaults c_laws_eqFaultS c_laws_eqNet m_laws_markNet m_laws_markFaultS c_laws_heldFaultS N) Go.Proofs.Try.f8.ntmps (retOf (E8 c_laws_szNet c_laws_toNet c_spec_HiddenFaults c_impl_HiddenFaults c_laws_eqFaultS c_laws_eqNet m_laws_markNet m_laws_markFaultS c_laws_heldFaultS) Go.Proofs.Try.f8 .bool) (loopsOf (Go.Proofs.Try.f8.body.getD .skip)) :=
  LoopsOk.of (l := []) (by kernel_rfl) .nil
theorem There8 : There Go.Proofs.Try.prog 8 := ⟨_, Go.Proofs.Try.func8, by kernel_rfl, by kernel_rfl⟩
theorem C8 {c_laws_szNet : ((Int × Int × Int × List (Int × Int × Int)) × Int × Unit → Option Int)} {c_laws_toNet : ((Int × Int × Int × List (Int × Int × Int)) × Unit → Option (Int × Int × Int × List (Int × Int × Int)))} {c_spec_HiddenFaults : ((Int × Int × Int × List (Int × Int × Int)) × Unit → Option (List (Int × Int)))} {c_impl_HiddenFaults : ((Int × Int × Int × List (Int × Int × Int)) × Unit → Option (List (Int × Int)))} {c_laws_eqFaultS : ((List (Int × Int)) × (List (Int × Int)) × Unit → Option Bool)} {c_laws_eqNet : ((Int × Int × Int × List (Int × Int × Int)) × (Int × Int × Int × List (Int × Int × Int)) × Unit → Option Bool)} {m_laws_markNet : ((Int × Int × Int × List (Int × Int × Int)) → (Int × Unit) → Option ((Int × Int × Int × List (Int × Int × Int)) × Int))} {m_laws_markFaultS : ((List (Int × Int)) → (Int × Unit) → Option ((List (Int × Int)) × Int))} {c_laws_heldFaultS : ((List (Int × Int)) × Int × Unit → Option Int)} (h_c_laws_szNet : Contract Go.Proofs.Try.prog 15 ⟨[net, int], int, c_laws_szNet⟩) (h_c_laws_toNet : Contract Go.Proofs.Try.prog 17 ⟨[net], net, c_laws_toNet⟩) (h_c_spec_HiddenFaults : Contract Go.Proofs.Try.prog 39 ⟨[net], (.slice fault), c_spec_HiddenFaults⟩) (h_c_impl_HiddenFaults : Contract Go.Proofs.Try.prog 40 ⟨[net], (.slice fault), c_impl_HiddenFaults⟩) (h_c_laws_eqFaultS : Contract Go.Proofs.Try.prog 33 ⟨[(.slice fault), (.slice fault)], .bool, c_laws_eqFaultS⟩) (h_c_laws_eqNet : Contract Go.Proofs.Try.prog 20 ⟨[net, net], .bool, c_laws_eqNet⟩) (h_m_laws_markNet : MutC Go.Proofs.Try.prog 35 ⟨net, 0, [int], some int, m_laws_markNet⟩) (h_m_laws_markFaultS : MutC Go.Proofs.Try.prog 37 ⟨(.slice fault), 0, [int], some int, m_laws_markFaultS⟩) (h_c_laws_heldFaultS : Contract Go.Proofs.Try.prog 38 ⟨[(.slice fault), int], int, c_laws_heldFaultS⟩) {f : ((Int × Int × Int × List (Int × Int × Int)) × Unit → Option Bool)} (h : ∀ a0 r, f (a0, ()) = some r → ∃ N, r_laws_FnExactHiddenFaults c_laws_szNet c_laws_toNet c_spec_HiddenFaults c_impl_HiddenFaults c_laws_eqFaultS c_laws_eqNet m_laws_markNet m_laws_markFaultS c_laws_heldFaultS N a0 = some r) : Contract Go.Proofs.Try.prog 8 ⟨[net], .bool, f⟩ := by
  refine contract (E := E8 c_laws_szNet c_laws_toNet c_spec_HiddenFaults c_impl_HiddenFaults c_laws_eqFaultS c_laws_eqNet m_laws_markNet m_laws_markFaultS c_laws_heldFaultS) (envOf table ⟨⟨h_c_laws_szNet, There15⟩, ⟨⟨h_c_laws_toNet, There17⟩, ⟨⟨h_c_spec_HiddenFaults, There39⟩, ⟨⟨h_c_impl_HiddenFaults, There40⟩, ⟨⟨h_c_laws_eqFaultS, There33⟩, ⟨⟨h_c_laws_eqNet, There20⟩, ⟨⟨h_c_laws_heldFaultS, There38⟩, trivial⟩⟩⟩⟩⟩⟩⟩ ⟨⟨h_m_laws_markNet, There35⟩, ⟨⟨h_m_laws_markFaultS, There37⟩, trivial⟩⟩) mixed Go.Proofs.Try.func8 (c := Go.Proofs.Try.f8.body.getD .skip) (by kernel_rfl) (Nat.le_of_ble_eq_true (by kernel_rfl)) fun xs r hr => ?_
  obtain ⟨a0, _⟩ := xs
  obtain ⟨N, hN⟩ := h _ r hr
  exact ⟨N, A8 c_laws_szNet c_laws_toNet c_spec_HiddenFaults c_impl_HiddenFaults c_laws_eqFaultS c_laws_eqNet m_laws_markNet m_laws_markFaultS c_laws_heldFaultS N, L8 c_laws_szNet c_laws_toNet c_spec_HiddenFaults c_impl_HiddenFaults c_laws_eqFaultS c_laws_eqNet m_laws_markNet m_laws_markFaultS c_laws_heldFaultS N, (K8 c_laws_szNet c_laws_toNet c_spec_HiddenFaults c_impl_HiddenFaults c_laws_eqFaultS c_laws_eqNet m_laws_markNet m_laws_markFaultS c_laws_heldFaultS N a0).trans hN⟩
theorem X8 : Contract Go.Proofs.Try.prog 8 ⟨[net], .bool, e_laws_FnExactHiddenFaults⟩ := C8 X15 X17 X39 X40 X33 X20 X35 X37 X38 fun _ _ h => ⟨N0, h⟩
-- laws_toFault
def E42 : Env := ⟨tys, [], [], []⟩
def A42 (_N : Nat) : List (Nat × Loop (Ty.den fault)) := []
theorem K42 (N : Nat) (a0 : (Int × Int)) : fnK N (E42) Go.Proofs.Try.f42 [fault] fault (A42 N) (a0, ()) = r_laws_toFault N a0 := by kernel_rfl
theorem L42 (N : Nat) : LoopsOk N (E42) (A42 N) Go.Proofs.Try.f42.ntmps (retOf (E42) Go.Proofs.Try.f42 fault) (loopsOf (Go.Proofs.Try.f42.body.getD .skip)) :=
  LoopsOk.of (l := []) (by kernel_rfl) .nil
theorem There42 : There Go.Proofs.Try.prog 42 := ⟨_, Go.Proofs.Try.func42, by kernel_rfl, by kernel_rfl⟩
theorem C42 {f : ((Int × Int) × Unit → Option (Int × Int))} (h : ∀ a0 r, f (a0, ()) = some r → ∃ N, r_laws_toFault N a0 = some r) : Contract Go.Proofs.Try.prog 42 ⟨[fault], fault, f⟩ := by
  refine contract (E := E42) (envOf table trivial trivial) mixed Go.Proofs.Try.func42 (c := Go.Proofs.Try.f42.body.getD .skip) (by kernel_rfl) (Nat.le_of_ble_eq_true (by kernel_rfl)) fun xs r hr => ?_
  obtain ⟨a0, _⟩ := xs
  obtain ⟨N, hN⟩ := h _ r hr
  exact ⟨N, A42 N, L42 N, (K42 N a0).trans hN⟩
theorem X42 : Contract Go.Proofs.Try.prog 42 ⟨[fault], fault, e_laws_toFault⟩ := C42 fun _ _ h => ⟨N0, h⟩
-- spec_TwinFault
def E41 (c_spec_ApplyFault : ((Int × Int × Int × List (Int × Int × Int)) × (Int × Int) × Unit → Option ((Int × Int × Int × List (Int × Int × Int)) × Bool))) (c_spec_ResponseOf : ((Int × Int × Int × List (Int × Int × Int)) × Unit → Option ((List (List (Int × Int))) × Bool))) (c_spec_FaultsLike : ((Int × Int × Int × List (Int × Int × Int)) × (List (List (Int × Int))) × Unit → Option (List (Int × Int)))) : Env := ⟨tys, [], [(93, ⟨[net, fault], (.tup net .bool), c_spec_ApplyFault⟩), (94, ⟨[net], (.tup (.slice (.slice ratio)) .bool), c_spec_ResponseOf⟩), (30, ⟨[net, (.slice (.slice ratio))], (.slice fault), c_spec_FaultsLike⟩)], []⟩
def A41 (c_spec_ApplyFault : ((Int × Int × Int × List (Int × Int × Int)) × (Int × Int) × Unit → Option ((Int × Int × Int × List (Int × Int × Int)) × Bool))) (c_spec_ResponseOf : ((Int × Int × Int × List (Int × Int × Int)) × Unit → Option ((List (List (Int × Int))) × Bool))) (c_spec_FaultsLike : ((Int × Int × Int × List (Int × Int × Int)) × (List (List (Int × Int))) × Unit → Option (List (Int × Int)))) (N : Nat) : List (Nat × Loop (Ty.den (.tup fault .bool))) := [(0, ⟨[(3, .box true (.pair (.num .i64) (.num .i64))), (4, .box true (.pair (.num .i64) (.num .i64))), (28, .own (.slice (.pair (.num .i64) (.num .i64)))), (29, .ro none (.num .i64)), (30, .ro none (.num .i64))], r_spec_TwinFault_L0 c_spec_ApplyFault c_spec_ResponseOf c_spec_FaultsLike N⟩)]
theorem K41 (c_spec_ApplyFault : ((Int × Int × Int × List (Int × Int × Int)) × (Int × Int) × Unit → Option ((Int × Int × Int × List (Int × Int × Int)) × Bool))) (c_spec_ResponseOf : ((Int × Int × Int × List (Int × Int × Int)) × Unit → Option ((List (List (Int × Int))) × Bool))) (c_spec_FaultsLike : ((Int × Int × Int × List (Int × Int × Int)) × (List (List (Int × Int))) × Unit → Option (List (Int × Int)))) (N : Nat) (a0 : (Int × Int × Int × List (Int × Int × Int))) (a1 : (Int × Int)) : fnK N (E41 c_spec_ApplyFault c_spec_ResponseOf c_spec_FaultsLike) Go.Proofs.Try.f41 [net, fault] (.tup fault .bool) (A41 c_spec_ApplyFault c_spec_ResponseOf c_spec_FaultsLike N) (a0, a1, ()) = r_spec_TwinFault c_spec_ApplyFault c_spec_ResponseOf c_spec_FaultsLike N a0 a1 := by kernel_rfl
theorem L41 (c_spec_ApplyFault : ((Int × Int × Int × List (Int × Int × Int)) × (Int × Int) × Unit → Option ((Int × Int × Int × List (Int × Int × Int)) × Bool))) (c_spec_ResponseOf : ((Int × Int × Int × List (Int × Int × Int)) × Unit → Option ((List (List (Int × Int))) × Bool))) (c_spec_FaultsLike : ((Int × Int × Int × List (Int × Int × Int)) × (List (List (Int × Int))) × Unit → Option (List (Int × Int)))) (N : Nat) : LoopsOk N (E41 c_spec_ApplyFault c_spec_ResponseOf c_spec_FaultsLike) (A41 c_spec_ApplyFault c_spec_ResponseOf c_spec_FaultsLike N) Go.Proofs.Try.f41.ntmps (retOf (E41 c_spec_ApplyFault c_spec_ResponseOf c_spec_FaultsLike) Go.Proofs.Try.f41 (.tup fault .bool)) (loopsOf (Go.Proofs.Try.f41.body.getD .skip)) :=
  LoopsOk.of (l := [(0, lb Go.Proofs.Try.f41 0)]) (by kernel_rfl) (.cons (L := ⟨[(3, .box true (.pair (.num .i64) (.num .i64))), (4, .box true (.pair (.num .i64) (.num .i64))), (28, .own (.slice (.pair (.num .i64) (.num .i64)))), (29, .ro none (.num .i64)), (30, .ro none (.num .i64))], r_spec_TwinFault_L0 c_spec_ApplyFault c_spec_ResponseOf c_spec_FaultsLike N⟩) (by kernel_rfl) (by intro s kc ke env; kernel_rfl) .nil)
theorem There41 : There Go.Proofs.Try.prog 41 := ⟨_, Go.Proofs.Try.func41, by kernel_rfl, by kernel_rfl⟩
theorem C41 {c_spec_ApplyFault : ((Int × Int × Int × List (Int × Int × Int)) × (Int × Int) × Unit → Option ((Int × Int × Int × List (Int × Int × Int)) × Bool))} {c_spec_ResponseOf : ((Int × Int × Int × List (Int × Int × Int)) × Unit → Option ((List (List (Int × Int))) × Bool))} {c_spec_FaultsLike : ((Int × Int × Int × List (Int × Int × Int)) × (List (List (Int × Int))) × Unit → Option (List (Int × Int)))} (h_c_spec_ApplyFault : Contract Go.Proofs.Try.prog 93 ⟨[net, fault], (.tup net .bool), c_spec_ApplyFault⟩) (h_c_spec_ResponseOf : Contract Go.Proofs.Try.prog 94 ⟨[net], (.tup (.slice (.slice ratio)) .bool), c_spec_ResponseOf⟩) (h_c_spec_FaultsLike : Contract Go.Proofs.Try.prog 30 ⟨[net, (.slice (.slice ratio))], (.slice fault), c_spec_FaultsLike⟩) {f : ((Int × Int × Int × List (Int × Int × Int)) × (Int × Int) × Unit → Option ((Int × Int) × Bool))} (h : ∀ a0 a1 r, f (a0, a1, ()) = some r → ∃ N, r_spec_TwinFault c_spec_ApplyFault c_spec_ResponseOf c_spec_FaultsLike N a0 a1 = some r) : Contract Go.Proofs.Try.prog 41 ⟨[net, fault], (.tup fault .bool), f⟩ := by
  refine contract (E := E41 c_spec_ApplyFault c_spec_ResponseOf c_spec_FaultsLike) (envOf table ⟨⟨h_c_spec_ApplyFault, There93⟩, ⟨⟨h_c_spec_ResponseOf, There94⟩, ⟨⟨h_c_spec_FaultsLike, There30⟩, trivial⟩⟩⟩ trivial) mixed Go.Proofs.Try.func41 (c := Go.Proofs.Try.f41.body.getD .skip) (by kernel_rfl) (Nat.le_of_ble_eq_true (by kernel_rfl)) fun xs r hr => ?_
  obtain ⟨a0, a1, _⟩ := xs
  obtain ⟨N, hN⟩ := h _ _ r hr
  exact ⟨N, A41 c_spec_ApplyFault c_spec_ResponseOf c_spec_FaultsLike N, L41 c_spec_ApplyFault c_spec_ResponseOf c_spec_FaultsLike N, (K41 c_spec_ApplyFault c_spec_ResponseOf c_spec_FaultsLike N a0 a1).trans hN⟩
theorem X41 : Contract Go.Proofs.Try.prog 41 ⟨[net, fault], (.tup fault .bool), e_spec_TwinFault⟩ := C41 X93 X94 X30 fun _ _ _ h => ⟨N0, h⟩
-- impl_TwinFault
def E43 (c_impl_ApplyFault : ((Int × Int × Int × List (Int × Int × Int)) × (Int × Int) × Unit → Option ((Int × Int × Int × List (Int × Int × Int)) × Bool))) (c_impl_after : ((Int × Int × Int × List (Int × Int × Int)) × (Int × Int) × Unit → Option (List (List (Int × Int))))) (c_impl_FaultsLike : ((Int × Int × Int × List (Int × Int × Int)) × (List (List (Int × Int))) × Unit → Option (List (Int × Int)))) : Env := ⟨tys, [], [(106, ⟨[net, fault], (.tup net .bool), c_impl_ApplyFault⟩), (101, ⟨[net, fault], (.slice (.slice ratio)), c_impl_after⟩), (32, ⟨[net, (.slice (.slice ratio))], (.slice fault), c_impl_FaultsLike⟩)], []⟩
def A43 (c_impl_ApplyFault : ((Int × Int × Int × List (Int × Int × Int)) × (Int × Int) × Unit → Option ((Int × Int × Int × List (Int × Int × Int)) × Bool))) (c_impl_after : ((Int × Int × Int × List (Int × Int × Int)) × (Int × Int) × Unit → Option (List (List (Int × Int))))) (c_impl_FaultsLike : ((Int × Int × Int × List (Int × Int × Int)) × (List (List (Int × Int))) × Unit → Option (List (Int × Int)))) (N : Nat) : List (Nat × Loop (Ty.den (.tup fault .bool))) := [(0, ⟨[(3, .box true (.pair (.num .i64) (.num .i64))), (4, .box true (.pair (.num .i64) (.num .i64))), (23, .own (.slice (.pair (.num .i64) (.num .i64)))), (24, .ro none (.num .i64)), (25, .ro none (.num .i64))], r_impl_TwinFault_L0 c_impl_ApplyFault c_impl_after c_impl_FaultsLike N⟩)]
theorem K43 (c_impl_ApplyFault : ((Int × Int × Int × List (Int × Int × Int)) × (Int × Int) × Unit → Option ((Int × Int × Int × List (Int × Int × Int)) × Bool))) (c_impl_after : ((Int × Int × Int × List (Int × Int × Int)) × (Int × Int) × Unit → Option (List (List (Int × Int))))) (c_impl_FaultsLike : ((Int × Int × Int × List (Int × Int × Int)) × (List (List (Int × Int))) × Unit → Option (List (Int × Int)))) (N : Nat) (a0 : (Int × Int × Int × List (Int × Int × Int))) (a1 : (Int × Int)) : fnK N (E43 c_impl_ApplyFault c_impl_after c_impl_FaultsLike) Go.Proofs.Try.f43 [net, fault] (.tup fault .bool) (A43 c_impl_ApplyFault c_impl_after c_impl_FaultsLike N) (a0, a1, ()) = r_impl_TwinFault c_impl_ApplyFault c_impl_after c_impl_FaultsLike N a0 a1 := by kernel_rfl
theorem L43 (c_impl_ApplyFault : ((Int × Int × Int × List (Int × Int × Int)) × (Int × Int) × Unit → Option ((Int × Int × Int × List (Int × Int × Int)) × Bool))) (c_impl_after : ((Int × Int × Int × List (Int × Int × Int)) × (Int × Int) × Unit → Option (List (List (Int × Int))))) (c_impl_FaultsLike : ((Int × Int × Int × List (Int × Int × Int)) × (List (List (Int × Int))) × Unit → Option (List (Int × Int)))) (N : Nat) : LoopsOk N (E43 c_impl_ApplyFault c_impl_after c_impl_FaultsLike) (A43 c_impl_ApplyFault c_impl_after c_impl_FaultsLike N) Go.Proofs.Try.f43.ntmps (retOf (E43 c_impl_ApplyFault c_impl_after c_impl_FaultsLike) Go.Proofs.Try.f43 (.tup fault .bool)) (loopsOf (Go.Proofs.Try.f43.body.getD .skip)) :=
  LoopsOk.of (l := [(0, lb Go.Proofs.Try.f43 0)]) (by kernel_rfl) (.cons (L := ⟨[(3, .box true (.pair (.num .i64) (.num .i64))), (4, .box true (.pair (.num .i64) (.num .i64))), (23, .own (.slice (.pair (.num .i64) (.num .i64)))), (24, .ro none (.num .i64)), (25, .ro none (.num .i64))], r_impl_TwinFault_L0 c_impl_ApplyFault c_impl_after c_impl_FaultsLike N⟩) (by kernel_rfl) (by intro s kc ke env; kernel_rfl) .nil)
theorem There43 : There Go.Proofs.Try.prog 43 := ⟨_, Go.Proofs.Try.func43, by kernel_rfl, by kernel_rfl⟩
theorem C43 {c_impl_ApplyFault : ((Int × Int × Int × List (Int × Int × Int)) × (Int × Int) × Unit → Option ((Int × Int × Int × List (Int × Int × Int)) × Bool))} {c_impl_after : ((Int × Int × Int × List (Int × Int × Int)) × (Int × Int) × Unit → Option (List (List (Int × Int))))} {c_impl_FaultsLike : ((Int × Int × Int × List (Int × Int × Int)) × (List (List (Int × Int))) × Unit → Option (List (Int × Int)))} (h_c_impl_ApplyFault : Contract Go.Proofs.Try.prog 106 ⟨[net, fault], (.tup net .bool), c_impl_ApplyFault⟩) (h_c_impl_after : Contract Go.Proofs.Try.prog 101 ⟨[net, fault], (.slice (.slice ratio)), c_impl_after⟩) (h_c_impl_FaultsLike : Contract Go.Proofs.Try.prog 32 ⟨[net, (.slice (.slice ratio))], (.slice fault), c_impl_FaultsLike⟩) {f : ((Int × Int × Int × List (Int × Int × Int)) × (Int × Int) × Unit → Option ((Int × Int) × Bool))} (h : ∀ a0 a1 r, f (a0, a1, ()) = some r → ∃ N, r_impl_TwinFault c_impl_ApplyFault c_impl_after c_impl_FaultsLike N a0 a1 = some r) : Contract Go.Proofs.Try.prog 43 ⟨[net, fault], (.tup fault .bool), f⟩ := by
  refine contract (E := E43 c_impl_ApplyFault c_impl_after c_impl_FaultsLike) (envOf table ⟨⟨h_c_impl_ApplyFault, There106⟩, ⟨⟨h_c_impl_after, There101⟩, ⟨⟨h_c_impl_FaultsLike, There32⟩, trivial⟩⟩⟩ trivial) mixed Go.Proofs.Try.func43 (c := Go.Proofs.Try.f43.body.getD .skip) (by kernel_rfl) (Nat.le_of_ble_eq_true (by kernel_rfl)) fun xs r hr => ?_
  obtain ⟨a0, a1, _⟩ := xs
  obtain ⟨N, hN⟩ := h _ _ r hr
  exact ⟨N, A43 c_impl_ApplyFault c_impl_after c_impl_FaultsLike N, L43 c_impl_ApplyFault c_impl_after c_impl_FaultsLike N, (K43 c_impl_ApplyFault c_impl_after c_impl_FaultsLike N a0 a1).trans hN⟩
theorem X43 : Contract Go.Proofs.Try.prog 43 ⟨[net, fault], (.tup fault .bool), e_impl_TwinFault⟩ := C43 X106 X101 X32 fun _ _ _ h => ⟨N0, h⟩
-- laws_FnExactTwinFault
def E9 (c_laws_szNet : ((Int × Int × Int × List (Int × Int × Int)) × Int × Unit → Option Int)) (c_laws_toNet : ((Int × Int × Int × List (Int × Int × Int)) × Unit → Option (Int × Int × Int × List (Int × Int × Int)))) (c_laws_toFault : ((Int × Int) × Unit → Option (Int × Int))) (c_spec_TwinFault : ((Int × Int × Int × List (Int × Int × Int)) × (Int × Int) × Unit → Option ((Int × Int) × Bool))) (c_impl_TwinFault : ((Int × Int × Int × List (Int × Int × Int)) × (Int × Int) × Unit → Option ((Int × Int) × Bool))) (c_laws_eqFault : ((Int × Int) × (Int × Int) × Unit → Option Bool)) (c_laws_eqNet : ((Int × Int × Int × List (Int × Int × Int)) × (Int × Int × Int × List (Int × Int × Int)) × Unit → Option Bool)) : Env := ⟨tys, [], [(15, ⟨[net, int], int, c_laws_szNet⟩), (17, ⟨[net], net, c_laws_toNet⟩), (42, ⟨[fault], fault, c_laws_toFault⟩), (41, ⟨[net, fault], (.tup fault .bool), c_spec_TwinFault⟩), (43, ⟨[net, fault], (.tup fault .bool), c_impl_TwinFault⟩), (44, ⟨[fault, fault], .bool, c_laws_eqFault⟩), (20, ⟨[net, net], .bool, c_laws_eqNet⟩)], []⟩
def A9 (_c_laws_szNet : ((Int × Int × Int × List (Int × Int × Int)) × Int × Unit → Option Int)) (_c_laws_toNet : ((Int × Int × Int × List (Int × Int × Int)) × Unit → Option (Int × Int × Int × List (Int × Int × Int)))) (_c_laws_toFault : ((Int × Int) × Unit → Option (Int × Int))) (_c_spec_TwinFault : ((Int × Int × Int × List (Int × Int × Int)) × (Int × Int) × Unit → Option ((Int × Int) × Bool))) (_c_impl_TwinFault : ((Int × Int × Int × List (Int × Int × Int)) × (Int × Int) × Unit → Option ((Int × Int) × Bool))) (_c_laws_eqFault : ((Int × Int) × (Int × Int) × Unit → Option Bool)) (_c_laws_eqNet : ((Int × Int × Int × List (Int × Int × Int)) × (Int × Int × Int × List (Int × Int × Int)) × Unit → Option Bool)) (_N : Nat) : List (Nat × Loop (Ty.den .bool)) := []
theorem K9 (c_laws_szNet : ((Int × Int × Int × List (Int × Int × Int)) × Int × Unit → Option Int)) (c_laws_toNet : ((Int × Int × Int × List (Int × Int × Int)) × Unit → Option (Int × Int × Int × List (Int × Int × Int)))) (c_laws_toFault : ((Int × Int) × Unit → Option (Int × Int))) (c_spec_TwinFault : ((Int × Int × Int × List (Int × Int × Int)) × (Int × Int) × Unit → Option ((Int × Int) × Bool))) (c_impl_TwinFault : ((Int × Int × Int × List (Int × Int × Int)) × (Int × Int) × Unit → Option ((Int × Int) × Bool))) (c_laws_eqFault : ((Int × Int) × (Int × Int) × Unit → Option Bool)) (c_laws_eqNet : ((Int × Int × Int × List (Int × Int × Int)) × (Int × Int × Int × List (Int × Int × Int)) × Unit → Option Bool)) (N : Nat) (a0 : (Int × Int × Int × List (Int × Int × Int))) (a1 : (Int × Int)) : fnK N (E9 c_laws_szNet c_laws_toNet c_laws_toFault c_spec_TwinFault c_impl_TwinFault c_laws_eqFault c_laws_eqNet) Go.Proofs.Try.f9 [net, fault] .bool (A9 c_laws_szNet c_laws_toNet c_laws_toFault c_spec_TwinFault c_impl_TwinFault c_laws_eqFault c_laws_eqNet N) (a0, a1, ()) = r_laws_FnExactTwinFault c_laws_szNet c_laws_toNet c_laws_toFault c_spec_TwinFault c_impl_TwinFault c_laws_eqFault c_laws_eqNet N a0 a1 := by kernel_rfl
theorem L9 (c_laws_szNet : ((Int × Int × Int × List (Int × Int × Int)) × Int × Unit → Option Int)) (c_laws_toNet : ((Int × Int × Int × List (Int × Int × Int)) × Unit → Option (Int × Int × Int × List (Int × Int × Int)))) (c_laws_toFault : ((Int × Int) × Unit → Option (Int × Int))) (c_spec_TwinFault : ((Int × Int × Int × List (Int × Int × Int)) × (Int × Int) × Unit → Option ((Int × Int) × Bool))) (c_impl_TwinFault : ((Int × Int × Int × List (Int × Int × Int)) × (Int × Int) × Unit → Option ((Int × Int) × Bool))) (c_laws_eqFault : ((Int × Int) × (Int × Int) × Unit → Option Bool)) (c_laws_eqNet : ((Int × Int × Int × List (Int × Int × Int)) × (Int × Int × Int × List (Int × Int × Int)) × Unit → Option Bool)) (N : Nat) : LoopsOk N (E9 c_laws_szNet c_laws_toNet c_laws_toFault c_spec_TwinFault c_impl_TwinFault c_laws_eqFault c_laws_eqNet) (A9 c_laws_szNet c_laws_toNet c_laws_toFault c_spec_TwinFault c_impl_TwinFault c_laws_eqFault c_laws_eqNet N) Go.Proofs.Try.f9.ntmps (retOf (E9 c_laws_szNet c_laws_toNet c_laws_toFault c_spec_TwinFault c_impl_TwinFault c_laws_eqFault c_laws_eqNet) Go.Proofs.Try.f9 .bool) (loopsOf (Go.Proofs.Try.f9.body.getD .skip)) :=
  LoopsOk.of (l := []) (by kernel_rfl) .nil
theorem There9 : There Go.Proofs.Try.prog 9 := ⟨_, Go.Proofs.Try.func9, by kernel_rfl, by kernel_rfl⟩
theorem C9 {c_laws_szNet : ((Int × Int × Int × List (Int × Int × Int)) × Int × Unit → Option Int)} {c_laws_toNet : ((Int × Int × Int × List (Int × Int × Int)) × Unit → Option (Int × Int × Int × List (Int × Int × Int)))} {c_laws_toFault : ((Int × Int) × Unit → Option (Int × Int))} {c_spec_TwinFault : ((Int × Int × Int × List (Int × Int × Int)) × (Int × Int) × Unit → Option ((Int × Int) × Bool))} {c_impl_TwinFault : ((Int × Int × Int × List (Int × Int × Int)) × (Int × Int) × Unit → Option ((Int × Int) × Bool))} {c_laws_eqFault : ((Int × Int) × (Int × Int) × Unit → Option Bool)} {c_laws_eqNet : ((Int × Int × Int × List (Int × Int × Int)) × (Int × Int × Int × List (Int × Int × Int)) × Unit → Option Bool)} (h_c_laws_szNet : Contract Go.Proofs.Try.prog 15 ⟨[net, int], int, c_laws_szNet⟩) (h_c_laws_toNet : Contract Go.Proofs.Try.prog 17 ⟨[net], net, c_laws_toNet⟩) (h_c_laws_toFault : Contract Go.Proofs.Try.prog 42 ⟨[fault], fault, c_laws_toFault⟩) (h_c_spec_TwinFault : Contract Go.Proofs.Try.prog 41 ⟨[net, fault], (.tup fault .bool), c_spec_TwinFault⟩) (h_c_impl_TwinFault : Contract Go.Proofs.Try.prog 43 ⟨[net, fault], (.tup fault .bool), c_impl_TwinFault⟩) (h_c_laws_eqFault : Contract Go.Proofs.Try.prog 44 ⟨[fault, fault], .bool, c_laws_eqFault⟩) (h_c_laws_eqNet : Contract Go.Proofs.Try.prog 20 ⟨[net, net], .bool, c_laws_eqNet⟩) {f : ((Int × Int × Int × List (Int × Int × Int)) × (Int × Int) × Unit → Option Bool)} (h : ∀ a0 a1 r, f (a0, a1, ()) = some r → ∃ N, r_laws_FnExactTwinFault c_laws_szNet c_laws_toNet c_laws_toFault c_spec_TwinFault c_impl_TwinFault c_laws_eqFault c_laws_eqNet N a0 a1 = some r) : Contract Go.Proofs.Try.prog 9 ⟨[net, fault], .bool, f⟩ := by
  refine contract (E := E9 c_laws_szNet c_laws_toNet c_laws_toFault c_spec_TwinFault c_impl_TwinFault c_laws_eqFault c_laws_eqNet) (envOf table ⟨⟨h_c_laws_szNet, There15⟩, ⟨⟨h_c_laws_toNet, There17⟩, ⟨⟨h_c_laws_toFault, There42⟩, ⟨⟨h_c_spec_TwinFault, There41⟩, ⟨⟨h_c_impl_TwinFault, There43⟩, ⟨⟨h_c_laws_eqFault, There44⟩, ⟨⟨h_c_laws_eqNet, There20⟩, trivial⟩⟩⟩⟩⟩⟩⟩ trivial) mixed Go.Proofs.Try.func9 (c := Go.Proofs.Try.f9.body.getD .skip) (by kernel_rfl) (Nat.le_of_ble_eq_true (by kernel_rfl)) fun xs r hr => ?_
  obtain ⟨a0, a1, _⟩ := xs
  obtain ⟨N, hN⟩ := h _ _ r hr
  exact ⟨N, A9 c_laws_szNet c_laws_toNet c_laws_toFault c_spec_TwinFault c_impl_TwinFault c_laws_eqFault c_laws_eqNet N, L9 c_laws_szNet c_laws_toNet c_laws_toFault c_spec_TwinFault c_impl_TwinFault c_laws_eqFault c_laws_eqNet N, (K9 c_laws_szNet c_laws_toNet c_laws_toFault c_spec_TwinFault c_impl_TwinFault c_laws_eqFault c_laws_eqNet N a0 a1).trans hN⟩
theorem X9 : Contract Go.Proofs.Try.prog 9 ⟨[net, fault], .bool, e_laws_FnExactTwinFault⟩ := C9 X15 X17 X42 X41 X43 X44 X20 fun _ _ _ h => ⟨N0, h⟩
end Go.Sx.S
