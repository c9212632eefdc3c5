/- The functions keep their contracts. Conditions: none. -/
import Derived.Test.YtgiiolidgiglaaaRes
import Derived.Shelf.Slices.Empties
import Derived.Shelf.Slices.Delete
import Derived.Test.YtgiiolidgiglaaaProg
/- The functions of the program compute what was printed. Conditions: none. -/
namespace Go.Sx.S
open Go Go.Sx Go.Sx.R
def int : Ty := .num .i64
def wire : Ty := .pair int (.pair int int)
def net : Ty := .pair int (.pair int (.pair int (.slice wire)))
def ratio : Ty := .pair int int
def fault : Ty := .pair int int

def tys : List (Nat × Ty) := [(3, int), (4, .bool), (5, (.num .u8)), (21, (.num .i32)), (22, (.slice wire)), (24, net), (26, (.slice int)), (28, (.slice wire)), (30, net), (37, .raw), (39, (.slice fault)), (42, fault), (46, (.slice (.slice ratio))), (59, wire), (61, (.slice .bool)), (71, (.slice (.slice int))), (74, (.slice ratio)), (76, ratio), (88, wire), (91, curTy), (97, (.num .u64)), (117, (.num .u32))]
theorem table (sp : List (Nat × FnSpec)) (mu : List (Nat × MutSpec)) (cu : List (Nat × CurSpec)) (A : Option (Nat × Obj)) (fz : List Nat) : tableB Go.Proofs.Try.prog ⟨tys, [], sp, mu, cu, A, fz⟩ tys = true := by kernel_rfl
def tysC : List (Nat × Ty) := [(37, .slice (.num .u8)), (5, .num .u8)]
theorem tableC (sp : List (Nat × FnSpec)) (mu : List (Nat × MutSpec)) (cu : List (Nat × CurSpec)) (A : Option (Nat × Obj)) (fz : List Nat) : tableB Go.Proofs.Try.prog ⟨tysC, [], sp, mu, cu, A, fz⟩ tysC = true := by kernel_rfl
theorem mixed : Go.Proofs.Try.prog.follows .mixedOrders = true := by kernel_rfl
-- spec_l01New
def E35 (A : Option (Nat × Obj)) : Env := ⟨tys, [], [], [], [], A, []⟩
def A35 (A : Option (Nat × Obj)) (N : Nat) : List (Nat × Loop (Option (Value × Int × Int))) := [(0, ⟨[(0, .ro none .raw), (3, .ro none (.num .i64)), (4, .ro none (.num .i64))], r_spec_l01New_L0 A N⟩)]
theorem K35 (A : Option (Nat × Obj)) (N : Nat) (a0 : Value) : fnNew N (E35 A) Go.Proofs.Try.f35 [.raw] (A35 A N) (a0, ()) = r_spec_l01New A N a0 := by kernel_rfl
theorem L35 (A : Option (Nat × Obj)) (N : Nat) : LoopsOk N (E35 A) (A35 A N) Go.Proofs.Try.f35.ntmps (retNew Go.Proofs.Try.f35) (loopsOf (Go.Proofs.Try.f35.body.getD .skip)) :=
  LoopsOk.of (l := [(0, lb Go.Proofs.Try.f35 0)]) (by kernel_rfl) (.cons (L := ⟨[(0, .ro none .raw), (3, .ro none (.num .i64)), (4, .ro none (.num .i64))], r_spec_l01New_L0 A N⟩) (by kernel_rfl) (by intro s kc ke env; kernel_rfl) .nil)
theorem There35 : There Go.Proofs.Try.prog 35 := ⟨_, Go.Proofs.Try.func35, by kernel_rfl, by kernel_rfl⟩
theorem C35 {A : Option (Nat × Obj)} {f : (Value × Unit → Option (Option (Value × Int × Int)))} (h : ∀ a0 r, f (a0, ()) = some r → ∃ N, r_spec_l01New A N a0 = some r) : ContractA Go.Proofs.Try.prog A 35 ⟨[.raw], .cur, f⟩ := by
  refine newC (E := (E35 A)) (envOf table trivial trivial trivial) mixed Go.Proofs.Try.func35 (c := Go.Proofs.Try.f35.body.getD .skip) (by kernel_rfl) (Nat.le_of_ble_eq_true (by kernel_rfl)) fun xs r hr => ?_
  obtain ⟨a0, _⟩ := xs
  obtain ⟨N, hN⟩ := h _ r hr
  exact ⟨N, A35 A N, L35 A N, (K35 A N a0).trans hN⟩
theorem X35 {A : Option (Nat × Obj)} : ContractA Go.Proofs.Try.prog A 35 ⟨[.raw], .cur, e_spec_l01New A⟩ := C35 fun _ _ h => ⟨N0, h⟩
-- spec_l01Byte
def E39 (A : Option (Nat × Obj)) : Env := ⟨tys, [], [], [], [], A, []⟩
def A39 (_A : Option (Nat × Obj)) (_N : Nat) : List (Nat × Loop (Option (Value × Int × Int) × Ty.den int)) := []
theorem K39 (k_spec_l01Byte_ : (Option (Value × Int × Int) → (Unit) → Option (Option (Value × Int × Int) × Int))) (A : Option (Nat × Obj)) (N : Nat) (a0 : (Value × Int × Int)) : fnByte N (E39 A) Go.Proofs.Try.f39 ⟨[], int, k_spec_l01Byte_⟩ (A39 A N) a0 () = r_spec_l01Byte A N a0 := by kernel_rfl
theorem L39 (k_spec_l01Byte_ : (Option (Value × Int × Int) → (Unit) → Option (Option (Value × Int × Int) × Int))) (A : Option (Nat × Obj)) (N : Nat) : LoopsOk N (E39 A) (A39 A N) Go.Proofs.Try.f39.ntmps (retB (E39 A) Go.Proofs.Try.f39 int) (loopsOf (Go.Proofs.Try.f39.body.getD .skip)) :=
  LoopsOk.of (l := []) (by kernel_rfl) .nil
theorem There39 : There Go.Proofs.Try.prog 39 := ⟨_, Go.Proofs.Try.func39, by kernel_rfl, by kernel_rfl⟩
theorem C39 {A : Option (Nat × Obj)} {f : (Option (Value × Int × Int) → (Unit) → Option (Option (Value × Int × Int) × Int))} (h : ∀ a0 r, f (some a0) () = some r → ∃ N, r_spec_l01Byte A N a0 = some r) (h0 : ∀ xs, f none xs = none) : CurC Go.Proofs.Try.prog A 39 ⟨[], int, f⟩ := by
  refine byteC (E := (E39 A)) (envOf table trivial trivial trivial) mixed Go.Proofs.Try.func39 (c := Go.Proofs.Try.f39.body.getD .skip) (by kernel_rfl) (Nat.le_of_ble_eq_true (by kernel_rfl)) (by kernel_rfl) fun y xs r hr => ?_
  match y, hr with
  | none, hr => exact absurd ((h0 xs).symm.trans hr) (by simp)
  | some a0, hr =>
    obtain ⟨N, hN⟩ := h _ r hr
    exact ⟨a0, N, A39 A N, rfl, L39 f A N, (K39 f A N a0).trans hN⟩
theorem X39 {A : Option (Nat × Obj)} : CurC Go.Proofs.Try.prog A 39 ⟨[], int, e_spec_l01Byte A⟩ := C39 (fun _ _ h => ⟨N0, h⟩) (fun _ => rfl)
-- spec_l01Below
def E37 (k_spec_l01Byte : (Option (Value × Int × Int) → (Unit) → Option (Option (Value × Int × Int) × Int))) (A : Option (Nat × Obj)) : Env := ⟨tys, [], [], [], [(39, ⟨[], int, k_spec_l01Byte⟩)], A, []⟩
def A37 (_k_spec_l01Byte : (Option (Value × Int × Int) → (Unit) → Option (Option (Value × Int × Int) × Int))) (_N : Nat) : List (Nat × Loop (Option (Value × Int × Int) × Ty.den int)) := []
theorem K37 (k_spec_l01Byte : (Option (Value × Int × Int) → (Unit) → Option (Option (Value × Int × Int) × Int))) (k_spec_l01Below_ : (Option (Value × Int × Int) → (Int × Unit) → Option (Option (Value × Int × Int) × Int))) (A : Option (Nat × Obj)) (N : Nat) (a0 : (Option (Value × Int × Int))) (a1 : Int) : fnCur N (E37 k_spec_l01Byte A) Go.Proofs.Try.f37 ⟨[int], int, k_spec_l01Below_⟩ (A37 k_spec_l01Byte N) a0 (a1, ()) = r_spec_l01Below k_spec_l01Byte N a0 a1 := by kernel_rfl
theorem L37 (k_spec_l01Byte : (Option (Value × Int × Int) → (Unit) → Option (Option (Value × Int × Int) × Int))) (k_spec_l01Below_ : (Option (Value × Int × Int) → (Int × Unit) → Option (Option (Value × Int × Int) × Int))) (A : Option (Nat × Obj)) (N : Nat) : LoopsOk N (E37 k_spec_l01Byte A) (A37 k_spec_l01Byte N) Go.Proofs.Try.f37.ntmps (retC (E37 k_spec_l01Byte A) Go.Proofs.Try.f37 ⟨[int], int, k_spec_l01Below_⟩) (loopsOf (Go.Proofs.Try.f37.body.getD .skip)) :=
  LoopsOk.of (l := []) (by kernel_rfl) .nil
theorem There37 : There Go.Proofs.Try.prog 37 := ⟨_, Go.Proofs.Try.func37, by kernel_rfl, by kernel_rfl⟩
theorem C37 {A : Option (Nat × Obj)} {k_spec_l01Byte : (Option (Value × Int × Int) → (Unit) → Option (Option (Value × Int × Int) × Int))} (h_k_spec_l01Byte : CurC Go.Proofs.Try.prog A 39 ⟨[], int, k_spec_l01Byte⟩) {f : (Option (Value × Int × Int) → (Int × Unit) → Option (Option (Value × Int × Int) × Int))} (h : ∀ a0 a1 r, f a0 (a1, ()) = some r → ∃ N, r_spec_l01Below k_spec_l01Byte N a0 a1 = some r) : CurC Go.Proofs.Try.prog A 37 ⟨[int], int, f⟩ := by
  refine curC (E := (E37 k_spec_l01Byte A)) (envOf table trivial trivial ⟨⟨h_k_spec_l01Byte, There39⟩, trivial⟩) mixed Go.Proofs.Try.func37 (c := Go.Proofs.Try.f37.body.getD .skip) (by kernel_rfl) (Nat.le_of_ble_eq_true (by kernel_rfl)) (by kernel_rfl) fun a0 xs r hr => ?_
  obtain ⟨a1, _⟩ := xs
  obtain ⟨N, hN⟩ := h _ _ r hr
  exact ⟨N, A37 k_spec_l01Byte N, L37 k_spec_l01Byte f A N, (K37 k_spec_l01Byte f A N a0 a1).trans hN⟩
theorem X37 {A : Option (Nat × Obj)} : CurC Go.Proofs.Try.prog A 37 ⟨[int], int, e_spec_l01Below A⟩ := C37 X39 fun _ _ _ h => ⟨N0, h⟩
-- spec_l03Put
def E55 (A : Option (Nat × Obj)) : Env := ⟨tys, [], [], [], [], A, []⟩
def A55 (N : Nat) : List (Nat × Loop (Ty.den (.slice wire))) := [(0, ⟨[(4, .ro none .bool), (11, .own (.slice (.pair (.num .i64) (.pair (.num .i64) (.num .i64))))), (12, .box true (.pair (.num .i64) (.pair (.num .i64) (.num .i64)))), (13, .ro none .bool), (27, .ro none (.slice (.pair (.num .i64) (.pair (.num .i64) (.num .i64))))), (28, .ro none (.num .i64)), (29, .ro none (.num .i64))], r_spec_l03Put_L0 N⟩), (2, ⟨[(11, .own (.slice (.pair (.num .i64) (.pair (.num .i64) (.num .i64))))), (12, .box true (.pair (.num .i64) (.pair (.num .i64) (.num .i64)))), (13, .ro none .bool), (59, .ro (some 0) (.slice (.pair (.num .i64) (.pair (.num .i64) (.num .i64))))), (60, .ro none (.num .i64)), (61, .ro none (.num .i64))], r_spec_l03Put_L2 N⟩)]
theorem K55 (A : Option (Nat × Obj)) (N : Nat) (a0 : (List (Int × Int × Int))) (a1 : Int) (a2 : Int) (a3 : Int) (a4 : Bool) : fnK N (E55 A) Go.Proofs.Try.f55 [(.slice wire), int, int, int, .bool] (.slice wire) (A55 N) (a0, a1, a2, a3, a4, ()) = r_spec_l03Put N a0 a1 a2 a3 a4 := by kernel_rfl
theorem L55 (A : Option (Nat × Obj)) (N : Nat) : LoopsOk N (E55 A) (A55 N) Go.Proofs.Try.f55.ntmps (retOf (E55 A) Go.Proofs.Try.f55 (.slice wire)) (loopsOf (Go.Proofs.Try.f55.body.getD .skip)) :=
  LoopsOk.of (l := [(0, lb Go.Proofs.Try.f55 0), (2, lb Go.Proofs.Try.f55 1)]) (by kernel_rfl) (.cons (L := ⟨[(4, .ro none .bool), (11, .own (.slice (.pair (.num .i64) (.pair (.num .i64) (.num .i64))))), (12, .box true (.pair (.num .i64) (.pair (.num .i64) (.num .i64)))), (13, .ro none .bool), (27, .ro none (.slice (.pair (.num .i64) (.pair (.num .i64) (.num .i64))))), (28, .ro none (.num .i64)), (29, .ro none (.num .i64))], r_spec_l03Put_L0 N⟩) (by kernel_rfl) (by intro s kc ke env; kernel_rfl) (.cons (L := ⟨[(11, .own (.slice (.pair (.num .i64) (.pair (.num .i64) (.num .i64))))), (12, .box true (.pair (.num .i64) (.pair (.num .i64) (.num .i64)))), (13, .ro none .bool), (59, .ro (some 0) (.slice (.pair (.num .i64) (.pair (.num .i64) (.num .i64))))), (60, .ro none (.num .i64)), (61, .ro none (.num .i64))], r_spec_l03Put_L2 N⟩) (by kernel_rfl) (by intro s kc ke env; kernel_rfl) .nil))
theorem There55 : There Go.Proofs.Try.prog 55 := ⟨_, Go.Proofs.Try.func55, by kernel_rfl, by kernel_rfl⟩
theorem C55 {A : Option (Nat × Obj)} {f : ((List (Int × Int × Int)) × Int × Int × Int × Bool × Unit → Option (List (Int × Int × Int)))} (h : ∀ a0 a1 a2 a3 a4 r, f (a0, a1, a2, a3, a4, ()) = some r → ∃ N, r_spec_l03Put N a0 a1 a2 a3 a4 = some r) : ContractA Go.Proofs.Try.prog A 55 ⟨[(.slice wire), int, int, int, .bool], (.slice wire), f⟩ := by
  refine contract (E := (E55 A)) (envOf table trivial trivial trivial) mixed Go.Proofs.Try.func55 (c := Go.Proofs.Try.f55.body.getD .skip) (by kernel_rfl) (Nat.le_of_ble_eq_true (by kernel_rfl)) fun xs r hr => ?_
  obtain ⟨a0, a1, a2, a3, a4, _⟩ := xs
  obtain ⟨N, hN⟩ := h _ _ _ _ _ r hr
  exact ⟨N, A55 N, L55 A N, (K55 A N a0 a1 a2 a3 a4).trans hN⟩
theorem X55 {A : Option (Nat × Obj)} : ContractA Go.Proofs.Try.prog A 55 ⟨[(.slice wire), int, int, int, .bool], (.slice wire), e_spec_l03Put⟩ := C55 fun _ _ _ _ _ _ h => ⟨N0, h⟩
-- spec_l03Draw
def E36 (k_spec_l01Below : (Option (Value × Int × Int) → (Int × Unit) → Option (Option (Value × Int × Int) × Int))) (c_spec_l03Put : ((List (Int × Int × Int)) × Int × Int × Int × Bool × Unit → Option (List (Int × Int × Int)))) (A : Option (Nat × Obj)) : Env := ⟨tys, [], [(55, ⟨[(.slice wire), int, int, int, .bool], (.slice wire), c_spec_l03Put⟩)], [], [(37, ⟨[int], int, k_spec_l01Below⟩)], A, []⟩
def A36 (k_spec_l01Below : (Option (Value × Int × Int) → (Int × Unit) → Option (Option (Value × Int × Int) × Int))) (c_spec_l03Put : ((List (Int × Int × Int)) × Int × Int × Int × Bool × Unit → Option (List (Int × Int × Int)))) (N : Nat) : List (Nat × Loop (Option (Value × Int × Int) × Ty.den net)) := [(0, ⟨[(0, .own .cur), (4, .box true (.pair (.num .i64) (.pair (.num .i64) (.pair (.num .i64) (.slice (.pair (.num .i64) (.pair (.num .i64) (.num .i64)))))))), (5, .box true (.pair (.num .i64) (.pair (.num .i64) (.pair (.num .i64) (.slice (.pair (.num .i64) (.pair (.num .i64) (.num .i64)))))))), (6, .ro none (.num .i64))], r_spec_l03Draw_L0 k_spec_l01Below c_spec_l03Put N⟩), (2, ⟨[(0, .own .cur), (4, .box true (.pair (.num .i64) (.pair (.num .i64) (.pair (.num .i64) (.slice (.pair (.num .i64) (.pair (.num .i64) (.num .i64)))))))), (5, .box true (.pair (.num .i64) (.pair (.num .i64) (.pair (.num .i64) (.slice (.pair (.num .i64) (.pair (.num .i64) (.num .i64)))))))), (7, .ro none (.num .i64))], r_spec_l03Draw_L2 k_spec_l01Below c_spec_l03Put N⟩)]
theorem K36 (k_spec_l01Below : (Option (Value × Int × Int) → (Int × Unit) → Option (Option (Value × Int × Int) × Int))) (c_spec_l03Put : ((List (Int × Int × Int)) × Int × Int × Int × Bool × Unit → Option (List (Int × Int × Int)))) (k_spec_l03Draw_ : (Option (Value × Int × Int) → (Int × Unit) → Option (Option (Value × Int × Int) × (Int × Int × Int × List (Int × Int × Int))))) (A : Option (Nat × Obj)) (N : Nat) (a0 : (Option (Value × Int × Int))) (a1 : Int) : fnCur N (E36 k_spec_l01Below c_spec_l03Put A) Go.Proofs.Try.f36 ⟨[int], net, k_spec_l03Draw_⟩ (A36 k_spec_l01Below c_spec_l03Put N) a0 (a1, ()) = r_spec_l03Draw k_spec_l01Below c_spec_l03Put N a0 a1 := by kernel_rfl
theorem L36 (k_spec_l01Below : (Option (Value × Int × Int) → (Int × Unit) → Option (Option (Value × Int × Int) × Int))) (c_spec_l03Put : ((List (Int × Int × Int)) × Int × Int × Int × Bool × Unit → Option (List (Int × Int × Int)))) (k_spec_l03Draw_ : (Option (Value × Int × Int) → (Int × Unit) → Option (Option (Value × Int × Int) × (Int × Int × Int × List (Int × Int × Int))))) (A : Option (Nat × Obj)) (N : Nat) : LoopsOk N (E36 k_spec_l01Below c_spec_l03Put A) (A36 k_spec_l01Below c_spec_l03Put N) Go.Proofs.Try.f36.ntmps (retC (E36 k_spec_l01Below c_spec_l03Put A) Go.Proofs.Try.f36 ⟨[int], net, k_spec_l03Draw_⟩) (loopsOf (Go.Proofs.Try.f36.body.getD .skip)) :=
  LoopsOk.of (l := [(0, lb Go.Proofs.Try.f36 0), (2, lb Go.Proofs.Try.f36 1)]) (by kernel_rfl) (.cons (L := ⟨[(0, .own .cur), (4, .box true (.pair (.num .i64) (.pair (.num .i64) (.pair (.num .i64) (.slice (.pair (.num .i64) (.pair (.num .i64) (.num .i64)))))))), (5, .box true (.pair (.num .i64) (.pair (.num .i64) (.pair (.num .i64) (.slice (.pair (.num .i64) (.pair (.num .i64) (.num .i64)))))))), (6, .ro none (.num .i64))], r_spec_l03Draw_L0 k_spec_l01Below c_spec_l03Put N⟩) (by kernel_rfl) (by intro s kc ke env; kernel_rfl) (.cons (L := ⟨[(0, .own .cur), (4, .box true (.pair (.num .i64) (.pair (.num .i64) (.pair (.num .i64) (.slice (.pair (.num .i64) (.pair (.num .i64) (.num .i64)))))))), (5, .box true (.pair (.num .i64) (.pair (.num .i64) (.pair (.num .i64) (.slice (.pair (.num .i64) (.pair (.num .i64) (.num .i64)))))))), (7, .ro none (.num .i64))], r_spec_l03Draw_L2 k_spec_l01Below c_spec_l03Put N⟩) (by kernel_rfl) (by intro s kc ke env; kernel_rfl) .nil))
theorem There36 : There Go.Proofs.Try.prog 36 := ⟨_, Go.Proofs.Try.func36, by kernel_rfl, by kernel_rfl⟩
theorem C36 {A : Option (Nat × Obj)} {k_spec_l01Below : (Option (Value × Int × Int) → (Int × Unit) → Option (Option (Value × Int × Int) × Int))} {c_spec_l03Put : ((List (Int × Int × Int)) × Int × Int × Int × Bool × Unit → Option (List (Int × Int × Int)))} (h_k_spec_l01Below : CurC Go.Proofs.Try.prog A 37 ⟨[int], int, k_spec_l01Below⟩) (h_c_spec_l03Put : ContractA Go.Proofs.Try.prog A 55 ⟨[(.slice wire), int, int, int, .bool], (.slice wire), c_spec_l03Put⟩) {f : (Option (Value × Int × Int) → (Int × Unit) → Option (Option (Value × Int × Int) × (Int × Int × Int × List (Int × Int × Int))))} (h : ∀ a0 a1 r, f a0 (a1, ()) = some r → ∃ N, r_spec_l03Draw k_spec_l01Below c_spec_l03Put N a0 a1 = some r) : CurC Go.Proofs.Try.prog A 36 ⟨[int], net, f⟩ := by
  refine curC (E := (E36 k_spec_l01Below c_spec_l03Put A)) (envOf table ⟨⟨h_c_spec_l03Put, There55⟩, trivial⟩ trivial ⟨⟨h_k_spec_l01Below, There37⟩, trivial⟩) mixed Go.Proofs.Try.func36 (c := Go.Proofs.Try.f36.body.getD .skip) (by kernel_rfl) (Nat.le_of_ble_eq_true (by kernel_rfl)) (by kernel_rfl) fun a0 xs r hr => ?_
  obtain ⟨a1, _⟩ := xs
  obtain ⟨N, hN⟩ := h _ _ r hr
  exact ⟨N, A36 k_spec_l01Below c_spec_l03Put N, L36 k_spec_l01Below c_spec_l03Put f A N, (K36 k_spec_l01Below c_spec_l03Put f A N a0 a1).trans hN⟩
theorem X36 {A : Option (Nat × Obj)} : CurC Go.Proofs.Try.prog A 36 ⟨[int], net, e_spec_l03Draw A⟩ := C36 X37 X55 fun _ _ _ h => ⟨N0, h⟩
-- spec_MakeSmall
def E16 (c_spec_l01New : (Value × Unit → Option (Option (Value × Int × Int)))) (k_spec_l03Draw : (Option (Value × Int × Int) → (Int × Unit) → Option (Option (Value × Int × Int) × (Int × Int × Int × List (Int × Int × Int))))) (k_spec_l01Below : (Option (Value × Int × Int) → (Int × Unit) → Option (Option (Value × Int × Int) × Int))) (A : Option (Nat × Obj)) : Env := ⟨tys, [], [(35, ⟨[.raw], .cur, c_spec_l01New⟩)], [], [(36, ⟨[int], net, k_spec_l03Draw⟩), (37, ⟨[int], int, k_spec_l01Below⟩)], A, []⟩
def A16 (c_spec_l01New : (Value × Unit → Option (Option (Value × Int × Int)))) (k_spec_l03Draw : (Option (Value × Int × Int) → (Int × Unit) → Option (Option (Value × Int × Int) × (Int × Int × Int × List (Int × Int × Int))))) (k_spec_l01Below : (Option (Value × Int × Int) → (Int × Unit) → Option (Option (Value × Int × Int) × Int))) (N : Nat) : List (Nat × Loop (Ty.den net)) := [(0, ⟨[(2, .box true (.pair (.num .i64) (.pair (.num .i64) (.pair (.num .i64) (.slice (.pair (.num .i64) (.pair (.num .i64) (.num .i64)))))))), (3, .own .cur), (4, .box true (.pair (.num .i64) (.pair (.num .i64) (.pair (.num .i64) (.slice (.pair (.num .i64) (.pair (.num .i64) (.num .i64)))))))), (12, .ro none (.num .i64)), (13, .ro none (.num .i64))], r_spec_MakeSmall_L0 c_spec_l01New k_spec_l03Draw k_spec_l01Below N⟩)]
theorem K16 (c_spec_l01New : (Value × Unit → Option (Option (Value × Int × Int)))) (k_spec_l03Draw : (Option (Value × Int × Int) → (Int × Unit) → Option (Option (Value × Int × Int) × (Int × Int × Int × List (Int × Int × Int))))) (k_spec_l01Below : (Option (Value × Int × Int) → (Int × Unit) → Option (Option (Value × Int × Int) × Int))) (A : Option (Nat × Obj)) (N : Nat) (a0 : Value) : fnK N (E16 c_spec_l01New k_spec_l03Draw k_spec_l01Below A) Go.Proofs.Try.f16 [.raw] net (A16 c_spec_l01New k_spec_l03Draw k_spec_l01Below N) (a0, ()) = r_spec_MakeSmall c_spec_l01New k_spec_l03Draw k_spec_l01Below N a0 := by kernel_rfl
theorem L16 (c_spec_l01New : (Value × Unit → Option (Option (Value × Int × Int)))) (k_spec_l03Draw : (Option (Value × Int × Int) → (Int × Unit) → Option (Option (Value × Int × Int) × (Int × Int × Int × List (Int × Int × Int))))) (k_spec_l01Below : (Option (Value × Int × Int) → (Int × Unit) → Option (Option (Value × Int × Int) × Int))) (A : Option (Nat × Obj)) (N : Nat) : LoopsOk N (E16 c_spec_l01New k_spec_l03Draw k_spec_l01Below A) (A16 c_spec_l01New k_spec_l03Draw k_spec_l01Below N) Go.Proofs.Try.f16.ntmps (retOf (E16 c_spec_l01New k_spec_l03Draw k_spec_l01Below A) Go.Proofs.Try.f16 net) (loopsOf (Go.Proofs.Try.f16.body.getD .skip)) :=
  LoopsOk.of (l := [(0, lb Go.Proofs.Try.f16 0)]) (by kernel_rfl) (.cons (L := ⟨[(2, .box true (.pair (.num .i64) (.pair (.num .i64) (.pair (.num .i64) (.slice (.pair (.num .i64) (.pair (.num .i64) (.num .i64)))))))), (3, .own .cur), (4, .box true (.pair (.num .i64) (.pair (.num .i64) (.pair (.num .i64) (.slice (.pair (.num .i64) (.pair (.num .i64) (.num .i64)))))))), (12, .ro none (.num .i64)), (13, .ro none (.num .i64))], r_spec_MakeSmall_L0 c_spec_l01New k_spec_l03Draw k_spec_l01Below N⟩) (by kernel_rfl) (by intro s kc ke env; kernel_rfl) .nil)
theorem There16 : There Go.Proofs.Try.prog 16 := ⟨_, Go.Proofs.Try.func16, by kernel_rfl, by kernel_rfl⟩
theorem C16 {A : Option (Nat × Obj)} {c_spec_l01New : (Value × Unit → Option (Option (Value × Int × Int)))} {k_spec_l03Draw : (Option (Value × Int × Int) → (Int × Unit) → Option (Option (Value × Int × Int) × (Int × Int × Int × List (Int × Int × Int))))} {k_spec_l01Below : (Option (Value × Int × Int) → (Int × Unit) → Option (Option (Value × Int × Int) × Int))} (h_c_spec_l01New : ContractA Go.Proofs.Try.prog A 35 ⟨[.raw], .cur, c_spec_l01New⟩) (h_k_spec_l03Draw : CurC Go.Proofs.Try.prog A 36 ⟨[int], net, k_spec_l03Draw⟩) (h_k_spec_l01Below : CurC Go.Proofs.Try.prog A 37 ⟨[int], int, k_spec_l01Below⟩) {f : (Value × Unit → Option (Int × Int × Int × List (Int × Int × Int)))} (h : ∀ a0 r, f (a0, ()) = some r → ∃ N, r_spec_MakeSmall c_spec_l01New k_spec_l03Draw k_spec_l01Below N a0 = some r) : ContractA Go.Proofs.Try.prog A 16 ⟨[.raw], net, f⟩ := by
  refine contract (E := (E16 c_spec_l01New k_spec_l03Draw k_spec_l01Below A)) (envOf table ⟨⟨h_c_spec_l01New, There35⟩, trivial⟩ trivial ⟨⟨h_k_spec_l03Draw, There36⟩, ⟨⟨h_k_spec_l01Below, There37⟩, trivial⟩⟩) mixed Go.Proofs.Try.func16 (c := Go.Proofs.Try.f16.body.getD .skip) (by kernel_rfl) (Nat.le_of_ble_eq_true (by kernel_rfl)) fun xs r hr => ?_
  obtain ⟨a0, _⟩ := xs
  obtain ⟨N, hN⟩ := h _ r hr
  exact ⟨N, A16 c_spec_l01New k_spec_l03Draw k_spec_l01Below N, L16 c_spec_l01New k_spec_l03Draw k_spec_l01Below A N, (K16 c_spec_l01New k_spec_l03Draw k_spec_l01Below A N a0).trans hN⟩
theorem X16 {A : Option (Nat × Obj)} : ContractA Go.Proofs.Try.prog A 16 ⟨[.raw], net, e_spec_MakeSmall A⟩ := C16 X35 X36 X37 fun _ _ h => ⟨N0, h⟩
-- spec_l18New
def E38 (c_spec_l01New : (Value × Unit → Option (Option (Value × Int × Int)))) (k_spec_l01Byte : (Option (Value × Int × Int) → (Unit) → Option (Option (Value × Int × Int) × Int))) (A : Option (Nat × Obj)) : Env := ⟨tys, [], [(35, ⟨[.raw], .cur, c_spec_l01New⟩)], [], [(39, ⟨[], int, k_spec_l01Byte⟩)], A, []⟩
def A38 (c_spec_l01New : (Value × Unit → Option (Option (Value × Int × Int)))) (k_spec_l01Byte : (Option (Value × Int × Int) → (Unit) → Option (Option (Value × Int × Int) × Int))) (N : Nat) : List (Nat × Loop (Ty.den .cur)) := [(0, ⟨[(1, .ro none (.num .i64)), (5, .own .cur), (6, .ro none (.num .i64))], r_spec_l18New_L0 c_spec_l01New k_spec_l01Byte N⟩)]
theorem K38 (c_spec_l01New : (Value × Unit → Option (Option (Value × Int × Int)))) (k_spec_l01Byte : (Option (Value × Int × Int) → (Unit) → Option (Option (Value × Int × Int) × Int))) (A : Option (Nat × Obj)) (N : Nat) (a0 : Value) (a1 : Int) : fnK N (E38 c_spec_l01New k_spec_l01Byte A) Go.Proofs.Try.f38 [.raw, int] .cur (A38 c_spec_l01New k_spec_l01Byte N) (a0, a1, ()) = r_spec_l18New c_spec_l01New k_spec_l01Byte N a0 a1 := by kernel_rfl
theorem L38 (c_spec_l01New : (Value × Unit → Option (Option (Value × Int × Int)))) (k_spec_l01Byte : (Option (Value × Int × Int) → (Unit) → Option (Option (Value × Int × Int) × Int))) (A : Option (Nat × Obj)) (N : Nat) : LoopsOk N (E38 c_spec_l01New k_spec_l01Byte A) (A38 c_spec_l01New k_spec_l01Byte N) Go.Proofs.Try.f38.ntmps (retOf (E38 c_spec_l01New k_spec_l01Byte A) Go.Proofs.Try.f38 .cur) (loopsOf (Go.Proofs.Try.f38.body.getD .skip)) :=
  LoopsOk.of (l := [(0, lb Go.Proofs.Try.f38 0)]) (by kernel_rfl) (.cons (L := ⟨[(1, .ro none (.num .i64)), (5, .own .cur), (6, .ro none (.num .i64))], r_spec_l18New_L0 c_spec_l01New k_spec_l01Byte N⟩) (by kernel_rfl) (by intro s kc ke env; kernel_rfl) .nil)
theorem There38 : There Go.Proofs.Try.prog 38 := ⟨_, Go.Proofs.Try.func38, by kernel_rfl, by kernel_rfl⟩
theorem C38 {A : Option (Nat × Obj)} {c_spec_l01New : (Value × Unit → Option (Option (Value × Int × Int)))} {k_spec_l01Byte : (Option (Value × Int × Int) → (Unit) → Option (Option (Value × Int × Int) × Int))} (h_c_spec_l01New : ContractA Go.Proofs.Try.prog A 35 ⟨[.raw], .cur, c_spec_l01New⟩) (h_k_spec_l01Byte : CurC Go.Proofs.Try.prog A 39 ⟨[], int, k_spec_l01Byte⟩) {f : (Value × Int × Unit → Option (Option (Value × Int × Int)))} (h : ∀ a0 a1 r, f (a0, a1, ()) = some r → ∃ N, r_spec_l18New c_spec_l01New k_spec_l01Byte N a0 a1 = some r) : ContractA Go.Proofs.Try.prog A 38 ⟨[.raw, int], .cur, f⟩ := by
  refine contract (E := (E38 c_spec_l01New k_spec_l01Byte A)) (envOf table ⟨⟨h_c_spec_l01New, There35⟩, trivial⟩ trivial ⟨⟨h_k_spec_l01Byte, There39⟩, trivial⟩) mixed Go.Proofs.Try.func38 (c := Go.Proofs.Try.f38.body.getD .skip) (by kernel_rfl) (Nat.le_of_ble_eq_true (by kernel_rfl)) fun xs r hr => ?_
  obtain ⟨a0, a1, _⟩ := xs
  obtain ⟨N, hN⟩ := h _ _ r hr
  exact ⟨N, A38 c_spec_l01New k_spec_l01Byte N, L38 c_spec_l01New k_spec_l01Byte A N, (K38 c_spec_l01New k_spec_l01Byte A N a0 a1).trans hN⟩
theorem X38 {A : Option (Nat × Obj)} : ContractA Go.Proofs.Try.prog A 38 ⟨[.raw, int], .cur, e_spec_l18New A⟩ := C38 X35 X39 fun _ _ _ h => ⟨N0, h⟩
-- spec_MakeNum
def E18 (c_spec_l18New : (Value × Int × Unit → Option (Option (Value × Int × Int)))) (k_spec_l01Byte : (Option (Value × Int × Int) → (Unit) → Option (Option (Value × Int × Int) × Int))) (A : Option (Nat × Obj)) : Env := ⟨tys, [], [(38, ⟨[.raw, int], .cur, c_spec_l18New⟩)], [], [(39, ⟨[], int, k_spec_l01Byte⟩)], A, []⟩
def A18 (_c_spec_l18New : (Value × Int × Unit → Option (Option (Value × Int × Int)))) (_k_spec_l01Byte : (Option (Value × Int × Int) → (Unit) → Option (Option (Value × Int × Int) × Int))) (_N : Nat) : List (Nat × Loop (Ty.den int)) := []
theorem K18 (c_spec_l18New : (Value × Int × Unit → Option (Option (Value × Int × Int)))) (k_spec_l01Byte : (Option (Value × Int × Int) → (Unit) → Option (Option (Value × Int × Int) × Int))) (A : Option (Nat × Obj)) (N : Nat) (a0 : Value) (a1 : Int) : fnK N (E18 c_spec_l18New k_spec_l01Byte A) Go.Proofs.Try.f18 [.raw, int] int (A18 c_spec_l18New k_spec_l01Byte N) (a0, a1, ()) = r_spec_MakeNum c_spec_l18New k_spec_l01Byte N a0 a1 := by kernel_rfl
theorem L18 (c_spec_l18New : (Value × Int × Unit → Option (Option (Value × Int × Int)))) (k_spec_l01Byte : (Option (Value × Int × Int) → (Unit) → Option (Option (Value × Int × Int) × Int))) (A : Option (Nat × Obj)) (N : Nat) : LoopsOk N (E18 c_spec_l18New k_spec_l01Byte A) (A18 c_spec_l18New k_spec_l01Byte N) Go.Proofs.Try.f18.ntmps (retOf (E18 c_spec_l18New k_spec_l01Byte A) Go.Proofs.Try.f18 int) (loopsOf (Go.Proofs.Try.f18.body.getD .skip)) :=
  LoopsOk.of (l := []) (by kernel_rfl) .nil
theorem There18 : There Go.Proofs.Try.prog 18 := ⟨_, Go.Proofs.Try.func18, by kernel_rfl, by kernel_rfl⟩
theorem C18 {A : Option (Nat × Obj)} {c_spec_l18New : (Value × Int × Unit → Option (Option (Value × Int × Int)))} {k_spec_l01Byte : (Option (Value × Int × Int) → (Unit) → Option (Option (Value × Int × Int) × Int))} (h_c_spec_l18New : ContractA Go.Proofs.Try.prog A 38 ⟨[.raw, int], .cur, c_spec_l18New⟩) (h_k_spec_l01Byte : CurC Go.Proofs.Try.prog A 39 ⟨[], int, k_spec_l01Byte⟩) {f : (Value × Int × Unit → Option Int)} (h : ∀ a0 a1 r, f (a0, a1, ()) = some r → ∃ N, r_spec_MakeNum c_spec_l18New k_spec_l01Byte N a0 a1 = some r) : ContractA Go.Proofs.Try.prog A 18 ⟨[.raw, int], int, f⟩ := by
  refine contract (E := (E18 c_spec_l18New k_spec_l01Byte A)) (envOf table ⟨⟨h_c_spec_l18New, There38⟩, trivial⟩ trivial ⟨⟨h_k_spec_l01Byte, There39⟩, trivial⟩) mixed Go.Proofs.Try.func18 (c := Go.Proofs.Try.f18.body.getD .skip) (by kernel_rfl) (Nat.le_of_ble_eq_true (by kernel_rfl)) fun xs r hr => ?_
  obtain ⟨a0, a1, _⟩ := xs
  obtain ⟨N, hN⟩ := h _ _ r hr
  exact ⟨N, A18 c_spec_l18New k_spec_l01Byte N, L18 c_spec_l18New k_spec_l01Byte A N, (K18 c_spec_l18New k_spec_l01Byte A N a0 a1).trans hN⟩
theorem X18 {A : Option (Nat × Obj)} : ContractA Go.Proofs.Try.prog A 18 ⟨[.raw, int], int, e_spec_MakeNum A⟩ := C18 X38 X39 fun _ _ _ h => ⟨N0, h⟩
-- slices_Index_bool
def E70 (A : Option (Nat × Obj)) : Env := ⟨tys, [], [], [], [], A, []⟩
def A70 (N : Nat) : List (Nat × Loop (Ty.den int)) := [(0, ⟨[(0, .ro none (.slice .bool)), (1, .ro none .bool), (7, .ro none (.num .i64)), (8, .ro none (.num .i64))], r_slices_Index_bool_L0 N⟩)]
theorem K70 (A : Option (Nat × Obj)) (N : Nat) (a0 : (List Bool)) (a1 : Bool) : fnK N (E70 A) Go.Proofs.Try.f70 [(.slice .bool), .bool] int (A70 N) (a0, a1, ()) = r_slices_Index_bool N a0 a1 := by kernel_rfl
theorem L70 (A : Option (Nat × Obj)) (N : Nat) : LoopsOk N (E70 A) (A70 N) Go.Proofs.Try.f70.ntmps (retOf (E70 A) Go.Proofs.Try.f70 int) (loopsOf (Go.Proofs.Try.f70.body.getD .skip)) :=
  LoopsOk.of (l := [(0, lb Go.Proofs.Try.f70 0)]) (by kernel_rfl) (.cons (L := ⟨[(0, .ro none (.slice .bool)), (1, .ro none .bool), (7, .ro none (.num .i64)), (8, .ro none (.num .i64))], r_slices_Index_bool_L0 N⟩) (by kernel_rfl) (by intro s kc ke env; kernel_rfl) .nil)
theorem There70 : There Go.Proofs.Try.prog 70 := ⟨_, Go.Proofs.Try.func70, by kernel_rfl, by kernel_rfl⟩
theorem C70 {A : Option (Nat × Obj)} {f : ((List Bool) × Bool × Unit → Option Int)} (h : ∀ a0 a1 r, f (a0, a1, ()) = some r → ∃ N, r_slices_Index_bool N a0 a1 = some r) : ContractA Go.Proofs.Try.prog A 70 ⟨[(.slice .bool), .bool], int, f⟩ := by
  refine contract (E := (E70 A)) (envOf table trivial trivial trivial) mixed Go.Proofs.Try.func70 (c := Go.Proofs.Try.f70.body.getD .skip) (by kernel_rfl) (Nat.le_of_ble_eq_true (by kernel_rfl)) fun xs r hr => ?_
  obtain ⟨a0, a1, _⟩ := xs
  obtain ⟨N, hN⟩ := h _ _ r hr
  exact ⟨N, A70 N, L70 A N, (K70 A N a0 a1).trans hN⟩
theorem X70 {A : Option (Nat × Obj)} : ContractA Go.Proofs.Try.prog A 70 ⟨[(.slice .bool), .bool], int, e_slices_Index_bool⟩ := C70 fun _ _ _ h => ⟨N0, h⟩
-- slices_Contains_bool
def E49 (c_slices_Index_bool : ((List Bool) × Bool × Unit → Option Int)) (A : Option (Nat × Obj)) : Env := ⟨tys, [], [(70, ⟨[(.slice .bool), .bool], int, c_slices_Index_bool⟩)], [], [], A, []⟩
def A49 (_c_slices_Index_bool : ((List Bool) × Bool × Unit → Option Int)) (_N : Nat) : List (Nat × Loop (Ty.den .bool)) := []
theorem K49 (c_slices_Index_bool : ((List Bool) × Bool × Unit → Option Int)) (A : Option (Nat × Obj)) (N : Nat) (a0 : (List Bool)) (a1 : Bool) : fnK N (E49 c_slices_Index_bool A) Go.Proofs.Try.f49 [(.slice .bool), .bool] .bool (A49 c_slices_Index_bool N) (a0, a1, ()) = r_slices_Contains_bool c_slices_Index_bool N a0 a1 := by kernel_rfl
theorem L49 (c_slices_Index_bool : ((List Bool) × Bool × Unit → Option Int)) (A : Option (Nat × Obj)) (N : Nat) : LoopsOk N (E49 c_slices_Index_bool A) (A49 c_slices_Index_bool N) Go.Proofs.Try.f49.ntmps (retOf (E49 c_slices_Index_bool A) Go.Proofs.Try.f49 .bool) (loopsOf (Go.Proofs.Try.f49.body.getD .skip)) :=
  LoopsOk.of (l := []) (by kernel_rfl) .nil
theorem There49 : There Go.Proofs.Try.prog 49 := ⟨_, Go.Proofs.Try.func49, by kernel_rfl, by kernel_rfl⟩
theorem C49 {A : Option (Nat × Obj)} {c_slices_Index_bool : ((List Bool) × Bool × Unit → Option Int)} (h_c_slices_Index_bool : ContractA Go.Proofs.Try.prog A 70 ⟨[(.slice .bool), .bool], int, c_slices_Index_bool⟩) {f : ((List Bool) × Bool × Unit → Option Bool)} (h : ∀ a0 a1 r, f (a0, a1, ()) = some r → ∃ N, r_slices_Contains_bool c_slices_Index_bool N a0 a1 = some r) : ContractA Go.Proofs.Try.prog A 49 ⟨[(.slice .bool), .bool], .bool, f⟩ := by
  refine contract (E := (E49 c_slices_Index_bool A)) (envOf table ⟨⟨h_c_slices_Index_bool, There70⟩, trivial⟩ trivial trivial) mixed Go.Proofs.Try.func49 (c := Go.Proofs.Try.f49.body.getD .skip) (by kernel_rfl) (Nat.le_of_ble_eq_true (by kernel_rfl)) fun xs r hr => ?_
  obtain ⟨a0, a1, _⟩ := xs
  obtain ⟨N, hN⟩ := h _ _ r hr
  exact ⟨N, A49 c_slices_Index_bool N, L49 c_slices_Index_bool A N, (K49 c_slices_Index_bool A N a0 a1).trans hN⟩
theorem X49 {A : Option (Nat × Obj)} : ContractA Go.Proofs.Try.prog A 49 ⟨[(.slice .bool), .bool], .bool, e_slices_Contains_bool⟩ := C49 X70 fun _ _ _ h => ⟨N0, h⟩
-- cmp_isNaN_int
def E77 (A : Option (Nat × Obj)) : Env := ⟨tys, [], [], [], [], A, []⟩
def A77 (_N : Nat) : List (Nat × Loop (Ty.den .bool)) := []
theorem K77 (A : Option (Nat × Obj)) (N : Nat) (a0 : Int) : fnK N (E77 A) Go.Proofs.Try.f77 [int] .bool (A77 N) (a0, ()) = r_cmp_isNaN_int N a0 := by kernel_rfl
theorem L77 (A : Option (Nat × Obj)) (N : Nat) : LoopsOk N (E77 A) (A77 N) Go.Proofs.Try.f77.ntmps (retOf (E77 A) Go.Proofs.Try.f77 .bool) (loopsOf (Go.Proofs.Try.f77.body.getD .skip)) :=
  LoopsOk.of (l := []) (by kernel_rfl) .nil
theorem There77 : There Go.Proofs.Try.prog 77 := ⟨_, Go.Proofs.Try.func77, by kernel_rfl, by kernel_rfl⟩
theorem C77 {A : Option (Nat × Obj)} {f : (Int × Unit → Option Bool)} (h : ∀ a0 r, f (a0, ()) = some r → ∃ N, r_cmp_isNaN_int N a0 = some r) : ContractA Go.Proofs.Try.prog A 77 ⟨[int], .bool, f⟩ := by
  refine contract (E := (E77 A)) (envOf table trivial trivial trivial) mixed Go.Proofs.Try.func77 (c := Go.Proofs.Try.f77.body.getD .skip) (by kernel_rfl) (Nat.le_of_ble_eq_true (by kernel_rfl)) fun xs r hr => ?_
  obtain ⟨a0, _⟩ := xs
  obtain ⟨N, hN⟩ := h _ r hr
  exact ⟨N, A77 N, L77 A N, (K77 A N a0).trans hN⟩
theorem X77 {A : Option (Nat × Obj)} : ContractA Go.Proofs.Try.prog A 77 ⟨[int], .bool, e_cmp_isNaN_int⟩ := C77 fun _ _ h => ⟨N0, h⟩
-- cmp_Compare_int
def E69 (c_cmp_isNaN_int : (Int × Unit → Option Bool)) (A : Option (Nat × Obj)) : Env := ⟨tys, [], [(77, ⟨[int], .bool, c_cmp_isNaN_int⟩)], [], [], A, []⟩
def A69 (_c_cmp_isNaN_int : (Int × Unit → Option Bool)) (_N : Nat) : List (Nat × Loop (Ty.den int)) := []
theorem K69 (c_cmp_isNaN_int : (Int × Unit → Option Bool)) (A : Option (Nat × Obj)) (N : Nat) (a0 : Int) (a1 : Int) : fnK N (E69 c_cmp_isNaN_int A) Go.Proofs.Try.f69 [int, int] int (A69 c_cmp_isNaN_int N) (a0, a1, ()) = r_cmp_Compare_int c_cmp_isNaN_int N a0 a1 := by kernel_rfl
theorem L69 (c_cmp_isNaN_int : (Int × Unit → Option Bool)) (A : Option (Nat × Obj)) (N : Nat) : LoopsOk N (E69 c_cmp_isNaN_int A) (A69 c_cmp_isNaN_int N) Go.Proofs.Try.f69.ntmps (retOf (E69 c_cmp_isNaN_int A) Go.Proofs.Try.f69 int) (loopsOf (Go.Proofs.Try.f69.body.getD .skip)) :=
  LoopsOk.of (l := []) (by kernel_rfl) .nil
theorem There69 : There Go.Proofs.Try.prog 69 := ⟨_, Go.Proofs.Try.func69, by kernel_rfl, by kernel_rfl⟩
theorem C69 {A : Option (Nat × Obj)} {c_cmp_isNaN_int : (Int × Unit → Option Bool)} (h_c_cmp_isNaN_int : ContractA Go.Proofs.Try.prog A 77 ⟨[int], .bool, c_cmp_isNaN_int⟩) {f : (Int × Int × Unit → Option Int)} (h : ∀ a0 a1 r, f (a0, a1, ()) = some r → ∃ N, r_cmp_Compare_int c_cmp_isNaN_int N a0 a1 = some r) : ContractA Go.Proofs.Try.prog A 69 ⟨[int, int], int, f⟩ := by
  refine contract (E := (E69 c_cmp_isNaN_int A)) (envOf table ⟨⟨h_c_cmp_isNaN_int, There77⟩, trivial⟩ trivial trivial) mixed Go.Proofs.Try.func69 (c := Go.Proofs.Try.f69.body.getD .skip) (by kernel_rfl) (Nat.le_of_ble_eq_true (by kernel_rfl)) fun xs r hr => ?_
  obtain ⟨a0, a1, _⟩ := xs
  obtain ⟨N, hN⟩ := h _ _ r hr
  exact ⟨N, A69 c_cmp_isNaN_int N, L69 c_cmp_isNaN_int A N, (K69 c_cmp_isNaN_int A N a0 a1).trans hN⟩
theorem X69 {A : Option (Nat × Obj)} : ContractA Go.Proofs.Try.prog A 69 ⟨[int, int], int, e_cmp_Compare_int⟩ := C69 X77 fun _ _ _ h => ⟨N0, h⟩
-- cmp_Or_int
def E68 (A : Option (Nat × Obj)) : Env := ⟨tys, [], [], [], [], A, []⟩
def A68 (N : Nat) : List (Nat × Loop (Ty.den int)) := [(0, ⟨[(3, .ro none (.num .i64)), (6, .ro none (.slice (.num .i64))), (7, .ro none (.num .i64)), (8, .ro none (.num .i64))], r_cmp_Or_int_L0 N⟩)]
theorem K68 (A : Option (Nat × Obj)) (N : Nat) (a0 : (List Int)) : fnK N (E68 A) Go.Proofs.Try.f68 [(.slice int)] int (A68 N) (a0, ()) = r_cmp_Or_int N a0 := by kernel_rfl
theorem L68 (A : Option (Nat × Obj)) (N : Nat) : LoopsOk N (E68 A) (A68 N) Go.Proofs.Try.f68.ntmps (retOf (E68 A) Go.Proofs.Try.f68 int) (loopsOf (Go.Proofs.Try.f68.body.getD .skip)) :=
  LoopsOk.of (l := [(0, lb Go.Proofs.Try.f68 0)]) (by kernel_rfl) (.cons (L := ⟨[(3, .ro none (.num .i64)), (6, .ro none (.slice (.num .i64))), (7, .ro none (.num .i64)), (8, .ro none (.num .i64))], r_cmp_Or_int_L0 N⟩) (by kernel_rfl) (by intro s kc ke env; kernel_rfl) .nil)
theorem There68 : There Go.Proofs.Try.prog 68 := ⟨_, Go.Proofs.Try.func68, by kernel_rfl, by kernel_rfl⟩
theorem C68 {A : Option (Nat × Obj)} {f : ((List Int) × Unit → Option Int)} (h : ∀ a0 r, f (a0, ()) = some r → ∃ N, r_cmp_Or_int N a0 = some r) : ContractA Go.Proofs.Try.prog A 68 ⟨[(.slice int)], int, f⟩ := by
  refine contract (E := (E68 A)) (envOf table trivial trivial trivial) mixed Go.Proofs.Try.func68 (c := Go.Proofs.Try.f68.body.getD .skip) (by kernel_rfl) (Nat.le_of_ble_eq_true (by kernel_rfl)) fun xs r hr => ?_
  obtain ⟨a0, _⟩ := xs
  obtain ⟨N, hN⟩ := h _ r hr
  exact ⟨N, A68 N, L68 A N, (K68 A N a0).trans hN⟩
theorem X68 {A : Option (Nat × Obj)} : ContractA Go.Proofs.Try.prog A 68 ⟨[(.slice int)], int, e_cmp_Or_int⟩ := C68 fun _ _ h => ⟨N0, h⟩
-- impl_byEnds
def E48 (c_cmp_Compare_int : (Int × Int × Unit → Option Int)) (c_cmp_Or_int : ((List Int) × Unit → Option Int)) (A : Option (Nat × Obj)) : Env := ⟨tys, [], [(69, ⟨[int, int], int, c_cmp_Compare_int⟩), (68, ⟨[(.slice int)], int, c_cmp_Or_int⟩)], [], [], A, []⟩
def A48 (_c_cmp_Compare_int : (Int × Int × Unit → Option Int)) (_c_cmp_Or_int : ((List Int) × Unit → Option Int)) (_N : Nat) : List (Nat × Loop (Ty.den int)) := []
theorem K48 (c_cmp_Compare_int : (Int × Int × Unit → Option Int)) (c_cmp_Or_int : ((List Int) × Unit → Option Int)) (A : Option (Nat × Obj)) (N : Nat) (a0 : (Int × Int × Int)) (a1 : (Int × Int × Int)) : fnK N (E48 c_cmp_Compare_int c_cmp_Or_int A) Go.Proofs.Try.f48 [wire, wire] int (A48 c_cmp_Compare_int c_cmp_Or_int N) (a0, a1, ()) = r_impl_byEnds c_cmp_Compare_int c_cmp_Or_int N a0 a1 := by kernel_rfl
theorem L48 (c_cmp_Compare_int : (Int × Int × Unit → Option Int)) (c_cmp_Or_int : ((List Int) × Unit → Option Int)) (A : Option (Nat × Obj)) (N : Nat) : LoopsOk N (E48 c_cmp_Compare_int c_cmp_Or_int A) (A48 c_cmp_Compare_int c_cmp_Or_int N) Go.Proofs.Try.f48.ntmps (retOf (E48 c_cmp_Compare_int c_cmp_Or_int A) Go.Proofs.Try.f48 int) (loopsOf (Go.Proofs.Try.f48.body.getD .skip)) :=
  LoopsOk.of (l := []) (by kernel_rfl) .nil
theorem There48 : There Go.Proofs.Try.prog 48 := ⟨_, Go.Proofs.Try.func48, by kernel_rfl, by kernel_rfl⟩
theorem C48 {A : Option (Nat × Obj)} {c_cmp_Compare_int : (Int × Int × Unit → Option Int)} {c_cmp_Or_int : ((List Int) × Unit → Option Int)} (h_c_cmp_Compare_int : ContractA Go.Proofs.Try.prog A 69 ⟨[int, int], int, c_cmp_Compare_int⟩) (h_c_cmp_Or_int : ContractA Go.Proofs.Try.prog A 68 ⟨[(.slice int)], int, c_cmp_Or_int⟩) {f : ((Int × Int × Int) × (Int × Int × Int) × Unit → Option Int)} (h : ∀ a0 a1 r, f (a0, a1, ()) = some r → ∃ N, r_impl_byEnds c_cmp_Compare_int c_cmp_Or_int N a0 a1 = some r) : ContractA Go.Proofs.Try.prog A 48 ⟨[wire, wire], int, f⟩ := by
  refine contract (E := (E48 c_cmp_Compare_int c_cmp_Or_int A)) (envOf table ⟨⟨h_c_cmp_Compare_int, There69⟩, ⟨⟨h_c_cmp_Or_int, There68⟩, trivial⟩⟩ trivial trivial) mixed Go.Proofs.Try.func48 (c := Go.Proofs.Try.f48.body.getD .skip) (by kernel_rfl) (Nat.le_of_ble_eq_true (by kernel_rfl)) fun xs r hr => ?_
  obtain ⟨a0, a1, _⟩ := xs
  obtain ⟨N, hN⟩ := h _ _ r hr
  exact ⟨N, A48 c_cmp_Compare_int c_cmp_Or_int N, L48 c_cmp_Compare_int c_cmp_Or_int A N, (K48 c_cmp_Compare_int c_cmp_Or_int A N a0 a1).trans hN⟩
theorem X48 {A : Option (Nat × Obj)} : ContractA Go.Proofs.Try.prog A 48 ⟨[wire, wire], int, e_impl_byEnds⟩ := C48 X69 X68 fun _ _ _ h => ⟨N0, h⟩
-- impl_NetOk
def E27 (c_slices_Contains_bool : ((List Bool) × Bool × Unit → Option Bool)) (c_impl_byEnds : ((Int × Int × Int) × (Int × Int × Int) × Unit → Option Int)) (A : Option (Nat × Obj)) : Env := ⟨tys, [], [(49, ⟨[(.slice .bool), .bool], .bool, c_slices_Contains_bool⟩), (48, ⟨[wire, wire], int, c_impl_byEnds⟩)], [], [], A, []⟩
def A27 (c_slices_Contains_bool : ((List Bool) × Bool × Unit → Option Bool)) (c_impl_byEnds : ((Int × Int × Int) × (Int × Int × Int) × Unit → Option Int)) (N : Nat) : List (Nat × Loop (Ty.den .bool)) := [(0, ⟨[(1, .box false (.pair (.num .i64) (.pair (.num .i64) (.pair (.num .i64) (.slice (.pair (.num .i64) (.pair (.num .i64) (.num .i64)))))))), (39, .ro none (.slice (.pair (.num .i64) (.pair (.num .i64) (.num .i64))))), (40, .ro none (.num .i64)), (41, .ro none (.num .i64))], r_impl_NetOk_L0 c_slices_Contains_bool c_impl_byEnds N⟩), (2, ⟨[(1, .box false (.pair (.num .i64) (.pair (.num .i64) (.pair (.num .i64) (.slice (.pair (.num .i64) (.pair (.num .i64) (.num .i64)))))))), (5, .own (.slice .bool)), (95, .ro none (.num .i64)), (96, .ro none (.num .i64))], r_impl_NetOk_L2 c_slices_Contains_bool c_impl_byEnds N⟩), (4, ⟨[(1, .box false (.pair (.num .i64) (.pair (.num .i64) (.pair (.num .i64) (.slice (.pair (.num .i64) (.pair (.num .i64) (.num .i64)))))))), (5, .own (.slice .bool)), (95, .ro none (.num .i64)), (96, .ro none (.num .i64)), (99, .ro none (.slice (.pair (.num .i64) (.pair (.num .i64) (.num .i64))))), (100, .ro none (.num .i64)), (101, .ro none (.num .i64))], r_impl_NetOk_L4 c_slices_Contains_bool c_impl_byEnds N⟩)]
theorem K27 (c_slices_Contains_bool : ((List Bool) × Bool × Unit → Option Bool)) (c_impl_byEnds : ((Int × Int × Int) × (Int × Int × Int) × Unit → Option Int)) (A : Option (Nat × Obj)) (N : Nat) (a0 : (Int × Int × Int × List (Int × Int × Int))) : fnK N (E27 c_slices_Contains_bool c_impl_byEnds A) Go.Proofs.Try.f27 [net] .bool (A27 c_slices_Contains_bool c_impl_byEnds N) (a0, ()) = r_impl_NetOk c_slices_Contains_bool c_impl_byEnds N a0 := by kernel_rfl
theorem L27 (c_slices_Contains_bool : ((List Bool) × Bool × Unit → Option Bool)) (c_impl_byEnds : ((Int × Int × Int) × (Int × Int × Int) × Unit → Option Int)) (A : Option (Nat × Obj)) (N : Nat) : LoopsOk N (E27 c_slices_Contains_bool c_impl_byEnds A) (A27 c_slices_Contains_bool c_impl_byEnds N) Go.Proofs.Try.f27.ntmps (retOf (E27 c_slices_Contains_bool c_impl_byEnds A) Go.Proofs.Try.f27 .bool) (loopsOf (Go.Proofs.Try.f27.body.getD .skip)) :=
  LoopsOk.of (l := [(0, lb Go.Proofs.Try.f27 0), (2, lb Go.Proofs.Try.f27 1), (4, lb Go.Proofs.Try.f27 2)]) (by kernel_rfl) (.cons (L := ⟨[(1, .box false (.pair (.num .i64) (.pair (.num .i64) (.pair (.num .i64) (.slice (.pair (.num .i64) (.pair (.num .i64) (.num .i64)))))))), (39, .ro none (.slice (.pair (.num .i64) (.pair (.num .i64) (.num .i64))))), (40, .ro none (.num .i64)), (41, .ro none (.num .i64))], r_impl_NetOk_L0 c_slices_Contains_bool c_impl_byEnds N⟩) (by kernel_rfl) (by intro s kc ke env; kernel_rfl) (.cons (L := ⟨[(1, .box false (.pair (.num .i64) (.pair (.num .i64) (.pair (.num .i64) (.slice (.pair (.num .i64) (.pair (.num .i64) (.num .i64)))))))), (5, .own (.slice .bool)), (95, .ro none (.num .i64)), (96, .ro none (.num .i64))], r_impl_NetOk_L2 c_slices_Contains_bool c_impl_byEnds N⟩) (by kernel_rfl) (by intro s kc ke env; kernel_rfl) (.cons (L := ⟨[(1, .box false (.pair (.num .i64) (.pair (.num .i64) (.pair (.num .i64) (.slice (.pair (.num .i64) (.pair (.num .i64) (.num .i64)))))))), (5, .own (.slice .bool)), (95, .ro none (.num .i64)), (96, .ro none (.num .i64)), (99, .ro none (.slice (.pair (.num .i64) (.pair (.num .i64) (.num .i64))))), (100, .ro none (.num .i64)), (101, .ro none (.num .i64))], r_impl_NetOk_L4 c_slices_Contains_bool c_impl_byEnds N⟩) (by kernel_rfl) (by intro s kc ke env; kernel_rfl) .nil)))
theorem There27 : There Go.Proofs.Try.prog 27 := ⟨_, Go.Proofs.Try.func27, by kernel_rfl, by kernel_rfl⟩
theorem C27 {A : Option (Nat × Obj)} {c_slices_Contains_bool : ((List Bool) × Bool × Unit → Option Bool)} {c_impl_byEnds : ((Int × Int × Int) × (Int × Int × Int) × Unit → Option Int)} (h_c_slices_Contains_bool : ContractA Go.Proofs.Try.prog A 49 ⟨[(.slice .bool), .bool], .bool, c_slices_Contains_bool⟩) (h_c_impl_byEnds : ContractA Go.Proofs.Try.prog A 48 ⟨[wire, wire], int, c_impl_byEnds⟩) {f : ((Int × Int × Int × List (Int × Int × Int)) × Unit → Option Bool)} (h : ∀ a0 r, f (a0, ()) = some r → ∃ N, r_impl_NetOk c_slices_Contains_bool c_impl_byEnds N a0 = some r) : ContractA Go.Proofs.Try.prog A 27 ⟨[net], .bool, f⟩ := by
  refine contract (E := (E27 c_slices_Contains_bool c_impl_byEnds A)) (envOf table ⟨⟨h_c_slices_Contains_bool, There49⟩, ⟨⟨h_c_impl_byEnds, There48⟩, trivial⟩⟩ trivial trivial) mixed Go.Proofs.Try.func27 (c := Go.Proofs.Try.f27.body.getD .skip) (by kernel_rfl) (Nat.le_of_ble_eq_true (by kernel_rfl)) fun xs r hr => ?_
  obtain ⟨a0, _⟩ := xs
  obtain ⟨N, hN⟩ := h _ r hr
  exact ⟨N, A27 c_slices_Contains_bool c_impl_byEnds N, L27 c_slices_Contains_bool c_impl_byEnds A N, (K27 c_slices_Contains_bool c_impl_byEnds A N a0).trans hN⟩
theorem X27 {A : Option (Nat × Obj)} : ContractA Go.Proofs.Try.prog A 27 ⟨[net], .bool, e_impl_NetOk⟩ := C27 X49 X48 fun _ _ h => ⟨N0, h⟩
-- impl_isWire
def E40 (A : Option (Nat × Obj)) : Env := ⟨tys, [], [], [], [], A, []⟩
def A40 (_N : Nat) : List (Nat × Loop (Ty.den .bool)) := []
theorem K40 (A : Option (Nat × Obj)) (N : Nat) (a0 : (Int × Int × Int × List (Int × Int × Int))) (a1 : Int) : fnK N (E40 A) Go.Proofs.Try.f40 [net, int] .bool (A40 N) (a0, a1, ()) = r_impl_isWire N a0 a1 := by kernel_rfl
theorem L40 (A : Option (Nat × Obj)) (N : Nat) : LoopsOk N (E40 A) (A40 N) Go.Proofs.Try.f40.ntmps (retOf (E40 A) Go.Proofs.Try.f40 .bool) (loopsOf (Go.Proofs.Try.f40.body.getD .skip)) :=
  LoopsOk.of (l := []) (by kernel_rfl) .nil
theorem There40 : There Go.Proofs.Try.prog 40 := ⟨_, Go.Proofs.Try.func40, by kernel_rfl, by kernel_rfl⟩
theorem C40 {A : Option (Nat × Obj)} {f : ((Int × Int × Int × List (Int × Int × Int)) × Int × Unit → Option Bool)} (h : ∀ a0 a1 r, f (a0, a1, ()) = some r → ∃ N, r_impl_isWire N a0 a1 = some r) : ContractA Go.Proofs.Try.prog A 40 ⟨[net, int], .bool, f⟩ := by
  refine contract (E := (E40 A)) (envOf table trivial trivial trivial) mixed Go.Proofs.Try.func40 (c := Go.Proofs.Try.f40.body.getD .skip) (by kernel_rfl) (Nat.le_of_ble_eq_true (by kernel_rfl)) fun xs r hr => ?_
  obtain ⟨a0, a1, _⟩ := xs
  obtain ⟨N, hN⟩ := h _ _ r hr
  exact ⟨N, A40 N, L40 A N, (K40 A N a0 a1).trans hN⟩
theorem X40 {A : Option (Nat × Obj)} : ContractA Go.Proofs.Try.prog A 40 ⟨[net, int], .bool, e_impl_isWire⟩ := C40 fun _ _ _ h => ⟨N0, h⟩
-- impl_WeightBetween
def E72 (A : Option (Nat × Obj)) : Env := ⟨tys, [], [], [], [], A, []⟩
def A72 (N : Nat) : List (Nat × Loop (Ty.den int)) := [(0, ⟨[(1, .ro none (.num .i64)), (2, .ro none (.num .i64)), (10, .ro none (.slice (.pair (.num .i64) (.pair (.num .i64) (.num .i64))))), (11, .ro none (.num .i64)), (12, .ro none (.num .i64))], r_impl_WeightBetween_L0 N⟩)]
theorem K72 (A : Option (Nat × Obj)) (N : Nat) (a0 : (Int × Int × Int × List (Int × Int × Int))) (a1 : Int) (a2 : Int) : fnK N (E72 A) Go.Proofs.Try.f72 [net, int, int] int (A72 N) (a0, a1, a2, ()) = r_impl_WeightBetween N a0 a1 a2 := by kernel_rfl
theorem L72 (A : Option (Nat × Obj)) (N : Nat) : LoopsOk N (E72 A) (A72 N) Go.Proofs.Try.f72.ntmps (retOf (E72 A) Go.Proofs.Try.f72 int) (loopsOf (Go.Proofs.Try.f72.body.getD .skip)) :=
  LoopsOk.of (l := [(0, lb Go.Proofs.Try.f72 0)]) (by kernel_rfl) (.cons (L := ⟨[(1, .ro none (.num .i64)), (2, .ro none (.num .i64)), (10, .ro none (.slice (.pair (.num .i64) (.pair (.num .i64) (.num .i64))))), (11, .ro none (.num .i64)), (12, .ro none (.num .i64))], r_impl_WeightBetween_L0 N⟩) (by kernel_rfl) (by intro s kc ke env; kernel_rfl) .nil)
theorem There72 : There Go.Proofs.Try.prog 72 := ⟨_, Go.Proofs.Try.func72, by kernel_rfl, by kernel_rfl⟩
theorem C72 {A : Option (Nat × Obj)} {f : ((Int × Int × Int × List (Int × Int × Int)) × Int × Int × Unit → Option Int)} (h : ∀ a0 a1 a2 r, f (a0, a1, a2, ()) = some r → ∃ N, r_impl_WeightBetween N a0 a1 a2 = some r) : ContractA Go.Proofs.Try.prog A 72 ⟨[net, int, int], int, f⟩ := by
  refine contract (E := (E72 A)) (envOf table trivial trivial trivial) mixed Go.Proofs.Try.func72 (c := Go.Proofs.Try.f72.body.getD .skip) (by kernel_rfl) (Nat.le_of_ble_eq_true (by kernel_rfl)) fun xs r hr => ?_
  obtain ⟨a0, a1, a2, _⟩ := xs
  obtain ⟨N, hN⟩ := h _ _ _ r hr
  exact ⟨N, A72 N, L72 A N, (K72 A N a0 a1 a2).trans hN⟩
theorem X72 {A : Option (Nat × Obj)} : ContractA Go.Proofs.Try.prog A 72 ⟨[net, int, int], int, e_impl_WeightBetween⟩ := C72 fun _ _ _ _ h => ⟨N0, h⟩
-- impl_table
def E57 (c_impl_WeightBetween : ((Int × Int × Int × List (Int × Int × Int)) × Int × Int × Unit → Option Int)) (A : Option (Nat × Obj)) : Env := ⟨tys, [], [(72, ⟨[net, int, int], int, c_impl_WeightBetween⟩)], [], [], A, []⟩
def A57 (c_impl_WeightBetween : ((Int × Int × Int × List (Int × Int × Int)) × Int × Int × Unit → Option Int)) (N : Nat) : List (Nat × Loop (Ty.den (.slice (.slice int)))) := [(0, ⟨[(1, .box false (.pair (.num .i64) (.pair (.num .i64) (.pair (.num .i64) (.slice (.pair (.num .i64) (.pair (.num .i64) (.num .i64)))))))), (3, .own (.slice (.slice (.num .i64)))), (10, .ro none (.num .i64)), (11, .ro none (.num .i64))], r_impl_table_L0 c_impl_WeightBetween N⟩), (2, ⟨[(1, .box false (.pair (.num .i64) (.pair (.num .i64) (.pair (.num .i64) (.slice (.pair (.num .i64) (.pair (.num .i64) (.num .i64)))))))), (3, .own (.slice (.slice (.num .i64)))), (4, .ro none (.num .i64)), (10, .ro none (.num .i64)), (11, .ro none (.num .i64)), (24, .ro none (.num .i64)), (25, .ro none (.num .i64))], r_impl_table_L2 c_impl_WeightBetween N⟩)]
theorem K57 (c_impl_WeightBetween : ((Int × Int × Int × List (Int × Int × Int)) × Int × Int × Unit → Option Int)) (A : Option (Nat × Obj)) (N : Nat) (a0 : (Int × Int × Int × List (Int × Int × Int))) : fnK N (E57 c_impl_WeightBetween A) Go.Proofs.Try.f57 [net] (.slice (.slice int)) (A57 c_impl_WeightBetween N) (a0, ()) = r_impl_table c_impl_WeightBetween N a0 := by kernel_rfl
theorem L57 (c_impl_WeightBetween : ((Int × Int × Int × List (Int × Int × Int)) × Int × Int × Unit → Option Int)) (A : Option (Nat × Obj)) (N : Nat) : LoopsOk N (E57 c_impl_WeightBetween A) (A57 c_impl_WeightBetween N) Go.Proofs.Try.f57.ntmps (retOf (E57 c_impl_WeightBetween A) Go.Proofs.Try.f57 (.slice (.slice int))) (loopsOf (Go.Proofs.Try.f57.body.getD .skip)) :=
  LoopsOk.of (l := [(0, lb Go.Proofs.Try.f57 0), (2, lb Go.Proofs.Try.f57 1)]) (by kernel_rfl) (.cons (L := ⟨[(1, .box false (.pair (.num .i64) (.pair (.num .i64) (.pair (.num .i64) (.slice (.pair (.num .i64) (.pair (.num .i64) (.num .i64)))))))), (3, .own (.slice (.slice (.num .i64)))), (10, .ro none (.num .i64)), (11, .ro none (.num .i64))], r_impl_table_L0 c_impl_WeightBetween N⟩) (by kernel_rfl) (by intro s kc ke env; kernel_rfl) (.cons (L := ⟨[(1, .box false (.pair (.num .i64) (.pair (.num .i64) (.pair (.num .i64) (.slice (.pair (.num .i64) (.pair (.num .i64) (.num .i64)))))))), (3, .own (.slice (.slice (.num .i64)))), (4, .ro none (.num .i64)), (10, .ro none (.num .i64)), (11, .ro none (.num .i64)), (24, .ro none (.num .i64)), (25, .ro none (.num .i64))], r_impl_table_L2 c_impl_WeightBetween N⟩) (by kernel_rfl) (by intro s kc ke env; kernel_rfl) .nil))
theorem There57 : There Go.Proofs.Try.prog 57 := ⟨_, Go.Proofs.Try.func57, by kernel_rfl, by kernel_rfl⟩
theorem C57 {A : Option (Nat × Obj)} {c_impl_WeightBetween : ((Int × Int × Int × List (Int × Int × Int)) × Int × Int × Unit → Option Int)} (h_c_impl_WeightBetween : ContractA Go.Proofs.Try.prog A 72 ⟨[net, int, int], int, c_impl_WeightBetween⟩) {f : ((Int × Int × Int × List (Int × Int × Int)) × Unit → Option (List (List Int)))} (h : ∀ a0 r, f (a0, ()) = some r → ∃ N, r_impl_table c_impl_WeightBetween N a0 = some r) : ContractA Go.Proofs.Try.prog A 57 ⟨[net], (.slice (.slice int)), f⟩ := by
  refine contract (E := (E57 c_impl_WeightBetween A)) (envOf table ⟨⟨h_c_impl_WeightBetween, There72⟩, trivial⟩ trivial trivial) mixed Go.Proofs.Try.func57 (c := Go.Proofs.Try.f57.body.getD .skip) (by kernel_rfl) (Nat.le_of_ble_eq_true (by kernel_rfl)) fun xs r hr => ?_
  obtain ⟨a0, _⟩ := xs
  obtain ⟨N, hN⟩ := h _ r hr
  exact ⟨N, A57 c_impl_WeightBetween N, L57 c_impl_WeightBetween A N, (K57 c_impl_WeightBetween A N a0).trans hN⟩
theorem X57 {A : Option (Nat × Obj)} : ContractA Go.Proofs.Try.prog A 57 ⟨[net], (.slice (.slice int)), e_impl_table⟩ := C57 X72 fun _ _ h => ⟨N0, h⟩
-- impl_WeightAt
def E74 (A : Option (Nat × Obj)) : Env := ⟨tys, [], [], [], [], A, []⟩
def A74 (N : Nat) : List (Nat × Loop (Ty.den int)) := [(0, ⟨[(1, .ro none (.num .i64)), (5, .ro none (.num .i64)), (9, .ro none (.slice (.pair (.num .i64) (.pair (.num .i64) (.num .i64))))), (10, .ro none (.num .i64)), (11, .ro none (.num .i64))], r_impl_WeightAt_L0 N⟩)]
theorem K74 (A : Option (Nat × Obj)) (N : Nat) (a0 : (Int × Int × Int × List (Int × Int × Int))) (a1 : Int) : fnK N (E74 A) Go.Proofs.Try.f74 [net, int] int (A74 N) (a0, a1, ()) = r_impl_WeightAt N a0 a1 := by kernel_rfl
theorem L74 (A : Option (Nat × Obj)) (N : Nat) : LoopsOk N (E74 A) (A74 N) Go.Proofs.Try.f74.ntmps (retOf (E74 A) Go.Proofs.Try.f74 int) (loopsOf (Go.Proofs.Try.f74.body.getD .skip)) :=
  LoopsOk.of (l := [(0, lb Go.Proofs.Try.f74 0)]) (by kernel_rfl) (.cons (L := ⟨[(1, .ro none (.num .i64)), (5, .ro none (.num .i64)), (9, .ro none (.slice (.pair (.num .i64) (.pair (.num .i64) (.num .i64))))), (10, .ro none (.num .i64)), (11, .ro none (.num .i64))], r_impl_WeightAt_L0 N⟩) (by kernel_rfl) (by intro s kc ke env; kernel_rfl) .nil)
theorem There74 : There Go.Proofs.Try.prog 74 := ⟨_, Go.Proofs.Try.func74, by kernel_rfl, by kernel_rfl⟩
theorem C74 {A : Option (Nat × Obj)} {f : ((Int × Int × Int × List (Int × Int × Int)) × Int × Unit → Option Int)} (h : ∀ a0 a1 r, f (a0, a1, ()) = some r → ∃ N, r_impl_WeightAt N a0 a1 = some r) : ContractA Go.Proofs.Try.prog A 74 ⟨[net, int], int, f⟩ := by
  refine contract (E := (E74 A)) (envOf table trivial trivial trivial) mixed Go.Proofs.Try.func74 (c := Go.Proofs.Try.f74.body.getD .skip) (by kernel_rfl) (Nat.le_of_ble_eq_true (by kernel_rfl)) fun xs r hr => ?_
  obtain ⟨a0, a1, _⟩ := xs
  obtain ⟨N, hN⟩ := h _ _ r hr
  exact ⟨N, A74 N, L74 A N, (K74 A N a0 a1).trans hN⟩
theorem X74 {A : Option (Nat × Obj)} : ContractA Go.Proofs.Try.prog A 74 ⟨[net, int], int, e_impl_WeightAt⟩ := C74 fun _ _ _ h => ⟨N0, h⟩
-- impl_LaplacianOf
def E59 (c_impl_NetOk : ((Int × Int × Int × List (Int × Int × Int)) × Unit → Option Bool)) (c_impl_table : ((Int × Int × Int × List (Int × Int × Int)) × Unit → Option (List (List Int)))) (c_impl_WeightAt : ((Int × Int × Int × List (Int × Int × Int)) × Int × Unit → Option Int)) (A : Option (Nat × Obj)) : Env := ⟨tys, [], [(27, ⟨[net], .bool, c_impl_NetOk⟩), (57, ⟨[net], (.slice (.slice int)), c_impl_table⟩), (74, ⟨[net, int], int, c_impl_WeightAt⟩)], [], [], A, []⟩
def A59 (c_impl_NetOk : ((Int × Int × Int × List (Int × Int × Int)) × Unit → Option Bool)) (c_impl_table : ((Int × Int × Int × List (Int × Int × Int)) × Unit → Option (List (List Int)))) (c_impl_WeightAt : ((Int × Int × Int × List (Int × Int × Int)) × Int × Unit → Option Int)) (N : Nat) : List (Nat × Loop (Ty.den (.slice (.slice int)))) := [(0, ⟨[(1, .box false (.pair (.num .i64) (.pair (.num .i64) (.pair (.num .i64) (.slice (.pair (.num .i64) (.pair (.num .i64) (.num .i64)))))))), (3, .own (.slice (.slice (.num .i64)))), (12, .ro none (.num .i64)), (13, .ro none (.num .i64))], r_impl_LaplacianOf_L0 c_impl_NetOk c_impl_table c_impl_WeightAt N⟩), (2, ⟨[(1, .box false (.pair (.num .i64) (.pair (.num .i64) (.pair (.num .i64) (.slice (.pair (.num .i64) (.pair (.num .i64) (.num .i64)))))))), (3, .own (.slice (.slice (.num .i64)))), (4, .ro none (.num .i64)), (12, .ro none (.num .i64)), (13, .ro none (.num .i64)), (17, .ro none (.num .i64)), (18, .ro none (.num .i64))], r_impl_LaplacianOf_L2 c_impl_NetOk c_impl_table c_impl_WeightAt N⟩)]
theorem K59 (c_impl_NetOk : ((Int × Int × Int × List (Int × Int × Int)) × Unit → Option Bool)) (c_impl_table : ((Int × Int × Int × List (Int × Int × Int)) × Unit → Option (List (List Int)))) (c_impl_WeightAt : ((Int × Int × Int × List (Int × Int × Int)) × Int × Unit → Option Int)) (A : Option (Nat × Obj)) (N : Nat) (a0 : (Int × Int × Int × List (Int × Int × Int))) : fnK N (E59 c_impl_NetOk c_impl_table c_impl_WeightAt A) Go.Proofs.Try.f59 [net] (.slice (.slice int)) (A59 c_impl_NetOk c_impl_table c_impl_WeightAt N) (a0, ()) = r_impl_LaplacianOf c_impl_NetOk c_impl_table c_impl_WeightAt N a0 := by kernel_rfl
theorem L59 (c_impl_NetOk : ((Int × Int × Int × List (Int × Int × Int)) × Unit → Option Bool)) (c_impl_table : ((Int × Int × Int × List (Int × Int × Int)) × Unit → Option (List (List Int)))) (c_impl_WeightAt : ((Int × Int × Int × List (Int × Int × Int)) × Int × Unit → Option Int)) (A : Option (Nat × Obj)) (N : Nat) : LoopsOk N (E59 c_impl_NetOk c_impl_table c_impl_WeightAt A) (A59 c_impl_NetOk c_impl_table c_impl_WeightAt N) Go.Proofs.Try.f59.ntmps (retOf (E59 c_impl_NetOk c_impl_table c_impl_WeightAt A) Go.Proofs.Try.f59 (.slice (.slice int))) (loopsOf (Go.Proofs.Try.f59.body.getD .skip)) :=
  LoopsOk.of (l := [(0, lb Go.Proofs.Try.f59 0), (2, lb Go.Proofs.Try.f59 1)]) (by kernel_rfl) (.cons (L := ⟨[(1, .box false (.pair (.num .i64) (.pair (.num .i64) (.pair (.num .i64) (.slice (.pair (.num .i64) (.pair (.num .i64) (.num .i64)))))))), (3, .own (.slice (.slice (.num .i64)))), (12, .ro none (.num .i64)), (13, .ro none (.num .i64))], r_impl_LaplacianOf_L0 c_impl_NetOk c_impl_table c_impl_WeightAt N⟩) (by kernel_rfl) (by intro s kc ke env; kernel_rfl) (.cons (L := ⟨[(1, .box false (.pair (.num .i64) (.pair (.num .i64) (.pair (.num .i64) (.slice (.pair (.num .i64) (.pair (.num .i64) (.num .i64)))))))), (3, .own (.slice (.slice (.num .i64)))), (4, .ro none (.num .i64)), (12, .ro none (.num .i64)), (13, .ro none (.num .i64)), (17, .ro none (.num .i64)), (18, .ro none (.num .i64))], r_impl_LaplacianOf_L2 c_impl_NetOk c_impl_table c_impl_WeightAt N⟩) (by kernel_rfl) (by intro s kc ke env; kernel_rfl) .nil))
theorem There59 : There Go.Proofs.Try.prog 59 := ⟨_, Go.Proofs.Try.func59, by kernel_rfl, by kernel_rfl⟩
theorem C59 {A : Option (Nat × Obj)} {c_impl_NetOk : ((Int × Int × Int × List (Int × Int × Int)) × Unit → Option Bool)} {c_impl_table : ((Int × Int × Int × List (Int × Int × Int)) × Unit → Option (List (List Int)))} {c_impl_WeightAt : ((Int × Int × Int × List (Int × Int × Int)) × Int × Unit → Option Int)} (h_c_impl_NetOk : ContractA Go.Proofs.Try.prog A 27 ⟨[net], .bool, c_impl_NetOk⟩) (h_c_impl_table : ContractA Go.Proofs.Try.prog A 57 ⟨[net], (.slice (.slice int)), c_impl_table⟩) (h_c_impl_WeightAt : ContractA Go.Proofs.Try.prog A 74 ⟨[net, int], int, c_impl_WeightAt⟩) {f : ((Int × Int × Int × List (Int × Int × Int)) × Unit → Option (List (List Int)))} (h : ∀ a0 r, f (a0, ()) = some r → ∃ N, r_impl_LaplacianOf c_impl_NetOk c_impl_table c_impl_WeightAt N a0 = some r) : ContractA Go.Proofs.Try.prog A 59 ⟨[net], (.slice (.slice int)), f⟩ := by
  refine contract (E := (E59 c_impl_NetOk c_impl_table c_impl_WeightAt A)) (envOf table ⟨⟨h_c_impl_NetOk, There27⟩, ⟨⟨h_c_impl_table, There57⟩, ⟨⟨h_c_impl_WeightAt, There74⟩, trivial⟩⟩⟩ trivial trivial) mixed Go.Proofs.Try.func59 (c := Go.Proofs.Try.f59.body.getD .skip) (by kernel_rfl) (Nat.le_of_ble_eq_true (by kernel_rfl)) fun xs r hr => ?_
  obtain ⟨a0, _⟩ := xs
  obtain ⟨N, hN⟩ := h _ r hr
  exact ⟨N, A59 c_impl_NetOk c_impl_table c_impl_WeightAt N, L59 c_impl_NetOk c_impl_table c_impl_WeightAt A N, (K59 c_impl_NetOk c_impl_table c_impl_WeightAt A N a0).trans hN⟩
theorem X59 {A : Option (Nat × Obj)} : ContractA Go.Proofs.Try.prog A 59 ⟨[net], (.slice (.slice int)), e_impl_LaplacianOf⟩ := C59 X27 X57 X74 fun _ _ h => ⟨N0, h⟩
-- impl_inner
def E60 (A : Option (Nat × Obj)) : Env := ⟨tys, [], [], [], [], A, []⟩
def A60 (N : Nat) : List (Nat × Loop (Ty.den (.slice int))) := [(0, ⟨[(1, .box false (.pair (.num .i64) (.pair (.num .i64) (.pair (.num .i64) (.slice (.pair (.num .i64) (.pair (.num .i64) (.num .i64)))))))), (3, .own (.slice (.num .i64))), (4, .ro none (.num .i64))], r_impl_inner_L0 N⟩)]
theorem K60 (A : Option (Nat × Obj)) (N : Nat) (a0 : (Int × Int × Int × List (Int × Int × Int))) : fnK N (E60 A) Go.Proofs.Try.f60 [net] (.slice int) (A60 N) (a0, ()) = r_impl_inner N a0 := by kernel_rfl
theorem L60 (A : Option (Nat × Obj)) (N : Nat) : LoopsOk N (E60 A) (A60 N) Go.Proofs.Try.f60.ntmps (retOf (E60 A) Go.Proofs.Try.f60 (.slice int)) (loopsOf (Go.Proofs.Try.f60.body.getD .skip)) :=
  LoopsOk.of (l := [(0, lb Go.Proofs.Try.f60 0)]) (by kernel_rfl) (.cons (L := ⟨[(1, .box false (.pair (.num .i64) (.pair (.num .i64) (.pair (.num .i64) (.slice (.pair (.num .i64) (.pair (.num .i64) (.num .i64)))))))), (3, .own (.slice (.num .i64))), (4, .ro none (.num .i64))], r_impl_inner_L0 N⟩) (by kernel_rfl) (by intro s kc ke env; kernel_rfl) .nil)
theorem There60 : There Go.Proofs.Try.prog 60 := ⟨_, Go.Proofs.Try.func60, by kernel_rfl, by kernel_rfl⟩
theorem C60 {A : Option (Nat × Obj)} {f : ((Int × Int × Int × List (Int × Int × Int)) × Unit → Option (List Int))} (h : ∀ a0 r, f (a0, ()) = some r → ∃ N, r_impl_inner N a0 = some r) : ContractA Go.Proofs.Try.prog A 60 ⟨[net], (.slice int), f⟩ := by
  refine contract (E := (E60 A)) (envOf table trivial trivial trivial) mixed Go.Proofs.Try.func60 (c := Go.Proofs.Try.f60.body.getD .skip) (by kernel_rfl) (Nat.le_of_ble_eq_true (by kernel_rfl)) fun xs r hr => ?_
  obtain ⟨a0, _⟩ := xs
  obtain ⟨N, hN⟩ := h _ r hr
  exact ⟨N, A60 N, L60 A N, (K60 A N a0).trans hN⟩
theorem X60 {A : Option (Nat × Obj)} : ContractA Go.Proofs.Try.prog A 60 ⟨[net], (.slice int), e_impl_inner⟩ := C60 fun _ _ h => ⟨N0, h⟩
-- slices_Clone_int
def E76 (A : Option (Nat × Obj)) : Env := ⟨tys, [], [], [], [], A, []⟩
def A76 (_N : Nat) : List (Nat × Loop (Ty.den (.slice int))) := []
theorem K76 (A : Option (Nat × Obj)) (N : Nat) (a0 : (List Int)) : fnK N (E76 A) Go.Proofs.Try.f76 [(.slice int)] (.slice int) (A76 N) (a0, ()) = r_slices_Clone_int N a0 := by kernel_rfl
theorem L76 (A : Option (Nat × Obj)) (N : Nat) : LoopsOk N (E76 A) (A76 N) Go.Proofs.Try.f76.ntmps (retOf (E76 A) Go.Proofs.Try.f76 (.slice int)) (loopsOf (Go.Proofs.Try.f76.body.getD .skip)) :=
  LoopsOk.of (l := []) (by kernel_rfl) .nil
theorem There76 : There Go.Proofs.Try.prog 76 := ⟨_, Go.Proofs.Try.func76, by kernel_rfl, by kernel_rfl⟩
theorem C76 {A : Option (Nat × Obj)} {f : ((List Int) × Unit → Option (List Int))} (h : ∀ a0 r, f (a0, ()) = some r → ∃ N, r_slices_Clone_int N a0 = some r) : ContractA Go.Proofs.Try.prog A 76 ⟨[(.slice int)], (.slice int), f⟩ := by
  refine contract (E := (E76 A)) (envOf table trivial trivial trivial) mixed Go.Proofs.Try.func76 (c := Go.Proofs.Try.f76.body.getD .skip) (by kernel_rfl) (Nat.le_of_ble_eq_true (by kernel_rfl)) fun xs r hr => ?_
  obtain ⟨a0, _⟩ := xs
  obtain ⟨N, hN⟩ := h _ r hr
  exact ⟨N, A76 N, L76 A N, (K76 A N a0).trans hN⟩
theorem X76 {A : Option (Nat × Obj)} : ContractA Go.Proofs.Try.prog A 76 ⟨[(.slice int)], (.slice int), e_slices_Clone_int⟩ := C76 fun _ _ h => ⟨N0, h⟩
-- slices_Delete_int
theorem There75 : There Go.Proofs.Try.prog 75 := ⟨_, Go.Proofs.Try.func75, by kernel_rfl, by kernel_rfl⟩
end Go.Sx.S
namespace Go.Proofs
open Go.Shelf
def Try.laysDelete_ren : Go.Shelf.Ren := ⟨fun | 23 => 75 | n => n, fun | 22 => 26 | 3 => 3 | 4 => 4 | 0 => 0 | n => n, fun | n => n⟩
theorem Try.laysDelete : Go.Proofs.Lays2.n23 Try.prog Try.laysDelete_ren := {
  mixed := by kernel_rfl
  f23 := Try.func75.trans (congrArg some (by kernel_rfl))
  t0 := Try.underlying0
  a0 := Try.isAgg0
  z0 := Try.sizeOf0
  v0 := Try.zeroValue0
  t3 := Try.underlying3
  a3 := Try.isAgg3
  z3 := Try.sizeOf3
  v3 := Try.zeroValue3
  t4 := Try.underlying4
  a4 := Try.isAgg4
  z4 := Try.sizeOf4
  v4 := Try.zeroValue4
  t22 := Try.underlying26
  a22 := Try.isAgg26
  z22 := Try.sizeOf26
  v22 := Try.zeroValue26
  i3 := by kernel_rfl }
end Go.Proofs
namespace Go.Sx.S
open Go Go.Sx Go.Sx.R
theorem X75 : TakeC Go.Proofs.Try.prog 75 ⟨(.slice int), 0, [int, int], some (.slice int), e_slices_Delete_int⟩ :=
  takeC_delete (fun blk off cap i j zs w hH h1 h2 h3 h4 => Go.Proofs.Any.slices_Delete_int Go.Proofs.Try.laysDelete blk off cap i j zs w hH h1 h2 h3 h4) (fun a cap w => Go.Proofs.Any.slices_Delete_int_empty Go.Proofs.Try.laysDelete a cap w)

-- impl_det
def E61 (c_slices_Clone_int : ((List Int) × Unit → Option (List Int))) (m_slices_Delete_int : ((List Int) → (Int × Int × Unit) → Option ((List Int) × (List Int)))) (c_impl_det : ((List (List Int)) × (List Int) × (List Int) × Unit → Option Int)) (A : Option (Nat × Obj)) : Env := ⟨tys, [], [(76, ⟨[(.slice int)], (.slice int), c_slices_Clone_int⟩), (61, ⟨[(.slice (.slice int)), (.slice int), (.slice int)], int, c_impl_det⟩)], [(75, ⟨(.slice int), 0, [int, int], some (.slice int), m_slices_Delete_int⟩)], [], A, []⟩
def A61 (c_slices_Clone_int : ((List Int) × Unit → Option (List Int))) (m_slices_Delete_int : ((List Int) → (Int × Int × Unit) → Option ((List Int) × (List Int)))) (c_impl_det : ((List (List Int)) × (List Int) × (List Int) × Unit → Option Int)) (N : Nat) : List (Nat × Loop (Ty.den int)) := [(0, ⟨[(0, .ro none (.slice (.slice (.num .i64)))), (1, .ro none (.slice (.num .i64))), (2, .ro none (.slice (.num .i64))), (7, .ro none (.num .i64)), (8, .ro none (.num .i64)), (15, .ro none (.slice (.num .i64))), (16, .ro none (.num .i64)), (17, .ro none (.num .i64))], r_impl_det_L0 c_slices_Clone_int m_slices_Delete_int c_impl_det N⟩)]
theorem K61 (c_slices_Clone_int : ((List Int) × Unit → Option (List Int))) (m_slices_Delete_int : ((List Int) → (Int × Int × Unit) → Option ((List Int) × (List Int)))) (c_impl_det : ((List (List Int)) × (List Int) × (List Int) × Unit → Option Int)) (A : Option (Nat × Obj)) (N : Nat) (a0 : (List (List Int))) (a1 : (List Int)) (a2 : (List Int)) : fnK N (E61 c_slices_Clone_int m_slices_Delete_int c_impl_det A) Go.Proofs.Try.f61 [(.slice (.slice int)), (.slice int), (.slice int)] int (A61 c_slices_Clone_int m_slices_Delete_int c_impl_det N) (a0, a1, a2, ()) = r_impl_det c_slices_Clone_int m_slices_Delete_int c_impl_det N a0 a1 a2 := by kernel_rfl
theorem L61 (c_slices_Clone_int : ((List Int) × Unit → Option (List Int))) (m_slices_Delete_int : ((List Int) → (Int × Int × Unit) → Option ((List Int) × (List Int)))) (c_impl_det : ((List (List Int)) × (List Int) × (List Int) × Unit → Option Int)) (A : Option (Nat × Obj)) (N : Nat) : LoopsOk N (E61 c_slices_Clone_int m_slices_Delete_int c_impl_det A) (A61 c_slices_Clone_int m_slices_Delete_int c_impl_det N) Go.Proofs.Try.f61.ntmps (retOf (E61 c_slices_Clone_int m_slices_Delete_int c_impl_det A) Go.Proofs.Try.f61 int) (loopsOf (Go.Proofs.Try.f61.body.getD .skip)) :=
  LoopsOk.of (l := [(0, lb Go.Proofs.Try.f61 0)]) (by kernel_rfl) (.cons (L := ⟨[(0, .ro none (.slice (.slice (.num .i64)))), (1, .ro none (.slice (.num .i64))), (2, .ro none (.slice (.num .i64))), (7, .ro none (.num .i64)), (8, .ro none (.num .i64)), (15, .ro none (.slice (.num .i64))), (16, .ro none (.num .i64)), (17, .ro none (.num .i64))], r_impl_det_L0 c_slices_Clone_int m_slices_Delete_int c_impl_det N⟩) (by kernel_rfl) (by intro s kc ke env; kernel_rfl) .nil)
theorem There61 : There Go.Proofs.Try.prog 61 := ⟨_, Go.Proofs.Try.func61, by kernel_rfl, by kernel_rfl⟩
theorem C61 {A : Option (Nat × Obj)} {c_slices_Clone_int : ((List Int) × Unit → Option (List Int))} {m_slices_Delete_int : ((List Int) → (Int × Int × Unit) → Option ((List Int) × (List Int)))} {c_impl_det : ((List (List Int)) × (List Int) × (List Int) × Unit → Option Int)} (h_c_slices_Clone_int : ContractA Go.Proofs.Try.prog A 76 ⟨[(.slice int)], (.slice int), c_slices_Clone_int⟩) (h_m_slices_Delete_int : TakeC Go.Proofs.Try.prog 75 ⟨(.slice int), 0, [int, int], some (.slice int), m_slices_Delete_int⟩) (h_c_impl_det : ContractA Go.Proofs.Try.prog A 61 ⟨[(.slice (.slice int)), (.slice int), (.slice int)], int, c_impl_det⟩) {f : ((List (List Int)) × (List Int) × (List Int) × Unit → Option Int)} (h : ∀ a0 a1 a2 r, f (a0, a1, a2, ()) = some r → ∃ N, r_impl_det c_slices_Clone_int m_slices_Delete_int c_impl_det N a0 a1 a2 = some r) : ContractA Go.Proofs.Try.prog A 61 ⟨[(.slice (.slice int)), (.slice int), (.slice int)], int, f⟩ := by
  refine contract (E := (E61 c_slices_Clone_int m_slices_Delete_int c_impl_det A)) (envOf table ⟨⟨h_c_slices_Clone_int, There76⟩, ⟨⟨h_c_impl_det, There61⟩, trivial⟩⟩ ⟨⟨h_m_slices_Delete_int, There75⟩, trivial⟩ trivial) mixed Go.Proofs.Try.func61 (c := Go.Proofs.Try.f61.body.getD .skip) (by kernel_rfl) (Nat.le_of_ble_eq_true (by kernel_rfl)) fun xs r hr => ?_
  obtain ⟨a0, a1, a2, _⟩ := xs
  obtain ⟨N, hN⟩ := h _ _ _ r hr
  exact ⟨N, A61 c_slices_Clone_int m_slices_Delete_int c_impl_det N, L61 c_slices_Clone_int m_slices_Delete_int c_impl_det A N, (K61 c_slices_Clone_int m_slices_Delete_int c_impl_det A N a0 a1 a2).trans hN⟩
theorem X61_n {A : Option (Nat × Obj)} : ∀ n, ContractA Go.Proofs.Try.prog A 61 ⟨[(.slice (.slice int)), (.slice int), (.slice int)], int, e_impl_det_n n⟩
  | 0 => fun xs r vs w h => by simp [e_impl_det_n] at h
  | n + 1 => C61 X76 X75 (X61_n n) fun _ _ _ _ h => ⟨N0, h⟩
theorem X61 {A : Option (Nat × Obj)} : ContractA Go.Proofs.Try.prog A 61 ⟨[(.slice (.slice int)), (.slice int), (.slice int)], int, e_impl_det⟩ := X61_n N0
-- impl_response
def E42 (c_impl_LaplacianOf : ((Int × Int × Int × List (Int × Int × Int)) × Unit → Option (List (List Int)))) (c_impl_inner : ((Int × Int × Int × List (Int × Int × Int)) × Unit → Option (List Int))) (c_impl_det : ((List (List Int)) × (List Int) × (List Int) × Unit → Option Int)) (A : Option (Nat × Obj)) : Env := ⟨tys, [], [(59, ⟨[net], (.slice (.slice int)), c_impl_LaplacianOf⟩), (60, ⟨[net], (.slice int), c_impl_inner⟩), (61, ⟨[(.slice (.slice int)), (.slice int), (.slice int)], int, c_impl_det⟩)], [], [], A, []⟩
def A42 (c_impl_LaplacianOf : ((Int × Int × Int × List (Int × Int × Int)) × Unit → Option (List (List Int)))) (c_impl_inner : ((Int × Int × Int × List (Int × Int × Int)) × Unit → Option (List Int))) (c_impl_det : ((List (List Int)) × (List Int) × (List Int) × Unit → Option Int)) (N : Nat) : List (Nat × Loop (Ty.den (.tup (.slice (.slice int)) int))) := [(0, ⟨[(1, .box false (.pair (.num .i64) (.pair (.num .i64) (.pair (.num .i64) (.slice (.pair (.num .i64) (.pair (.num .i64) (.num .i64)))))))), (4, .own (.slice (.slice (.num .i64)))), (5, .own (.slice (.num .i64))), (6, .own (.slice (.slice (.num .i64)))), (17, .ro none (.num .i64)), (18, .ro none (.num .i64))], r_impl_response_L0 c_impl_LaplacianOf c_impl_inner c_impl_det N⟩), (2, ⟨[(1, .box false (.pair (.num .i64) (.pair (.num .i64) (.pair (.num .i64) (.slice (.pair (.num .i64) (.pair (.num .i64) (.num .i64)))))))), (4, .own (.slice (.slice (.num .i64)))), (5, .own (.slice (.num .i64))), (6, .own (.slice (.slice (.num .i64)))), (7, .ro none (.num .i64)), (17, .ro none (.num .i64)), (18, .ro none (.num .i64)), (22, .ro none (.num .i64)), (23, .ro none (.num .i64))], r_impl_response_L2 c_impl_LaplacianOf c_impl_inner c_impl_det N⟩)]
theorem K42 (c_impl_LaplacianOf : ((Int × Int × Int × List (Int × Int × Int)) × Unit → Option (List (List Int)))) (c_impl_inner : ((Int × Int × Int × List (Int × Int × Int)) × Unit → Option (List Int))) (c_impl_det : ((List (List Int)) × (List Int) × (List Int) × Unit → Option Int)) (A : Option (Nat × Obj)) (N : Nat) (a0 : (Int × Int × Int × List (Int × Int × Int))) : fnK N (E42 c_impl_LaplacianOf c_impl_inner c_impl_det A) Go.Proofs.Try.f42 [net] (.tup (.slice (.slice int)) int) (A42 c_impl_LaplacianOf c_impl_inner c_impl_det N) (a0, ()) = r_impl_response c_impl_LaplacianOf c_impl_inner c_impl_det N a0 := by kernel_rfl
theorem L42 (c_impl_LaplacianOf : ((Int × Int × Int × List (Int × Int × Int)) × Unit → Option (List (List Int)))) (c_impl_inner : ((Int × Int × Int × List (Int × Int × Int)) × Unit → Option (List Int))) (c_impl_det : ((List (List Int)) × (List Int) × (List Int) × Unit → Option Int)) (A : Option (Nat × Obj)) (N : Nat) : LoopsOk N (E42 c_impl_LaplacianOf c_impl_inner c_impl_det A) (A42 c_impl_LaplacianOf c_impl_inner c_impl_det N) Go.Proofs.Try.f42.ntmps (retOf (E42 c_impl_LaplacianOf c_impl_inner c_impl_det A) Go.Proofs.Try.f42 (.tup (.slice (.slice int)) int)) (loopsOf (Go.Proofs.Try.f42.body.getD .skip)) :=
  LoopsOk.of (l := [(0, lb Go.Proofs.Try.f42 0), (2, lb Go.Proofs.Try.f42 1)]) (by kernel_rfl) (.cons (L := ⟨[(1, .box false (.pair (.num .i64) (.pair (.num .i64) (.pair (.num .i64) (.slice (.pair (.num .i64) (.pair (.num .i64) (.num .i64)))))))), (4, .own (.slice (.slice (.num .i64)))), (5, .own (.slice (.num .i64))), (6, .own (.slice (.slice (.num .i64)))), (17, .ro none (.num .i64)), (18, .ro none (.num .i64))], r_impl_response_L0 c_impl_LaplacianOf c_impl_inner c_impl_det N⟩) (by kernel_rfl) (by intro s kc ke env; kernel_rfl) (.cons (L := ⟨[(1, .box false (.pair (.num .i64) (.pair (.num .i64) (.pair (.num .i64) (.slice (.pair (.num .i64) (.pair (.num .i64) (.num .i64)))))))), (4, .own (.slice (.slice (.num .i64)))), (5, .own (.slice (.num .i64))), (6, .own (.slice (.slice (.num .i64)))), (7, .ro none (.num .i64)), (17, .ro none (.num .i64)), (18, .ro none (.num .i64)), (22, .ro none (.num .i64)), (23, .ro none (.num .i64))], r_impl_response_L2 c_impl_LaplacianOf c_impl_inner c_impl_det N⟩) (by kernel_rfl) (by intro s kc ke env; kernel_rfl) .nil))
theorem There42 : There Go.Proofs.Try.prog 42 := ⟨_, Go.Proofs.Try.func42, by kernel_rfl, by kernel_rfl⟩
theorem C42 {A : Option (Nat × Obj)} {c_impl_LaplacianOf : ((Int × Int × Int × List (Int × Int × Int)) × Unit → Option (List (List Int)))} {c_impl_inner : ((Int × Int × Int × List (Int × Int × Int)) × Unit → Option (List Int))} {c_impl_det : ((List (List Int)) × (List Int) × (List Int) × Unit → Option Int)} (h_c_impl_LaplacianOf : ContractA Go.Proofs.Try.prog A 59 ⟨[net], (.slice (.slice int)), c_impl_LaplacianOf⟩) (h_c_impl_inner : ContractA Go.Proofs.Try.prog A 60 ⟨[net], (.slice int), c_impl_inner⟩) (h_c_impl_det : ContractA Go.Proofs.Try.prog A 61 ⟨[(.slice (.slice int)), (.slice int), (.slice int)], int, c_impl_det⟩) {f : ((Int × Int × Int × List (Int × Int × Int)) × Unit → Option ((List (List Int)) × Int))} (h : ∀ a0 r, f (a0, ()) = some r → ∃ N, r_impl_response c_impl_LaplacianOf c_impl_inner c_impl_det N a0 = some r) : ContractA Go.Proofs.Try.prog A 42 ⟨[net], (.tup (.slice (.slice int)) int), f⟩ := by
  refine contract (E := (E42 c_impl_LaplacianOf c_impl_inner c_impl_det A)) (envOf table ⟨⟨h_c_impl_LaplacianOf, There59⟩, ⟨⟨h_c_impl_inner, There60⟩, ⟨⟨h_c_impl_det, There61⟩, trivial⟩⟩⟩ trivial trivial) mixed Go.Proofs.Try.func42 (c := Go.Proofs.Try.f42.body.getD .skip) (by kernel_rfl) (Nat.le_of_ble_eq_true (by kernel_rfl)) fun xs r hr => ?_
  obtain ⟨a0, _⟩ := xs
  obtain ⟨N, hN⟩ := h _ r hr
  exact ⟨N, A42 c_impl_LaplacianOf c_impl_inner c_impl_det N, L42 c_impl_LaplacianOf c_impl_inner c_impl_det A N, (K42 c_impl_LaplacianOf c_impl_inner c_impl_det A N a0).trans hN⟩
theorem X42 {A : Option (Nat × Obj)} : ContractA Go.Proofs.Try.prog A 42 ⟨[net], (.tup (.slice (.slice int)) int), e_impl_response⟩ := C42 X59 X60 X61 fun _ _ h => ⟨N0, h⟩
-- impl_size
def E63 (A : Option (Nat × Obj)) : Env := ⟨tys, [], [], [], [], A, []⟩
def A63 (_N : Nat) : List (Nat × Loop (Ty.den (.num .u64))) := []
theorem K63 (A : Option (Nat × Obj)) (N : Nat) (a0 : Int) : fnK N (E63 A) Go.Proofs.Try.f63 [int] (.num .u64) (A63 N) (a0, ()) = r_impl_size N a0 := by kernel_rfl
theorem L63 (A : Option (Nat × Obj)) (N : Nat) : LoopsOk N (E63 A) (A63 N) Go.Proofs.Try.f63.ntmps (retOf (E63 A) Go.Proofs.Try.f63 (.num .u64)) (loopsOf (Go.Proofs.Try.f63.body.getD .skip)) :=
  LoopsOk.of (l := []) (by kernel_rfl) .nil
theorem There63 : There Go.Proofs.Try.prog 63 := ⟨_, Go.Proofs.Try.func63, by kernel_rfl, by kernel_rfl⟩
theorem C63 {A : Option (Nat × Obj)} {f : (Int × Unit → Option Int)} (h : ∀ a0 r, f (a0, ()) = some r → ∃ N, r_impl_size N a0 = some r) : ContractA Go.Proofs.Try.prog A 63 ⟨[int], (.num .u64), f⟩ := by
  refine contract (E := (E63 A)) (envOf table trivial trivial trivial) mixed Go.Proofs.Try.func63 (c := Go.Proofs.Try.f63.body.getD .skip) (by kernel_rfl) (Nat.le_of_ble_eq_true (by kernel_rfl)) fun xs r hr => ?_
  obtain ⟨a0, _⟩ := xs
  obtain ⟨N, hN⟩ := h _ r hr
  exact ⟨N, A63 N, L63 A N, (K63 A N a0).trans hN⟩
theorem X63 {A : Option (Nat × Obj)} : ContractA Go.Proofs.Try.prog A 63 ⟨[int], (.num .u64), e_impl_size⟩ := C63 fun _ _ h => ⟨N0, h⟩
-- impl_common
def E62 (A : Option (Nat × Obj)) : Env := ⟨tys, [], [], [], [], A, []⟩
def A62 (N : Nat) : List (Nat × Loop (Ty.den (.num .u64))) := [(0, ⟨[(0, .ro none (.num .u64)), (1, .ro none (.num .u64))], r_impl_common_L0 N⟩)]
theorem K62 (A : Option (Nat × Obj)) (N : Nat) (a0 : Int) (a1 : Int) : fnK N (E62 A) Go.Proofs.Try.f62 [(.num .u64), (.num .u64)] (.num .u64) (A62 N) (a0, a1, ()) = r_impl_common N a0 a1 := by kernel_rfl
theorem L62 (A : Option (Nat × Obj)) (N : Nat) : LoopsOk N (E62 A) (A62 N) Go.Proofs.Try.f62.ntmps (retOf (E62 A) Go.Proofs.Try.f62 (.num .u64)) (loopsOf (Go.Proofs.Try.f62.body.getD .skip)) :=
  LoopsOk.of (l := [(0, lb Go.Proofs.Try.f62 0)]) (by kernel_rfl) (.cons (L := ⟨[(0, .ro none (.num .u64)), (1, .ro none (.num .u64))], r_impl_common_L0 N⟩) (by kernel_rfl) (by intro s kc ke env; kernel_rfl) .nil)
theorem There62 : There Go.Proofs.Try.prog 62 := ⟨_, Go.Proofs.Try.func62, by kernel_rfl, by kernel_rfl⟩
theorem C62 {A : Option (Nat × Obj)} {f : (Int × Int × Unit → Option Int)} (h : ∀ a0 a1 r, f (a0, a1, ()) = some r → ∃ N, r_impl_common N a0 a1 = some r) : ContractA Go.Proofs.Try.prog A 62 ⟨[(.num .u64), (.num .u64)], (.num .u64), f⟩ := by
  refine contract (E := (E62 A)) (envOf table trivial trivial trivial) mixed Go.Proofs.Try.func62 (c := Go.Proofs.Try.f62.body.getD .skip) (by kernel_rfl) (Nat.le_of_ble_eq_true (by kernel_rfl)) fun xs r hr => ?_
  obtain ⟨a0, a1, _⟩ := xs
  obtain ⟨N, hN⟩ := h _ _ r hr
  exact ⟨N, A62 N, L62 A N, (K62 A N a0 a1).trans hN⟩
theorem X62 {A : Option (Nat × Obj)} : ContractA Go.Proofs.Try.prog A 62 ⟨[(.num .u64), (.num .u64)], (.num .u64), e_impl_common⟩ := C62 fun _ _ _ h => ⟨N0, h⟩
-- impl_RatioOf
def E43 (c_impl_size : (Int × Unit → Option Int)) (c_impl_common : (Int × Int × Unit → Option Int)) (A : Option (Nat × Obj)) : Env := ⟨tys, [], [(63, ⟨[int], (.num .u64), c_impl_size⟩), (62, ⟨[(.num .u64), (.num .u64)], (.num .u64), c_impl_common⟩)], [], [], A, []⟩
def A43 (_c_impl_size : (Int × Unit → Option Int)) (_c_impl_common : (Int × Int × Unit → Option Int)) (_N : Nat) : List (Nat × Loop (Ty.den ratio)) := []
theorem K43 (c_impl_size : (Int × Unit → Option Int)) (c_impl_common : (Int × Int × Unit → Option Int)) (A : Option (Nat × Obj)) (N : Nat) (a0 : Int) (a1 : Int) : fnK N (E43 c_impl_size c_impl_common A) Go.Proofs.Try.f43 [int, int] ratio (A43 c_impl_size c_impl_common N) (a0, a1, ()) = r_impl_RatioOf c_impl_size c_impl_common N a0 a1 := by kernel_rfl
theorem L43 (c_impl_size : (Int × Unit → Option Int)) (c_impl_common : (Int × Int × Unit → Option Int)) (A : Option (Nat × Obj)) (N : Nat) : LoopsOk N (E43 c_impl_size c_impl_common A) (A43 c_impl_size c_impl_common N) Go.Proofs.Try.f43.ntmps (retOf (E43 c_impl_size c_impl_common A) Go.Proofs.Try.f43 ratio) (loopsOf (Go.Proofs.Try.f43.body.getD .skip)) :=
  LoopsOk.of (l := []) (by kernel_rfl) .nil
theorem There43 : There Go.Proofs.Try.prog 43 := ⟨_, Go.Proofs.Try.func43, by kernel_rfl, by kernel_rfl⟩
theorem C43 {A : Option (Nat × Obj)} {c_impl_size : (Int × Unit → Option Int)} {c_impl_common : (Int × Int × Unit → Option Int)} (h_c_impl_size : ContractA Go.Proofs.Try.prog A 63 ⟨[int], (.num .u64), c_impl_size⟩) (h_c_impl_common : ContractA Go.Proofs.Try.prog A 62 ⟨[(.num .u64), (.num .u64)], (.num .u64), c_impl_common⟩) {f : (Int × Int × Unit → Option (Int × Int))} (h : ∀ a0 a1 r, f (a0, a1, ()) = some r → ∃ N, r_impl_RatioOf c_impl_size c_impl_common N a0 a1 = some r) : ContractA Go.Proofs.Try.prog A 43 ⟨[int, int], ratio, f⟩ := by
  refine contract (E := (E43 c_impl_size c_impl_common A)) (envOf table ⟨⟨h_c_impl_size, There63⟩, ⟨⟨h_c_impl_common, There62⟩, trivial⟩⟩ trivial trivial) mixed Go.Proofs.Try.func43 (c := Go.Proofs.Try.f43.body.getD .skip) (by kernel_rfl) (Nat.le_of_ble_eq_true (by kernel_rfl)) fun xs r hr => ?_
  obtain ⟨a0, a1, _⟩ := xs
  obtain ⟨N, hN⟩ := h _ _ r hr
  exact ⟨N, A43 c_impl_size c_impl_common N, L43 c_impl_size c_impl_common A N, (K43 c_impl_size c_impl_common A N a0 a1).trans hN⟩
theorem X43 {A : Option (Nat × Obj)} : ContractA Go.Proofs.Try.prog A 43 ⟨[int, int], ratio, e_impl_RatioOf⟩ := C43 X63 X62 fun _ _ _ h => ⟨N0, h⟩
-- impl_ResponseOf
def E20 (c_impl_NetOk : ((Int × Int × Int × List (Int × Int × Int)) × Unit → Option Bool)) (c_impl_response : ((Int × Int × Int × List (Int × Int × Int)) × Unit → Option ((List (List Int)) × Int))) (c_impl_RatioOf : (Int × Int × Unit → Option (Int × Int))) (A : Option (Nat × Obj)) : Env := ⟨tys, [], [(27, ⟨[net], .bool, c_impl_NetOk⟩), (42, ⟨[net], (.tup (.slice (.slice int)) int), c_impl_response⟩), (43, ⟨[int, int], ratio, c_impl_RatioOf⟩)], [], [], A, []⟩
def A20 (c_impl_NetOk : ((Int × Int × Int × List (Int × Int × Int)) × Unit → Option Bool)) (c_impl_response : ((Int × Int × Int × List (Int × Int × Int)) × Unit → Option ((List (List Int)) × Int))) (c_impl_RatioOf : (Int × Int × Unit → Option (Int × Int))) (N : Nat) : List (Nat × Loop (Ty.den (.tup (.slice (.slice ratio)) .bool))) := [(0, ⟨[(4, .own (.slice (.slice (.num .i64)))), (5, .ro none (.num .i64)), (6, .own (.slice (.slice (.pair (.num .i64) (.num .i64))))), (22, .ro none (.num .i64)), (23, .ro none (.num .i64))], r_impl_ResponseOf_L0 c_impl_NetOk c_impl_response c_impl_RatioOf N⟩), (2, ⟨[(4, .own (.slice (.slice (.num .i64)))), (5, .ro none (.num .i64)), (6, .own (.slice (.slice (.pair (.num .i64) (.num .i64))))), (7, .ro none (.num .i64)), (22, .ro none (.num .i64)), (23, .ro none (.num .i64)), (29, .ro (some 4) (.slice (.num .i64))), (30, .ro none (.num .i64)), (31, .ro none (.num .i64))], r_impl_ResponseOf_L2 c_impl_NetOk c_impl_response c_impl_RatioOf N⟩)]
theorem K20 (c_impl_NetOk : ((Int × Int × Int × List (Int × Int × Int)) × Unit → Option Bool)) (c_impl_response : ((Int × Int × Int × List (Int × Int × Int)) × Unit → Option ((List (List Int)) × Int))) (c_impl_RatioOf : (Int × Int × Unit → Option (Int × Int))) (A : Option (Nat × Obj)) (N : Nat) (a0 : (Int × Int × Int × List (Int × Int × Int))) : fnK N (E20 c_impl_NetOk c_impl_response c_impl_RatioOf A) Go.Proofs.Try.f20 [net] (.tup (.slice (.slice ratio)) .bool) (A20 c_impl_NetOk c_impl_response c_impl_RatioOf N) (a0, ()) = r_impl_ResponseOf c_impl_NetOk c_impl_response c_impl_RatioOf N a0 := by kernel_rfl
theorem L20 (c_impl_NetOk : ((Int × Int × Int × List (Int × Int × Int)) × Unit → Option Bool)) (c_impl_response : ((Int × Int × Int × List (Int × Int × Int)) × Unit → Option ((List (List Int)) × Int))) (c_impl_RatioOf : (Int × Int × Unit → Option (Int × Int))) (A : Option (Nat × Obj)) (N : Nat) : LoopsOk N (E20 c_impl_NetOk c_impl_response c_impl_RatioOf A) (A20 c_impl_NetOk c_impl_response c_impl_RatioOf N) Go.Proofs.Try.f20.ntmps (retOf (E20 c_impl_NetOk c_impl_response c_impl_RatioOf A) Go.Proofs.Try.f20 (.tup (.slice (.slice ratio)) .bool)) (loopsOf (Go.Proofs.Try.f20.body.getD .skip)) :=
  LoopsOk.of (l := [(0, lb Go.Proofs.Try.f20 0), (2, lb Go.Proofs.Try.f20 1)]) (by kernel_rfl) (.cons (L := ⟨[(4, .own (.slice (.slice (.num .i64)))), (5, .ro none (.num .i64)), (6, .own (.slice (.slice (.pair (.num .i64) (.num .i64))))), (22, .ro none (.num .i64)), (23, .ro none (.num .i64))], r_impl_ResponseOf_L0 c_impl_NetOk c_impl_response c_impl_RatioOf N⟩) (by kernel_rfl) (by intro s kc ke env; kernel_rfl) (.cons (L := ⟨[(4, .own (.slice (.slice (.num .i64)))), (5, .ro none (.num .i64)), (6, .own (.slice (.slice (.pair (.num .i64) (.num .i64))))), (7, .ro none (.num .i64)), (22, .ro none (.num .i64)), (23, .ro none (.num .i64)), (29, .ro (some 4) (.slice (.num .i64))), (30, .ro none (.num .i64)), (31, .ro none (.num .i64))], r_impl_ResponseOf_L2 c_impl_NetOk c_impl_response c_impl_RatioOf N⟩) (by kernel_rfl) (by intro s kc ke env; kernel_rfl) .nil))
theorem There20 : There Go.Proofs.Try.prog 20 := ⟨_, Go.Proofs.Try.func20, by kernel_rfl, by kernel_rfl⟩
theorem C20 {A : Option (Nat × Obj)} {c_impl_NetOk : ((Int × Int × Int × List (Int × Int × Int)) × Unit → Option Bool)} {c_impl_response : ((Int × Int × Int × List (Int × Int × Int)) × Unit → Option ((List (List Int)) × Int))} {c_impl_RatioOf : (Int × Int × Unit → Option (Int × Int))} (h_c_impl_NetOk : ContractA Go.Proofs.Try.prog A 27 ⟨[net], .bool, c_impl_NetOk⟩) (h_c_impl_response : ContractA Go.Proofs.Try.prog A 42 ⟨[net], (.tup (.slice (.slice int)) int), c_impl_response⟩) (h_c_impl_RatioOf : ContractA Go.Proofs.Try.prog A 43 ⟨[int, int], ratio, c_impl_RatioOf⟩) {f : ((Int × Int × Int × List (Int × Int × Int)) × Unit → Option ((List (List (Int × Int))) × Bool))} (h : ∀ a0 r, f (a0, ()) = some r → ∃ N, r_impl_ResponseOf c_impl_NetOk c_impl_response c_impl_RatioOf N a0 = some r) : ContractA Go.Proofs.Try.prog A 20 ⟨[net], (.tup (.slice (.slice ratio)) .bool), f⟩ := by
  refine contract (E := (E20 c_impl_NetOk c_impl_response c_impl_RatioOf A)) (envOf table ⟨⟨h_c_impl_NetOk, There27⟩, ⟨⟨h_c_impl_response, There42⟩, ⟨⟨h_c_impl_RatioOf, There43⟩, trivial⟩⟩⟩ trivial trivial) mixed Go.Proofs.Try.func20 (c := Go.Proofs.Try.f20.body.getD .skip) (by kernel_rfl) (Nat.le_of_ble_eq_true (by kernel_rfl)) fun xs r hr => ?_
  obtain ⟨a0, _⟩ := xs
  obtain ⟨N, hN⟩ := h _ r hr
  exact ⟨N, A20 c_impl_NetOk c_impl_response c_impl_RatioOf N, L20 c_impl_NetOk c_impl_response c_impl_RatioOf A N, (K20 c_impl_NetOk c_impl_response c_impl_RatioOf A N a0).trans hN⟩
theorem X20 {A : Option (Nat × Obj)} : ContractA Go.Proofs.Try.prog A 20 ⟨[net], (.tup (.slice (.slice ratio)) .bool), e_impl_ResponseOf⟩ := C20 X27 X42 X43 fun _ _ h => ⟨N0, h⟩
-- impl_isNode
def E56 (A : Option (Nat × Obj)) : Env := ⟨tys, [], [], [], [], A, []⟩
def A56 (_N : Nat) : List (Nat × Loop (Ty.den .bool)) := []
theorem K56 (A : Option (Nat × Obj)) (N : Nat) (a0 : (Int × Int × Int × List (Int × Int × Int))) (a1 : Int) : fnK N (E56 A) Go.Proofs.Try.f56 [net, int] .bool (A56 N) (a0, a1, ()) = r_impl_isNode N a0 a1 := by kernel_rfl
theorem L56 (A : Option (Nat × Obj)) (N : Nat) : LoopsOk N (E56 A) (A56 N) Go.Proofs.Try.f56.ntmps (retOf (E56 A) Go.Proofs.Try.f56 .bool) (loopsOf (Go.Proofs.Try.f56.body.getD .skip)) :=
  LoopsOk.of (l := []) (by kernel_rfl) .nil
theorem There56 : There Go.Proofs.Try.prog 56 := ⟨_, Go.Proofs.Try.func56, by kernel_rfl, by kernel_rfl⟩
theorem C56 {A : Option (Nat × Obj)} {f : ((Int × Int × Int × List (Int × Int × Int)) × Int × Unit → Option Bool)} (h : ∀ a0 a1 r, f (a0, a1, ()) = some r → ∃ N, r_impl_isNode N a0 a1 = some r) : ContractA Go.Proofs.Try.prog A 56 ⟨[net, int], .bool, f⟩ := by
  refine contract (E := (E56 A)) (envOf table trivial trivial trivial) mixed Go.Proofs.Try.func56 (c := Go.Proofs.Try.f56.body.getD .skip) (by kernel_rfl) (Nat.le_of_ble_eq_true (by kernel_rfl)) fun xs r hr => ?_
  obtain ⟨a0, a1, _⟩ := xs
  obtain ⟨N, hN⟩ := h _ _ r hr
  exact ⟨N, A56 N, L56 A N, (K56 A N a0 a1).trans hN⟩
theorem X56 {A : Option (Nat × Obj)} : ContractA Go.Proofs.Try.prog A 56 ⟨[net, int], .bool, e_impl_isNode⟩ := C56 fun _ _ _ h => ⟨N0, h⟩
-- impl_GcdOf
def E73 (c_impl_size : (Int × Unit → Option Int)) (c_impl_common : (Int × Int × Unit → Option Int)) (A : Option (Nat × Obj)) : Env := ⟨tys, [], [(63, ⟨[int], (.num .u64), c_impl_size⟩), (62, ⟨[(.num .u64), (.num .u64)], (.num .u64), c_impl_common⟩)], [], [], A, []⟩
def A73 (_c_impl_size : (Int × Unit → Option Int)) (_c_impl_common : (Int × Int × Unit → Option Int)) (_N : Nat) : List (Nat × Loop (Ty.den int)) := []
theorem K73 (c_impl_size : (Int × Unit → Option Int)) (c_impl_common : (Int × Int × Unit → Option Int)) (A : Option (Nat × Obj)) (N : Nat) (a0 : Int) (a1 : Int) : fnK N (E73 c_impl_size c_impl_common A) Go.Proofs.Try.f73 [int, int] int (A73 c_impl_size c_impl_common N) (a0, a1, ()) = r_impl_GcdOf c_impl_size c_impl_common N a0 a1 := by kernel_rfl
theorem L73 (c_impl_size : (Int × Unit → Option Int)) (c_impl_common : (Int × Int × Unit → Option Int)) (A : Option (Nat × Obj)) (N : Nat) : LoopsOk N (E73 c_impl_size c_impl_common A) (A73 c_impl_size c_impl_common N) Go.Proofs.Try.f73.ntmps (retOf (E73 c_impl_size c_impl_common A) Go.Proofs.Try.f73 int) (loopsOf (Go.Proofs.Try.f73.body.getD .skip)) :=
  LoopsOk.of (l := []) (by kernel_rfl) .nil
theorem There73 : There Go.Proofs.Try.prog 73 := ⟨_, Go.Proofs.Try.func73, by kernel_rfl, by kernel_rfl⟩
theorem C73 {A : Option (Nat × Obj)} {c_impl_size : (Int × Unit → Option Int)} {c_impl_common : (Int × Int × Unit → Option Int)} (h_c_impl_size : ContractA Go.Proofs.Try.prog A 63 ⟨[int], (.num .u64), c_impl_size⟩) (h_c_impl_common : ContractA Go.Proofs.Try.prog A 62 ⟨[(.num .u64), (.num .u64)], (.num .u64), c_impl_common⟩) {f : (Int × Int × Unit → Option Int)} (h : ∀ a0 a1 r, f (a0, a1, ()) = some r → ∃ N, r_impl_GcdOf c_impl_size c_impl_common N a0 a1 = some r) : ContractA Go.Proofs.Try.prog A 73 ⟨[int, int], int, f⟩ := by
  refine contract (E := (E73 c_impl_size c_impl_common A)) (envOf table ⟨⟨h_c_impl_size, There63⟩, ⟨⟨h_c_impl_common, There62⟩, trivial⟩⟩ trivial trivial) mixed Go.Proofs.Try.func73 (c := Go.Proofs.Try.f73.body.getD .skip) (by kernel_rfl) (Nat.le_of_ble_eq_true (by kernel_rfl)) fun xs r hr => ?_
  obtain ⟨a0, a1, _⟩ := xs
  obtain ⟨N, hN⟩ := h _ _ r hr
  exact ⟨N, A73 c_impl_size c_impl_common N, L73 c_impl_size c_impl_common A N, (K73 c_impl_size c_impl_common A N a0 a1).trans hN⟩
theorem X73 {A : Option (Nat × Obj)} : ContractA Go.Proofs.Try.prog A 73 ⟨[int, int], int, e_impl_GcdOf⟩ := C73 X63 X62 fun _ _ _ h => ⟨N0, h⟩
-- impl_netOf
def E58 (c_impl_NetOk : ((Int × Int × Int × List (Int × Int × Int)) × Unit → Option Bool)) (c_impl_GcdOf : (Int × Int × Unit → Option Int)) (A : Option (Nat × Obj)) : Env := ⟨tys, [], [(27, ⟨[net], .bool, c_impl_NetOk⟩), (73, ⟨[int, int], int, c_impl_GcdOf⟩)], [], [], A, []⟩
def A58 (c_impl_NetOk : ((Int × Int × Int × List (Int × Int × Int)) × Unit → Option Bool)) (c_impl_GcdOf : (Int × Int × Unit → Option Int)) (N : Nat) : List (Nat × Loop (Ty.den (.tup net .bool))) := [(0, ⟨[(2, .ro none (.slice (.slice (.num .i64)))), (3, .ro none .bool), (8, .box true (.pair (.num .i64) (.pair (.num .i64) (.pair (.num .i64) (.slice (.pair (.num .i64) (.pair (.num .i64) (.num .i64)))))))), (10, .box true (.pair (.num .i64) (.pair (.num .i64) (.pair (.num .i64) (.slice (.pair (.num .i64) (.pair (.num .i64) (.num .i64)))))))), (11, .ro none (.num .i64)), (23, .ro none (.num .i64)), (24, .ro none (.num .i64))], r_impl_netOf_L0 c_impl_NetOk c_impl_GcdOf N⟩), (4, ⟨[(8, .box true (.pair (.num .i64) (.pair (.num .i64) (.pair (.num .i64) (.slice (.pair (.num .i64) (.pair (.num .i64) (.num .i64)))))))), (10, .box true (.pair (.num .i64) (.pair (.num .i64) (.pair (.num .i64) (.slice (.pair (.num .i64) (.pair (.num .i64) (.num .i64)))))))), (11, .ro none (.num .i64)), (65, .ro none (.num .i64)), (66, .ro none (.num .i64))], r_impl_netOf_L4 c_impl_NetOk c_impl_GcdOf N⟩), (2, ⟨[(2, .ro none (.slice (.slice (.num .i64)))), (3, .ro none .bool), (8, .box true (.pair (.num .i64) (.pair (.num .i64) (.pair (.num .i64) (.slice (.pair (.num .i64) (.pair (.num .i64) (.num .i64)))))))), (10, .box true (.pair (.num .i64) (.pair (.num .i64) (.pair (.num .i64) (.slice (.pair (.num .i64) (.pair (.num .i64) (.num .i64)))))))), (11, .ro none (.num .i64)), (12, .ro none (.num .i64)), (13, .ro none (.num .i64)), (23, .ro none (.num .i64)), (24, .ro none (.num .i64))], r_impl_netOf_L2 c_impl_NetOk c_impl_GcdOf N⟩)]
theorem K58 (c_impl_NetOk : ((Int × Int × Int × List (Int × Int × Int)) × Unit → Option Bool)) (c_impl_GcdOf : (Int × Int × Unit → Option Int)) (A : Option (Nat × Obj)) (N : Nat) (a0 : Int) (a1 : Int) (a2 : (List (List Int))) (a3 : Bool) : fnK N (E58 c_impl_NetOk c_impl_GcdOf A) Go.Proofs.Try.f58 [int, int, (.slice (.slice int)), .bool] (.tup net .bool) (A58 c_impl_NetOk c_impl_GcdOf N) (a0, a1, a2, a3, ()) = r_impl_netOf c_impl_NetOk c_impl_GcdOf N a0 a1 a2 a3 := by kernel_rfl
theorem L58 (c_impl_NetOk : ((Int × Int × Int × List (Int × Int × Int)) × Unit → Option Bool)) (c_impl_GcdOf : (Int × Int × Unit → Option Int)) (A : Option (Nat × Obj)) (N : Nat) : LoopsOk N (E58 c_impl_NetOk c_impl_GcdOf A) (A58 c_impl_NetOk c_impl_GcdOf N) Go.Proofs.Try.f58.ntmps (retOf (E58 c_impl_NetOk c_impl_GcdOf A) Go.Proofs.Try.f58 (.tup net .bool)) (loopsOf (Go.Proofs.Try.f58.body.getD .skip)) :=
  LoopsOk.of (l := [(0, lb Go.Proofs.Try.f58 0), (2, lb Go.Proofs.Try.f58 1), (4, lb Go.Proofs.Try.f58 2)]) (by kernel_rfl) (.cons (L := ⟨[(2, .ro none (.slice (.slice (.num .i64)))), (3, .ro none .bool), (8, .box true (.pair (.num .i64) (.pair (.num .i64) (.pair (.num .i64) (.slice (.pair (.num .i64) (.pair (.num .i64) (.num .i64)))))))), (10, .box true (.pair (.num .i64) (.pair (.num .i64) (.pair (.num .i64) (.slice (.pair (.num .i64) (.pair (.num .i64) (.num .i64)))))))), (11, .ro none (.num .i64)), (23, .ro none (.num .i64)), (24, .ro none (.num .i64))], r_impl_netOf_L0 c_impl_NetOk c_impl_GcdOf N⟩) (by kernel_rfl) (by intro s kc ke env; kernel_rfl) (.cons (L := ⟨[(2, .ro none (.slice (.slice (.num .i64)))), (3, .ro none .bool), (8, .box true (.pair (.num .i64) (.pair (.num .i64) (.pair (.num .i64) (.slice (.pair (.num .i64) (.pair (.num .i64) (.num .i64)))))))), (10, .box true (.pair (.num .i64) (.pair (.num .i64) (.pair (.num .i64) (.slice (.pair (.num .i64) (.pair (.num .i64) (.num .i64)))))))), (11, .ro none (.num .i64)), (12, .ro none (.num .i64)), (13, .ro none (.num .i64)), (23, .ro none (.num .i64)), (24, .ro none (.num .i64))], r_impl_netOf_L2 c_impl_NetOk c_impl_GcdOf N⟩) (by kernel_rfl) (by intro s kc ke env; kernel_rfl) (.cons (L := ⟨[(8, .box true (.pair (.num .i64) (.pair (.num .i64) (.pair (.num .i64) (.slice (.pair (.num .i64) (.pair (.num .i64) (.num .i64)))))))), (10, .box true (.pair (.num .i64) (.pair (.num .i64) (.pair (.num .i64) (.slice (.pair (.num .i64) (.pair (.num .i64) (.num .i64)))))))), (11, .ro none (.num .i64)), (65, .ro none (.num .i64)), (66, .ro none (.num .i64))], r_impl_netOf_L4 c_impl_NetOk c_impl_GcdOf N⟩) (by kernel_rfl) (by intro s kc ke env; kernel_rfl) .nil)))
theorem There58 : There Go.Proofs.Try.prog 58 := ⟨_, Go.Proofs.Try.func58, by kernel_rfl, by kernel_rfl⟩
theorem C58 {A : Option (Nat × Obj)} {c_impl_NetOk : ((Int × Int × Int × List (Int × Int × Int)) × Unit → Option Bool)} {c_impl_GcdOf : (Int × Int × Unit → Option Int)} (h_c_impl_NetOk : ContractA Go.Proofs.Try.prog A 27 ⟨[net], .bool, c_impl_NetOk⟩) (h_c_impl_GcdOf : ContractA Go.Proofs.Try.prog A 73 ⟨[int, int], int, c_impl_GcdOf⟩) {f : (Int × Int × (List (List Int)) × Bool × Unit → Option ((Int × Int × Int × List (Int × Int × Int)) × Bool))} (h : ∀ a0 a1 a2 a3 r, f (a0, a1, a2, a3, ()) = some r → ∃ N, r_impl_netOf c_impl_NetOk c_impl_GcdOf N a0 a1 a2 a3 = some r) : ContractA Go.Proofs.Try.prog A 58 ⟨[int, int, (.slice (.slice int)), .bool], (.tup net .bool), f⟩ := by
  refine contract (E := (E58 c_impl_NetOk c_impl_GcdOf A)) (envOf table ⟨⟨h_c_impl_NetOk, There27⟩, ⟨⟨h_c_impl_GcdOf, There73⟩, trivial⟩⟩ trivial trivial) mixed Go.Proofs.Try.func58 (c := Go.Proofs.Try.f58.body.getD .skip) (by kernel_rfl) (Nat.le_of_ble_eq_true (by kernel_rfl)) fun xs r hr => ?_
  obtain ⟨a0, a1, a2, a3, _⟩ := xs
  obtain ⟨N, hN⟩ := h _ _ _ _ r hr
  exact ⟨N, A58 c_impl_NetOk c_impl_GcdOf N, L58 c_impl_NetOk c_impl_GcdOf A N, (K58 c_impl_NetOk c_impl_GcdOf A N a0 a1 a2 a3).trans hN⟩
theorem X58 {A : Option (Nat × Obj)} : ContractA Go.Proofs.Try.prog A 58 ⟨[int, int, (.slice (.slice int)), .bool], (.tup net .bool), e_impl_netOf⟩ := C58 X27 X73 fun _ _ _ _ _ h => ⟨N0, h⟩
-- impl_PutWire
def E41 (c_impl_NetOk : ((Int × Int × Int × List (Int × Int × Int)) × Unit → Option Bool)) (c_impl_isNode : ((Int × Int × Int × List (Int × Int × Int)) × Int × Unit → Option Bool)) (c_impl_table : ((Int × Int × Int × List (Int × Int × Int)) × Unit → Option (List (List Int)))) (c_impl_netOf : (Int × Int × (List (List Int)) × Bool × Unit → Option ((Int × Int × Int × List (Int × Int × Int)) × Bool))) (A : Option (Nat × Obj)) : Env := ⟨tys, [], [(27, ⟨[net], .bool, c_impl_NetOk⟩), (56, ⟨[net, int], .bool, c_impl_isNode⟩), (57, ⟨[net], (.slice (.slice int)), c_impl_table⟩), (58, ⟨[int, int, (.slice (.slice int)), .bool], (.tup net .bool), c_impl_netOf⟩)], [], [], A, []⟩
def A41 (_c_impl_NetOk : ((Int × Int × Int × List (Int × Int × Int)) × Unit → Option Bool)) (_c_impl_isNode : ((Int × Int × Int × List (Int × Int × Int)) × Int × Unit → Option Bool)) (_c_impl_table : ((Int × Int × Int × List (Int × Int × Int)) × Unit → Option (List (List Int)))) (_c_impl_netOf : (Int × Int × (List (List Int)) × Bool × Unit → Option ((Int × Int × Int × List (Int × Int × Int)) × Bool))) (_N : Nat) : List (Nat × Loop (Ty.den (.tup net .bool))) := []
theorem K41 (c_impl_NetOk : ((Int × Int × Int × List (Int × Int × Int)) × Unit → Option Bool)) (c_impl_isNode : ((Int × Int × Int × List (Int × Int × Int)) × Int × Unit → Option Bool)) (c_impl_table : ((Int × Int × Int × List (Int × Int × Int)) × Unit → Option (List (List Int)))) (c_impl_netOf : (Int × Int × (List (List Int)) × Bool × Unit → Option ((Int × Int × Int × List (Int × Int × Int)) × Bool))) (A : Option (Nat × Obj)) (N : Nat) (a0 : (Int × Int × Int × List (Int × Int × Int))) (a1 : Int) (a2 : Int) (a3 : Int) : fnK N (E41 c_impl_NetOk c_impl_isNode c_impl_table c_impl_netOf A) Go.Proofs.Try.f41 [net, int, int, int] (.tup net .bool) (A41 c_impl_NetOk c_impl_isNode c_impl_table c_impl_netOf N) (a0, a1, a2, a3, ()) = r_impl_PutWire c_impl_NetOk c_impl_isNode c_impl_table c_impl_netOf N a0 a1 a2 a3 := by kernel_rfl
theorem L41 (c_impl_NetOk : ((Int × Int × Int × List (Int × Int × Int)) × Unit → Option Bool)) (c_impl_isNode : ((Int × Int × Int × List (Int × Int × Int)) × Int × Unit → Option Bool)) (c_impl_table : ((Int × Int × Int × List (Int × Int × Int)) × Unit → Option (List (List Int)))) (c_impl_netOf : (Int × Int × (List (List Int)) × Bool × Unit → Option ((Int × Int × Int × List (Int × Int × Int)) × Bool))) (A : Option (Nat × Obj)) (N : Nat) : LoopsOk N (E41 c_impl_NetOk c_impl_isNode c_impl_table c_impl_netOf A) (A41 c_impl_NetOk c_impl_isNode c_impl_table c_impl_netOf N) Go.Proofs.Try.f41.ntmps (retOf (E41 c_impl_NetOk c_impl_isNode c_impl_table c_impl_netOf A) Go.Proofs.Try.f41 (.tup net .bool)) (loopsOf (Go.Proofs.Try.f41.body.getD .skip)) :=
  LoopsOk.of (l := []) (by kernel_rfl) .nil
theorem There41 : There Go.Proofs.Try.prog 41 := ⟨_, Go.Proofs.Try.func41, by kernel_rfl, by kernel_rfl⟩
theorem C41 {A : Option (Nat × Obj)} {c_impl_NetOk : ((Int × Int × Int × List (Int × Int × Int)) × Unit → Option Bool)} {c_impl_isNode : ((Int × Int × Int × List (Int × Int × Int)) × Int × Unit → Option Bool)} {c_impl_table : ((Int × Int × Int × List (Int × Int × Int)) × Unit → Option (List (List Int)))} {c_impl_netOf : (Int × Int × (List (List Int)) × Bool × Unit → Option ((Int × Int × Int × List (Int × Int × Int)) × Bool))} (h_c_impl_NetOk : ContractA Go.Proofs.Try.prog A 27 ⟨[net], .bool, c_impl_NetOk⟩) (h_c_impl_isNode : ContractA Go.Proofs.Try.prog A 56 ⟨[net, int], .bool, c_impl_isNode⟩) (h_c_impl_table : ContractA Go.Proofs.Try.prog A 57 ⟨[net], (.slice (.slice int)), c_impl_table⟩) (h_c_impl_netOf : ContractA Go.Proofs.Try.prog A 58 ⟨[int, int, (.slice (.slice int)), .bool], (.tup net .bool), c_impl_netOf⟩) {f : ((Int × Int × Int × List (Int × Int × Int)) × Int × Int × Int × Unit → Option ((Int × Int × Int × List (Int × Int × Int)) × Bool))} (h : ∀ a0 a1 a2 a3 r, f (a0, a1, a2, a3, ()) = some r → ∃ N, r_impl_PutWire c_impl_NetOk c_impl_isNode c_impl_table c_impl_netOf N a0 a1 a2 a3 = some r) : ContractA Go.Proofs.Try.prog A 41 ⟨[net, int, int, int], (.tup net .bool), f⟩ := by
  refine contract (E := (E41 c_impl_NetOk c_impl_isNode c_impl_table c_impl_netOf A)) (envOf table ⟨⟨h_c_impl_NetOk, There27⟩, ⟨⟨h_c_impl_isNode, There56⟩, ⟨⟨h_c_impl_table, There57⟩, ⟨⟨h_c_impl_netOf, There58⟩, trivial⟩⟩⟩⟩ trivial trivial) mixed Go.Proofs.Try.func41 (c := Go.Proofs.Try.f41.body.getD .skip) (by kernel_rfl) (Nat.le_of_ble_eq_true (by kernel_rfl)) fun xs r hr => ?_
  obtain ⟨a0, a1, a2, a3, _⟩ := xs
  obtain ⟨N, hN⟩ := h _ _ _ _ r hr
  exact ⟨N, A41 c_impl_NetOk c_impl_isNode c_impl_table c_impl_netOf N, L41 c_impl_NetOk c_impl_isNode c_impl_table c_impl_netOf A N, (K41 c_impl_NetOk c_impl_isNode c_impl_table c_impl_netOf A N a0 a1 a2 a3).trans hN⟩
theorem X41 {A : Option (Nat × Obj)} : ContractA Go.Proofs.Try.prog A 41 ⟨[net, int, int, int], (.tup net .bool), e_impl_PutWire⟩ := C41 X27 X56 X57 X58 fun _ _ _ _ _ h => ⟨N0, h⟩
-- impl_ApplyFault
def E19 (c_impl_NetOk : ((Int × Int × Int × List (Int × Int × Int)) × Unit → Option Bool)) (c_impl_isWire : ((Int × Int × Int × List (Int × Int × Int)) × Int × Unit → Option Bool)) (c_impl_PutWire : ((Int × Int × Int × List (Int × Int × Int)) × Int × Int × Int × Unit → Option ((Int × Int × Int × List (Int × Int × Int)) × Bool))) (A : Option (Nat × Obj)) : Env := ⟨tys, [], [(27, ⟨[net], .bool, c_impl_NetOk⟩), (40, ⟨[net, int], .bool, c_impl_isWire⟩), (41, ⟨[net, int, int, int], (.tup net .bool), c_impl_PutWire⟩)], [], [], A, []⟩
def A19 (_c_impl_NetOk : ((Int × Int × Int × List (Int × Int × Int)) × Unit → Option Bool)) (_c_impl_isWire : ((Int × Int × Int × List (Int × Int × Int)) × Int × Unit → Option Bool)) (_c_impl_PutWire : ((Int × Int × Int × List (Int × Int × Int)) × Int × Int × Int × Unit → Option ((Int × Int × Int × List (Int × Int × Int)) × Bool))) (_N : Nat) : List (Nat × Loop (Ty.den (.tup net .bool))) := []
theorem K19 (c_impl_NetOk : ((Int × Int × Int × List (Int × Int × Int)) × Unit → Option Bool)) (c_impl_isWire : ((Int × Int × Int × List (Int × Int × Int)) × Int × Unit → Option Bool)) (c_impl_PutWire : ((Int × Int × Int × List (Int × Int × Int)) × Int × Int × Int × Unit → Option ((Int × Int × Int × List (Int × Int × Int)) × Bool))) (A : Option (Nat × Obj)) (N : Nat) (a0 : (Int × Int × Int × List (Int × Int × Int))) (a1 : (Int × Int)) : fnK N (E19 c_impl_NetOk c_impl_isWire c_impl_PutWire A) Go.Proofs.Try.f19 [net, fault] (.tup net .bool) (A19 c_impl_NetOk c_impl_isWire c_impl_PutWire N) (a0, a1, ()) = r_impl_ApplyFault c_impl_NetOk c_impl_isWire c_impl_PutWire N a0 a1 := by kernel_rfl
theorem L19 (c_impl_NetOk : ((Int × Int × Int × List (Int × Int × Int)) × Unit → Option Bool)) (c_impl_isWire : ((Int × Int × Int × List (Int × Int × Int)) × Int × Unit → Option Bool)) (c_impl_PutWire : ((Int × Int × Int × List (Int × Int × Int)) × Int × Int × Int × Unit → Option ((Int × Int × Int × List (Int × Int × Int)) × Bool))) (A : Option (Nat × Obj)) (N : Nat) : LoopsOk N (E19 c_impl_NetOk c_impl_isWire c_impl_PutWire A) (A19 c_impl_NetOk c_impl_isWire c_impl_PutWire N) Go.Proofs.Try.f19.ntmps (retOf (E19 c_impl_NetOk c_impl_isWire c_impl_PutWire A) Go.Proofs.Try.f19 (.tup net .bool)) (loopsOf (Go.Proofs.Try.f19.body.getD .skip)) :=
  LoopsOk.of (l := []) (by kernel_rfl) .nil
theorem There19 : There Go.Proofs.Try.prog 19 := ⟨_, Go.Proofs.Try.func19, by kernel_rfl, by kernel_rfl⟩
theorem C19 {A : Option (Nat × Obj)} {c_impl_NetOk : ((Int × Int × Int × List (Int × Int × Int)) × Unit → Option Bool)} {c_impl_isWire : ((Int × Int × Int × List (Int × Int × Int)) × Int × Unit → Option Bool)} {c_impl_PutWire : ((Int × Int × Int × List (Int × Int × Int)) × Int × Int × Int × Unit → Option ((Int × Int × Int × List (Int × Int × Int)) × Bool))} (h_c_impl_NetOk : ContractA Go.Proofs.Try.prog A 27 ⟨[net], .bool, c_impl_NetOk⟩) (h_c_impl_isWire : ContractA Go.Proofs.Try.prog A 40 ⟨[net, int], .bool, c_impl_isWire⟩) (h_c_impl_PutWire : ContractA Go.Proofs.Try.prog A 41 ⟨[net, int, int, int], (.tup net .bool), c_impl_PutWire⟩) {f : ((Int × Int × Int × List (Int × Int × Int)) × (Int × Int) × Unit → Option ((Int × Int × Int × List (Int × Int × Int)) × Bool))} (h : ∀ a0 a1 r, f (a0, a1, ()) = some r → ∃ N, r_impl_ApplyFault c_impl_NetOk c_impl_isWire c_impl_PutWire N a0 a1 = some r) : ContractA Go.Proofs.Try.prog A 19 ⟨[net, fault], (.tup net .bool), f⟩ := by
  refine contract (E := (E19 c_impl_NetOk c_impl_isWire c_impl_PutWire A)) (envOf table ⟨⟨h_c_impl_NetOk, There27⟩, ⟨⟨h_c_impl_isWire, There40⟩, ⟨⟨h_c_impl_PutWire, There41⟩, trivial⟩⟩⟩ trivial trivial) mixed Go.Proofs.Try.func19 (c := Go.Proofs.Try.f19.body.getD .skip) (by kernel_rfl) (Nat.le_of_ble_eq_true (by kernel_rfl)) fun xs r hr => ?_
  obtain ⟨a0, a1, _⟩ := xs
  obtain ⟨N, hN⟩ := h _ _ r hr
  exact ⟨N, A19 c_impl_NetOk c_impl_isWire c_impl_PutWire N, L19 c_impl_NetOk c_impl_isWire c_impl_PutWire A N, (K19 c_impl_NetOk c_impl_isWire c_impl_PutWire A N a0 a1).trans hN⟩
theorem X19 {A : Option (Nat × Obj)} : ContractA Go.Proofs.Try.prog A 19 ⟨[net, fault], (.tup net .bool), e_impl_ApplyFault⟩ := C19 X27 X40 X41 fun _ _ _ h => ⟨N0, h⟩
-- impl_AllFaults
def E17 (c_impl_NetOk : ((Int × Int × Int × List (Int × Int × Int)) × Unit → Option Bool)) (c_impl_ApplyFault : ((Int × Int × Int × List (Int × Int × Int)) × (Int × Int) × Unit → Option ((Int × Int × Int × List (Int × Int × Int)) × Bool))) (A : Option (Nat × Obj)) : Env := ⟨tys, [], [(27, ⟨[net], .bool, c_impl_NetOk⟩), (19, ⟨[net, fault], (.tup net .bool), c_impl_ApplyFault⟩)], [], [], A, []⟩
def A17 (c_impl_NetOk : ((Int × Int × Int × List (Int × Int × Int)) × Unit → Option Bool)) (c_impl_ApplyFault : ((Int × Int × Int × List (Int × Int × Int)) × (Int × Int) × Unit → Option ((Int × Int × Int × List (Int × Int × Int)) × Bool))) (N : Nat) : List (Nat × Loop (Ty.den (.slice fault))) := [(0, ⟨[(1, .box false (.pair (.num .i64) (.pair (.num .i64) (.pair (.num .i64) (.slice (.pair (.num .i64) (.pair (.num .i64) (.num .i64)))))))), (3, .own (.slice (.pair (.num .i64) (.num .i64)))), (15, .ro none (.num .i64)), (16, .ro none (.num .i64))], r_impl_AllFaults_L0 c_impl_NetOk c_impl_ApplyFault N⟩), (2, ⟨[(1, .box false (.pair (.num .i64) (.pair (.num .i64) (.pair (.num .i64) (.slice (.pair (.num .i64) (.pair (.num .i64) (.num .i64)))))))), (3, .own (.slice (.pair (.num .i64) (.num .i64)))), (4, .ro none (.num .i64)), (15, .ro none (.num .i64)), (16, .ro none (.num .i64)), (19, .ro none (.num .i64))], r_impl_AllFaults_L2 c_impl_NetOk c_impl_ApplyFault N⟩)]
theorem K17 (c_impl_NetOk : ((Int × Int × Int × List (Int × Int × Int)) × Unit → Option Bool)) (c_impl_ApplyFault : ((Int × Int × Int × List (Int × Int × Int)) × (Int × Int) × Unit → Option ((Int × Int × Int × List (Int × Int × Int)) × Bool))) (A : Option (Nat × Obj)) (N : Nat) (a0 : (Int × Int × Int × List (Int × Int × Int))) : fnK N (E17 c_impl_NetOk c_impl_ApplyFault A) Go.Proofs.Try.f17 [net] (.slice fault) (A17 c_impl_NetOk c_impl_ApplyFault N) (a0, ()) = r_impl_AllFaults c_impl_NetOk c_impl_ApplyFault N a0 := by kernel_rfl
theorem L17 (c_impl_NetOk : ((Int × Int × Int × List (Int × Int × Int)) × Unit → Option Bool)) (c_impl_ApplyFault : ((Int × Int × Int × List (Int × Int × Int)) × (Int × Int) × Unit → Option ((Int × Int × Int × List (Int × Int × Int)) × Bool))) (A : Option (Nat × Obj)) (N : Nat) : LoopsOk N (E17 c_impl_NetOk c_impl_ApplyFault A) (A17 c_impl_NetOk c_impl_ApplyFault N) Go.Proofs.Try.f17.ntmps (retOf (E17 c_impl_NetOk c_impl_ApplyFault A) Go.Proofs.Try.f17 (.slice fault)) (loopsOf (Go.Proofs.Try.f17.body.getD .skip)) :=
  LoopsOk.of (l := [(0, lb Go.Proofs.Try.f17 0), (2, lb Go.Proofs.Try.f17 1)]) (by kernel_rfl) (.cons (L := ⟨[(1, .box false (.pair (.num .i64) (.pair (.num .i64) (.pair (.num .i64) (.slice (.pair (.num .i64) (.pair (.num .i64) (.num .i64)))))))), (3, .own (.slice (.pair (.num .i64) (.num .i64)))), (15, .ro none (.num .i64)), (16, .ro none (.num .i64))], r_impl_AllFaults_L0 c_impl_NetOk c_impl_ApplyFault N⟩) (by kernel_rfl) (by intro s kc ke env; kernel_rfl) (.cons (L := ⟨[(1, .box false (.pair (.num .i64) (.pair (.num .i64) (.pair (.num .i64) (.slice (.pair (.num .i64) (.pair (.num .i64) (.num .i64)))))))), (3, .own (.slice (.pair (.num .i64) (.num .i64)))), (4, .ro none (.num .i64)), (15, .ro none (.num .i64)), (16, .ro none (.num .i64)), (19, .ro none (.num .i64))], r_impl_AllFaults_L2 c_impl_NetOk c_impl_ApplyFault N⟩) (by kernel_rfl) (by intro s kc ke env; kernel_rfl) .nil))
theorem There17 : There Go.Proofs.Try.prog 17 := ⟨_, Go.Proofs.Try.func17, by kernel_rfl, by kernel_rfl⟩
theorem C17 {A : Option (Nat × Obj)} {c_impl_NetOk : ((Int × Int × Int × List (Int × Int × Int)) × Unit → Option Bool)} {c_impl_ApplyFault : ((Int × Int × Int × List (Int × Int × Int)) × (Int × Int) × Unit → Option ((Int × Int × Int × List (Int × Int × Int)) × Bool))} (h_c_impl_NetOk : ContractA Go.Proofs.Try.prog A 27 ⟨[net], .bool, c_impl_NetOk⟩) (h_c_impl_ApplyFault : ContractA Go.Proofs.Try.prog A 19 ⟨[net, fault], (.tup net .bool), c_impl_ApplyFault⟩) {f : ((Int × Int × Int × List (Int × Int × Int)) × Unit → Option (List (Int × Int)))} (h : ∀ a0 r, f (a0, ()) = some r → ∃ N, r_impl_AllFaults c_impl_NetOk c_impl_ApplyFault N a0 = some r) : ContractA Go.Proofs.Try.prog A 17 ⟨[net], (.slice fault), f⟩ := by
  refine contract (E := (E17 c_impl_NetOk c_impl_ApplyFault A)) (envOf table ⟨⟨h_c_impl_NetOk, There27⟩, ⟨⟨h_c_impl_ApplyFault, There19⟩, trivial⟩⟩ trivial trivial) mixed Go.Proofs.Try.func17 (c := Go.Proofs.Try.f17.body.getD .skip) (by kernel_rfl) (Nat.le_of_ble_eq_true (by kernel_rfl)) fun xs r hr => ?_
  obtain ⟨a0, _⟩ := xs
  obtain ⟨N, hN⟩ := h _ r hr
  exact ⟨N, A17 c_impl_NetOk c_impl_ApplyFault N, L17 c_impl_NetOk c_impl_ApplyFault A N, (K17 c_impl_NetOk c_impl_ApplyFault A N a0).trans hN⟩
theorem X17 {A : Option (Nat × Obj)} : ContractA Go.Proofs.Try.prog A 17 ⟨[net], (.slice fault), e_impl_AllFaults⟩ := C17 X27 X19 fun _ _ h => ⟨N0, h⟩
-- impl_after
def E47 (c_impl_ApplyFault : ((Int × Int × Int × List (Int × Int × Int)) × (Int × Int) × Unit → Option ((Int × Int × Int × List (Int × Int × Int)) × Bool))) (c_impl_ResponseOf : ((Int × Int × Int × List (Int × Int × Int)) × Unit → Option ((List (List (Int × Int))) × Bool))) (A : Option (Nat × Obj)) : Env := ⟨tys, [], [(19, ⟨[net, fault], (.tup net .bool), c_impl_ApplyFault⟩), (20, ⟨[net], (.tup (.slice (.slice ratio)) .bool), c_impl_ResponseOf⟩)], [], [], A, []⟩
def A47 (_c_impl_ApplyFault : ((Int × Int × Int × List (Int × Int × Int)) × (Int × Int) × Unit → Option ((Int × Int × Int × List (Int × Int × Int)) × Bool))) (_c_impl_ResponseOf : ((Int × Int × Int × List (Int × Int × Int)) × Unit → Option ((List (List (Int × Int))) × Bool))) (_N : Nat) : List (Nat × Loop (Ty.den (.slice (.slice ratio)))) := []
theorem K47 (c_impl_ApplyFault : ((Int × Int × Int × List (Int × Int × Int)) × (Int × Int) × Unit → Option ((Int × Int × Int × List (Int × Int × Int)) × Bool))) (c_impl_ResponseOf : ((Int × Int × Int × List (Int × Int × Int)) × Unit → Option ((List (List (Int × Int))) × Bool))) (A : Option (Nat × Obj)) (N : Nat) (a0 : (Int × Int × Int × List (Int × Int × Int))) (a1 : (Int × Int)) : fnK N (E47 c_impl_ApplyFault c_impl_ResponseOf A) Go.Proofs.Try.f47 [net, fault] (.slice (.slice ratio)) (A47 c_impl_ApplyFault c_impl_ResponseOf N) (a0, a1, ()) = r_impl_after c_impl_ApplyFault c_impl_ResponseOf N a0 a1 := by kernel_rfl
theorem L47 (c_impl_ApplyFault : ((Int × Int × Int × List (Int × Int × Int)) × (Int × Int) × Unit → Option ((Int × Int × Int × List (Int × Int × Int)) × Bool))) (c_impl_ResponseOf : ((Int × Int × Int × List (Int × Int × Int)) × Unit → Option ((List (List (Int × Int))) × Bool))) (A : Option (Nat × Obj)) (N : Nat) : LoopsOk N (E47 c_impl_ApplyFault c_impl_ResponseOf A) (A47 c_impl_ApplyFault c_impl_ResponseOf N) Go.Proofs.Try.f47.ntmps (retOf (E47 c_impl_ApplyFault c_impl_ResponseOf A) Go.Proofs.Try.f47 (.slice (.slice ratio))) (loopsOf (Go.Proofs.Try.f47.body.getD .skip)) :=
  LoopsOk.of (l := []) (by kernel_rfl) .nil
theorem There47 : There Go.Proofs.Try.prog 47 := ⟨_, Go.Proofs.Try.func47, by kernel_rfl, by kernel_rfl⟩
theorem C47 {A : Option (Nat × Obj)} {c_impl_ApplyFault : ((Int × Int × Int × List (Int × Int × Int)) × (Int × Int) × Unit → Option ((Int × Int × Int × List (Int × Int × Int)) × Bool))} {c_impl_ResponseOf : ((Int × Int × Int × List (Int × Int × Int)) × Unit → Option ((List (List (Int × Int))) × Bool))} (h_c_impl_ApplyFault : ContractA Go.Proofs.Try.prog A 19 ⟨[net, fault], (.tup net .bool), c_impl_ApplyFault⟩) (h_c_impl_ResponseOf : ContractA Go.Proofs.Try.prog A 20 ⟨[net], (.tup (.slice (.slice ratio)) .bool), c_impl_ResponseOf⟩) {f : ((Int × Int × Int × List (Int × Int × Int)) × (Int × Int) × Unit → Option (List (List (Int × Int))))} (h : ∀ a0 a1 r, f (a0, a1, ()) = some r → ∃ N, r_impl_after c_impl_ApplyFault c_impl_ResponseOf N a0 a1 = some r) : ContractA Go.Proofs.Try.prog A 47 ⟨[net, fault], (.slice (.slice ratio)), f⟩ := by
  refine contract (E := (E47 c_impl_ApplyFault c_impl_ResponseOf A)) (envOf table ⟨⟨h_c_impl_ApplyFault, There19⟩, ⟨⟨h_c_impl_ResponseOf, There20⟩, trivial⟩⟩ trivial trivial) mixed Go.Proofs.Try.func47 (c := Go.Proofs.Try.f47.body.getD .skip) (by kernel_rfl) (Nat.le_of_ble_eq_true (by kernel_rfl)) fun xs r hr => ?_
  obtain ⟨a0, a1, _⟩ := xs
  obtain ⟨N, hN⟩ := h _ _ r hr
  exact ⟨N, A47 c_impl_ApplyFault c_impl_ResponseOf N, L47 c_impl_ApplyFault c_impl_ResponseOf A N, (K47 c_impl_ApplyFault c_impl_ResponseOf A N a0 a1).trans hN⟩
theorem X47 {A : Option (Nat × Obj)} : ContractA Go.Proofs.Try.prog A 47 ⟨[net, fault], (.slice (.slice ratio)), e_impl_after⟩ := C47 X19 X20 fun _ _ _ h => ⟨N0, h⟩
-- slices_Equal_impl_Ratio
def E67 (A : Option (Nat × Obj)) : Env := ⟨tys, [], [], [], [], A, []⟩
def A67 (N : Nat) : List (Nat × Loop (Ty.den .bool)) := [(0, ⟨[(0, .ro none (.slice (.pair (.num .i64) (.num .i64)))), (1, .ro none (.slice (.pair (.num .i64) (.num .i64)))), (12, .ro none (.num .i64)), (13, .ro none (.num .i64))], r_slices_Equal_impl_Ratio_L0 N⟩)]
theorem K67 (A : Option (Nat × Obj)) (N : Nat) (a0 : (List (Int × Int))) (a1 : (List (Int × Int))) : fnK N (E67 A) Go.Proofs.Try.f67 [(.slice ratio), (.slice ratio)] .bool (A67 N) (a0, a1, ()) = r_slices_Equal_impl_Ratio N a0 a1 := by kernel_rfl
theorem L67 (A : Option (Nat × Obj)) (N : Nat) : LoopsOk N (E67 A) (A67 N) Go.Proofs.Try.f67.ntmps (retOf (E67 A) Go.Proofs.Try.f67 .bool) (loopsOf (Go.Proofs.Try.f67.body.getD .skip)) :=
  LoopsOk.of (l := [(0, lb Go.Proofs.Try.f67 0)]) (by kernel_rfl) (.cons (L := ⟨[(0, .ro none (.slice (.pair (.num .i64) (.num .i64)))), (1, .ro none (.slice (.pair (.num .i64) (.num .i64)))), (12, .ro none (.num .i64)), (13, .ro none (.num .i64))], r_slices_Equal_impl_Ratio_L0 N⟩) (by kernel_rfl) (by intro s kc ke env; kernel_rfl) .nil)
theorem There67 : There Go.Proofs.Try.prog 67 := ⟨_, Go.Proofs.Try.func67, by kernel_rfl, by kernel_rfl⟩
theorem C67 {A : Option (Nat × Obj)} {f : ((List (Int × Int)) × (List (Int × Int)) × Unit → Option Bool)} (h : ∀ a0 a1 r, f (a0, a1, ()) = some r → ∃ N, r_slices_Equal_impl_Ratio N a0 a1 = some r) : ContractA Go.Proofs.Try.prog A 67 ⟨[(.slice ratio), (.slice ratio)], .bool, f⟩ := by
  refine contract (E := (E67 A)) (envOf table trivial trivial trivial) mixed Go.Proofs.Try.func67 (c := Go.Proofs.Try.f67.body.getD .skip) (by kernel_rfl) (Nat.le_of_ble_eq_true (by kernel_rfl)) fun xs r hr => ?_
  obtain ⟨a0, a1, _⟩ := xs
  obtain ⟨N, hN⟩ := h _ _ r hr
  exact ⟨N, A67 N, L67 A N, (K67 A N a0 a1).trans hN⟩
theorem X67 {A : Option (Nat × Obj)} : ContractA Go.Proofs.Try.prog A 67 ⟨[(.slice ratio), (.slice ratio)], .bool, e_slices_Equal_impl_Ratio⟩ := C67 fun _ _ _ h => ⟨N0, h⟩
-- impl_SameResponse_1
def E66 (c_slices_Equal_impl_Ratio : ((List (Int × Int)) × (List (Int × Int)) × Unit → Option Bool)) (A : Option (Nat × Obj)) : Env := ⟨tys, [], [(67, ⟨[(.slice ratio), (.slice ratio)], .bool, c_slices_Equal_impl_Ratio⟩)], [], [], A, []⟩
def A66 (_c_slices_Equal_impl_Ratio : ((List (Int × Int)) × (List (Int × Int)) × Unit → Option Bool)) (_N : Nat) : List (Nat × Loop (Ty.den .bool)) := []
theorem K66 (c_slices_Equal_impl_Ratio : ((List (Int × Int)) × (List (Int × Int)) × Unit → Option Bool)) (A : Option (Nat × Obj)) (N : Nat) (a0 : (List (Int × Int))) (a1 : (List (Int × Int))) : fnK N (E66 c_slices_Equal_impl_Ratio A) Go.Proofs.Try.f66 [(.slice ratio), (.slice ratio)] .bool (A66 c_slices_Equal_impl_Ratio N) (a0, a1, ()) = r_impl_SameResponse_1 c_slices_Equal_impl_Ratio N a0 a1 := by kernel_rfl
theorem L66 (c_slices_Equal_impl_Ratio : ((List (Int × Int)) × (List (Int × Int)) × Unit → Option Bool)) (A : Option (Nat × Obj)) (N : Nat) : LoopsOk N (E66 c_slices_Equal_impl_Ratio A) (A66 c_slices_Equal_impl_Ratio N) Go.Proofs.Try.f66.ntmps (retOf (E66 c_slices_Equal_impl_Ratio A) Go.Proofs.Try.f66 .bool) (loopsOf (Go.Proofs.Try.f66.body.getD .skip)) :=
  LoopsOk.of (l := []) (by kernel_rfl) .nil
theorem There66 : There Go.Proofs.Try.prog 66 := ⟨_, Go.Proofs.Try.func66, by kernel_rfl, by kernel_rfl⟩
theorem C66 {A : Option (Nat × Obj)} {c_slices_Equal_impl_Ratio : ((List (Int × Int)) × (List (Int × Int)) × Unit → Option Bool)} (h_c_slices_Equal_impl_Ratio : ContractA Go.Proofs.Try.prog A 67 ⟨[(.slice ratio), (.slice ratio)], .bool, c_slices_Equal_impl_Ratio⟩) {f : ((List (Int × Int)) × (List (Int × Int)) × Unit → Option Bool)} (h : ∀ a0 a1 r, f (a0, a1, ()) = some r → ∃ N, r_impl_SameResponse_1 c_slices_Equal_impl_Ratio N a0 a1 = some r) : ContractA Go.Proofs.Try.prog A 66 ⟨[(.slice ratio), (.slice ratio)], .bool, f⟩ := by
  refine contract (E := (E66 c_slices_Equal_impl_Ratio A)) (envOf table ⟨⟨h_c_slices_Equal_impl_Ratio, There67⟩, trivial⟩ trivial trivial) mixed Go.Proofs.Try.func66 (c := Go.Proofs.Try.f66.body.getD .skip) (by kernel_rfl) (Nat.le_of_ble_eq_true (by kernel_rfl)) fun xs r hr => ?_
  obtain ⟨a0, a1, _⟩ := xs
  obtain ⟨N, hN⟩ := h _ _ r hr
  exact ⟨N, A66 c_slices_Equal_impl_Ratio N, L66 c_slices_Equal_impl_Ratio A N, (K66 c_slices_Equal_impl_Ratio A N a0 a1).trans hN⟩
theorem X66 {A : Option (Nat × Obj)} : ContractA Go.Proofs.Try.prog A 66 ⟨[(.slice ratio), (.slice ratio)], .bool, e_impl_SameResponse_1⟩ := C66 X67 fun _ _ _ h => ⟨N0, h⟩
-- slices_EqualFunc_Simpl_Ratio
def E65 (c_impl_SameResponse_1 : ((List (Int × Int)) × (List (Int × Int)) × Unit → Option Bool)) (A : Option (Nat × Obj)) : Env := ⟨tys, [], [(66, ⟨[(.slice ratio), (.slice ratio)], .bool, c_impl_SameResponse_1⟩)], [], [], A, []⟩
def A65 (c_impl_SameResponse_1 : ((List (Int × Int)) × (List (Int × Int)) × Unit → Option Bool)) (N : Nat) : List (Nat × Loop (Ty.den .bool)) := [(0, ⟨[(1, .ro none (.slice (.slice (.pair (.num .i64) (.num .i64))))), (2, .ro none (.fn 66)), (15, .ro none (.slice (.slice (.pair (.num .i64) (.num .i64))))), (16, .ro none (.num .i64)), (17, .ro none (.num .i64))], r_slices_EqualFunc_Simpl_Ratio_L0 c_impl_SameResponse_1 N⟩)]
theorem K65 (c_impl_SameResponse_1 : ((List (Int × Int)) × (List (Int × Int)) × Unit → Option Bool)) (A : Option (Nat × Obj)) (N : Nat) (a0 : (List (List (Int × Int)))) (a1 : (List (List (Int × Int)))) (a2 : Unit) : fnK N (E65 c_impl_SameResponse_1 A) Go.Proofs.Try.f65 [(.slice (.slice ratio)), (.slice (.slice ratio)), (.fn 66)] .bool (A65 c_impl_SameResponse_1 N) (a0, a1, a2, ()) = r_slices_EqualFunc_Simpl_Ratio c_impl_SameResponse_1 N a0 a1 a2 := by kernel_rfl
theorem L65 (c_impl_SameResponse_1 : ((List (Int × Int)) × (List (Int × Int)) × Unit → Option Bool)) (A : Option (Nat × Obj)) (N : Nat) : LoopsOk N (E65 c_impl_SameResponse_1 A) (A65 c_impl_SameResponse_1 N) Go.Proofs.Try.f65.ntmps (retOf (E65 c_impl_SameResponse_1 A) Go.Proofs.Try.f65 .bool) (loopsOf (Go.Proofs.Try.f65.body.getD .skip)) :=
  LoopsOk.of (l := [(0, lb Go.Proofs.Try.f65 0)]) (by kernel_rfl) (.cons (L := ⟨[(1, .ro none (.slice (.slice (.pair (.num .i64) (.num .i64))))), (2, .ro none (.fn 66)), (15, .ro none (.slice (.slice (.pair (.num .i64) (.num .i64))))), (16, .ro none (.num .i64)), (17, .ro none (.num .i64))], r_slices_EqualFunc_Simpl_Ratio_L0 c_impl_SameResponse_1 N⟩) (by kernel_rfl) (by intro s kc ke env; kernel_rfl) .nil)
theorem There65 : There Go.Proofs.Try.prog 65 := ⟨_, Go.Proofs.Try.func65, by kernel_rfl, by kernel_rfl⟩
theorem C65 {A : Option (Nat × Obj)} {c_impl_SameResponse_1 : ((List (Int × Int)) × (List (Int × Int)) × Unit → Option Bool)} (h_c_impl_SameResponse_1 : ContractA Go.Proofs.Try.prog A 66 ⟨[(.slice ratio), (.slice ratio)], .bool, c_impl_SameResponse_1⟩) {f : ((List (List (Int × Int))) × (List (List (Int × Int))) × Unit × Unit → Option Bool)} (h : ∀ a0 a1 a2 r, f (a0, a1, a2, ()) = some r → ∃ N, r_slices_EqualFunc_Simpl_Ratio c_impl_SameResponse_1 N a0 a1 a2 = some r) : ContractA Go.Proofs.Try.prog A 65 ⟨[(.slice (.slice ratio)), (.slice (.slice ratio)), (.fn 66)], .bool, f⟩ := by
  refine contract (E := (E65 c_impl_SameResponse_1 A)) (envOf table ⟨⟨h_c_impl_SameResponse_1, There66⟩, trivial⟩ trivial trivial) mixed Go.Proofs.Try.func65 (c := Go.Proofs.Try.f65.body.getD .skip) (by kernel_rfl) (Nat.le_of_ble_eq_true (by kernel_rfl)) fun xs r hr => ?_
  obtain ⟨a0, a1, a2, _⟩ := xs
  obtain ⟨N, hN⟩ := h _ _ _ r hr
  exact ⟨N, A65 c_impl_SameResponse_1 N, L65 c_impl_SameResponse_1 A N, (K65 c_impl_SameResponse_1 A N a0 a1 a2).trans hN⟩
theorem X65 {A : Option (Nat × Obj)} : ContractA Go.Proofs.Try.prog A 65 ⟨[(.slice (.slice ratio)), (.slice (.slice ratio)), (.fn 66)], .bool, e_slices_EqualFunc_Simpl_Ratio⟩ := C65 X66 fun _ _ _ _ h => ⟨N0, h⟩
-- impl_SameResponse
def E46 (c_slices_EqualFunc_Simpl_Ratio : ((List (List (Int × Int))) × (List (List (Int × Int))) × Unit × Unit → Option Bool)) (A : Option (Nat × Obj)) : Env := ⟨tys, [], [(65, ⟨[(.slice (.slice ratio)), (.slice (.slice ratio)), (.fn 66)], .bool, c_slices_EqualFunc_Simpl_Ratio⟩)], [], [], A, []⟩
def A46 (_c_slices_EqualFunc_Simpl_Ratio : ((List (List (Int × Int))) × (List (List (Int × Int))) × Unit × Unit → Option Bool)) (_N : Nat) : List (Nat × Loop (Ty.den .bool)) := []
theorem K46 (c_slices_EqualFunc_Simpl_Ratio : ((List (List (Int × Int))) × (List (List (Int × Int))) × Unit × Unit → Option Bool)) (A : Option (Nat × Obj)) (N : Nat) (a0 : (List (List (Int × Int)))) (a1 : (List (List (Int × Int)))) : fnK N (E46 c_slices_EqualFunc_Simpl_Ratio A) Go.Proofs.Try.f46 [(.slice (.slice ratio)), (.slice (.slice ratio))] .bool (A46 c_slices_EqualFunc_Simpl_Ratio N) (a0, a1, ()) = r_impl_SameResponse c_slices_EqualFunc_Simpl_Ratio N a0 a1 := by kernel_rfl
theorem L46 (c_slices_EqualFunc_Simpl_Ratio : ((List (List (Int × Int))) × (List (List (Int × Int))) × Unit × Unit → Option Bool)) (A : Option (Nat × Obj)) (N : Nat) : LoopsOk N (E46 c_slices_EqualFunc_Simpl_Ratio A) (A46 c_slices_EqualFunc_Simpl_Ratio N) Go.Proofs.Try.f46.ntmps (retOf (E46 c_slices_EqualFunc_Simpl_Ratio A) Go.Proofs.Try.f46 .bool) (loopsOf (Go.Proofs.Try.f46.body.getD .skip)) :=
  LoopsOk.of (l := []) (by kernel_rfl) .nil
theorem There46 : There Go.Proofs.Try.prog 46 := ⟨_, Go.Proofs.Try.func46, by kernel_rfl, by kernel_rfl⟩
theorem C46 {A : Option (Nat × Obj)} {c_slices_EqualFunc_Simpl_Ratio : ((List (List (Int × Int))) × (List (List (Int × Int))) × Unit × Unit → Option Bool)} (h_c_slices_EqualFunc_Simpl_Ratio : ContractA Go.Proofs.Try.prog A 65 ⟨[(.slice (.slice ratio)), (.slice (.slice ratio)), (.fn 66)], .bool, c_slices_EqualFunc_Simpl_Ratio⟩) {f : ((List (List (Int × Int))) × (List (List (Int × Int))) × Unit → Option Bool)} (h : ∀ a0 a1 r, f (a0, a1, ()) = some r → ∃ N, r_impl_SameResponse c_slices_EqualFunc_Simpl_Ratio N a0 a1 = some r) : ContractA Go.Proofs.Try.prog A 46 ⟨[(.slice (.slice ratio)), (.slice (.slice ratio))], .bool, f⟩ := by
  refine contract (E := (E46 c_slices_EqualFunc_Simpl_Ratio A)) (envOf table ⟨⟨h_c_slices_EqualFunc_Simpl_Ratio, There65⟩, trivial⟩ trivial trivial) mixed Go.Proofs.Try.func46 (c := Go.Proofs.Try.f46.body.getD .skip) (by kernel_rfl) (Nat.le_of_ble_eq_true (by kernel_rfl)) fun xs r hr => ?_
  obtain ⟨a0, a1, _⟩ := xs
  obtain ⟨N, hN⟩ := h _ _ r hr
  exact ⟨N, A46 c_slices_EqualFunc_Simpl_Ratio N, L46 c_slices_EqualFunc_Simpl_Ratio A N, (K46 c_slices_EqualFunc_Simpl_Ratio A N a0 a1).trans hN⟩
theorem X46 {A : Option (Nat × Obj)} : ContractA Go.Proofs.Try.prog A 46 ⟨[(.slice (.slice ratio)), (.slice (.slice ratio))], .bool, e_impl_SameResponse⟩ := C46 X65 fun _ _ _ h => ⟨N0, h⟩
-- impl_CanLocate
def E26 (c_impl_NetOk : ((Int × Int × Int × List (Int × Int × Int)) × Unit → Option Bool)) (c_impl_isWire : ((Int × Int × Int × List (Int × Int × Int)) × Int × Unit → Option Bool)) (c_impl_ResponseOf : ((Int × Int × Int × List (Int × Int × Int)) × Unit → Option ((List (List (Int × Int))) × Bool))) (c_impl_AllFaults : ((Int × Int × Int × List (Int × Int × Int)) × Unit → Option (List (Int × Int)))) (c_impl_after : ((Int × Int × Int × List (Int × Int × Int)) × (Int × Int) × Unit → Option (List (List (Int × Int))))) (c_impl_SameResponse : ((List (List (Int × Int))) × (List (List (Int × Int))) × Unit → Option Bool)) (A : Option (Nat × Obj)) : Env := ⟨tys, [], [(27, ⟨[net], .bool, c_impl_NetOk⟩), (40, ⟨[net, int], .bool, c_impl_isWire⟩), (20, ⟨[net], (.tup (.slice (.slice ratio)) .bool), c_impl_ResponseOf⟩), (17, ⟨[net], (.slice fault), c_impl_AllFaults⟩), (47, ⟨[net, fault], (.slice (.slice ratio)), c_impl_after⟩), (46, ⟨[(.slice (.slice ratio)), (.slice (.slice ratio))], .bool, c_impl_SameResponse⟩)], [], [], A, []⟩
def A26 (c_impl_NetOk : ((Int × Int × Int × List (Int × Int × Int)) × Unit → Option Bool)) (c_impl_isWire : ((Int × Int × Int × List (Int × Int × Int)) × Int × Unit → Option Bool)) (c_impl_ResponseOf : ((Int × Int × Int × List (Int × Int × Int)) × Unit → Option ((List (List (Int × Int))) × Bool))) (c_impl_AllFaults : ((Int × Int × Int × List (Int × Int × Int)) × Unit → Option (List (Int × Int)))) (c_impl_after : ((Int × Int × Int × List (Int × Int × Int)) × (Int × Int) × Unit → Option (List (List (Int × Int))))) (c_impl_SameResponse : ((List (List (Int × Int))) × (List (List (Int × Int))) × Unit → Option Bool)) (N : Nat) : List (Nat × Loop (Ty.den .bool)) := [(0, ⟨[(1, .ro none (.num .i64)), (2, .box false (.pair (.num .i64) (.pair (.num .i64) (.pair (.num .i64) (.slice (.pair (.num .i64) (.pair (.num .i64) (.num .i64)))))))), (5, .own (.slice (.slice (.pair (.num .i64) (.num .i64))))), (7, .ro none (.num .i64)), (8, .own (.slice (.pair (.num .i64) (.num .i64)))), (30, .ro (some 8) (.slice (.pair (.num .i64) (.num .i64)))), (31, .ro none (.num .i64)), (32, .ro none (.num .i64))], r_impl_CanLocate_L0 c_impl_NetOk c_impl_isWire c_impl_ResponseOf c_impl_AllFaults c_impl_after c_impl_SameResponse N⟩), (2, ⟨[(1, .ro none (.num .i64)), (2, .box false (.pair (.num .i64) (.pair (.num .i64) (.pair (.num .i64) (.slice (.pair (.num .i64) (.pair (.num .i64) (.num .i64)))))))), (5, .own (.slice (.slice (.pair (.num .i64) (.num .i64))))), (7, .ro none (.num .i64)), (8, .own (.slice (.pair (.num .i64) (.num .i64)))), (11, .own (.slice (.slice (.pair (.num .i64) (.num .i64))))), (30, .ro (some 8) (.slice (.pair (.num .i64) (.num .i64)))), (31, .ro none (.num .i64)), (32, .ro none (.num .i64)), (48, .ro (some 8) (.slice (.pair (.num .i64) (.num .i64)))), (49, .ro none (.num .i64)), (50, .ro none (.num .i64))], r_impl_CanLocate_L2 c_impl_NetOk c_impl_isWire c_impl_ResponseOf c_impl_AllFaults c_impl_after c_impl_SameResponse N⟩)]
theorem K26 (c_impl_NetOk : ((Int × Int × Int × List (Int × Int × Int)) × Unit → Option Bool)) (c_impl_isWire : ((Int × Int × Int × List (Int × Int × Int)) × Int × Unit → Option Bool)) (c_impl_ResponseOf : ((Int × Int × Int × List (Int × Int × Int)) × Unit → Option ((List (List (Int × Int))) × Bool))) (c_impl_AllFaults : ((Int × Int × Int × List (Int × Int × Int)) × Unit → Option (List (Int × Int)))) (c_impl_after : ((Int × Int × Int × List (Int × Int × Int)) × (Int × Int) × Unit → Option (List (List (Int × Int))))) (c_impl_SameResponse : ((List (List (Int × Int))) × (List (List (Int × Int))) × Unit → Option Bool)) (A : Option (Nat × Obj)) (N : Nat) (a0 : (Int × Int × Int × List (Int × Int × Int))) (a1 : Int) : fnK N (E26 c_impl_NetOk c_impl_isWire c_impl_ResponseOf c_impl_AllFaults c_impl_after c_impl_SameResponse A) Go.Proofs.Try.f26 [net, int] .bool (A26 c_impl_NetOk c_impl_isWire c_impl_ResponseOf c_impl_AllFaults c_impl_after c_impl_SameResponse N) (a0, a1, ()) = r_impl_CanLocate c_impl_NetOk c_impl_isWire c_impl_ResponseOf c_impl_AllFaults c_impl_after c_impl_SameResponse N a0 a1 := by kernel_rfl
theorem L26 (c_impl_NetOk : ((Int × Int × Int × List (Int × Int × Int)) × Unit → Option Bool)) (c_impl_isWire : ((Int × Int × Int × List (Int × Int × Int)) × Int × Unit → Option Bool)) (c_impl_ResponseOf : ((Int × Int × Int × List (Int × Int × Int)) × Unit → Option ((List (List (Int × Int))) × Bool))) (c_impl_AllFaults : ((Int × Int × Int × List (Int × Int × Int)) × Unit → Option (List (Int × Int)))) (c_impl_after : ((Int × Int × Int × List (Int × Int × Int)) × (Int × Int) × Unit → Option (List (List (Int × Int))))) (c_impl_SameResponse : ((List (List (Int × Int))) × (List (List (Int × Int))) × Unit → Option Bool)) (A : Option (Nat × Obj)) (N : Nat) : LoopsOk N (E26 c_impl_NetOk c_impl_isWire c_impl_ResponseOf c_impl_AllFaults c_impl_after c_impl_SameResponse A) (A26 c_impl_NetOk c_impl_isWire c_impl_ResponseOf c_impl_AllFaults c_impl_after c_impl_SameResponse N) Go.Proofs.Try.f26.ntmps (retOf (E26 c_impl_NetOk c_impl_isWire c_impl_ResponseOf c_impl_AllFaults c_impl_after c_impl_SameResponse A) Go.Proofs.Try.f26 .bool) (loopsOf (Go.Proofs.Try.f26.body.getD .skip)) :=
  LoopsOk.of (l := [(0, lb Go.Proofs.Try.f26 0), (2, lb Go.Proofs.Try.f26 1)]) (by kernel_rfl) (.cons (L := ⟨[(1, .ro none (.num .i64)), (2, .box false (.pair (.num .i64) (.pair (.num .i64) (.pair (.num .i64) (.slice (.pair (.num .i64) (.pair (.num .i64) (.num .i64)))))))), (5, .own (.slice (.slice (.pair (.num .i64) (.num .i64))))), (7, .ro none (.num .i64)), (8, .own (.slice (.pair (.num .i64) (.num .i64)))), (30, .ro (some 8) (.slice (.pair (.num .i64) (.num .i64)))), (31, .ro none (.num .i64)), (32, .ro none (.num .i64))], r_impl_CanLocate_L0 c_impl_NetOk c_impl_isWire c_impl_ResponseOf c_impl_AllFaults c_impl_after c_impl_SameResponse N⟩) (by kernel_rfl) (by intro s kc ke env; kernel_rfl) (.cons (L := ⟨[(1, .ro none (.num .i64)), (2, .box false (.pair (.num .i64) (.pair (.num .i64) (.pair (.num .i64) (.slice (.pair (.num .i64) (.pair (.num .i64) (.num .i64)))))))), (5, .own (.slice (.slice (.pair (.num .i64) (.num .i64))))), (7, .ro none (.num .i64)), (8, .own (.slice (.pair (.num .i64) (.num .i64)))), (11, .own (.slice (.slice (.pair (.num .i64) (.num .i64))))), (30, .ro (some 8) (.slice (.pair (.num .i64) (.num .i64)))), (31, .ro none (.num .i64)), (32, .ro none (.num .i64)), (48, .ro (some 8) (.slice (.pair (.num .i64) (.num .i64)))), (49, .ro none (.num .i64)), (50, .ro none (.num .i64))], r_impl_CanLocate_L2 c_impl_NetOk c_impl_isWire c_impl_ResponseOf c_impl_AllFaults c_impl_after c_impl_SameResponse N⟩) (by kernel_rfl) (by intro s kc ke env; kernel_rfl) .nil))
theorem There26 : There Go.Proofs.Try.prog 26 := ⟨_, Go.Proofs.Try.func26, by kernel_rfl, by kernel_rfl⟩
theorem C26 {A : Option (Nat × Obj)} {c_impl_NetOk : ((Int × Int × Int × List (Int × Int × Int)) × Unit → Option Bool)} {c_impl_isWire : ((Int × Int × Int × List (Int × Int × Int)) × Int × Unit → Option Bool)} {c_impl_ResponseOf : ((Int × Int × Int × List (Int × Int × Int)) × Unit → Option ((List (List (Int × Int))) × Bool))} {c_impl_AllFaults : ((Int × Int × Int × List (Int × Int × Int)) × Unit → Option (List (Int × Int)))} {c_impl_after : ((Int × Int × Int × List (Int × Int × Int)) × (Int × Int) × Unit → Option (List (List (Int × Int))))} {c_impl_SameResponse : ((List (List (Int × Int))) × (List (List (Int × Int))) × Unit → Option Bool)} (h_c_impl_NetOk : ContractA Go.Proofs.Try.prog A 27 ⟨[net], .bool, c_impl_NetOk⟩) (h_c_impl_isWire : ContractA Go.Proofs.Try.prog A 40 ⟨[net, int], .bool, c_impl_isWire⟩) (h_c_impl_ResponseOf : ContractA Go.Proofs.Try.prog A 20 ⟨[net], (.tup (.slice (.slice ratio)) .bool), c_impl_ResponseOf⟩) (h_c_impl_AllFaults : ContractA Go.Proofs.Try.prog A 17 ⟨[net], (.slice fault), c_impl_AllFaults⟩) (h_c_impl_after : ContractA Go.Proofs.Try.prog A 47 ⟨[net, fault], (.slice (.slice ratio)), c_impl_after⟩) (h_c_impl_SameResponse : ContractA Go.Proofs.Try.prog A 46 ⟨[(.slice (.slice ratio)), (.slice (.slice ratio))], .bool, c_impl_SameResponse⟩) {f : ((Int × Int × Int × List (Int × Int × Int)) × Int × Unit → Option Bool)} (h : ∀ a0 a1 r, f (a0, a1, ()) = some r → ∃ N, r_impl_CanLocate c_impl_NetOk c_impl_isWire c_impl_ResponseOf c_impl_AllFaults c_impl_after c_impl_SameResponse N a0 a1 = some r) : ContractA Go.Proofs.Try.prog A 26 ⟨[net, int], .bool, f⟩ := by
  refine contract (E := (E26 c_impl_NetOk c_impl_isWire c_impl_ResponseOf c_impl_AllFaults c_impl_after c_impl_SameResponse A)) (envOf table ⟨⟨h_c_impl_NetOk, There27⟩, ⟨⟨h_c_impl_isWire, There40⟩, ⟨⟨h_c_impl_ResponseOf, There20⟩, ⟨⟨h_c_impl_AllFaults, There17⟩, ⟨⟨h_c_impl_after, There47⟩, ⟨⟨h_c_impl_SameResponse, There46⟩, trivial⟩⟩⟩⟩⟩⟩ trivial trivial) mixed Go.Proofs.Try.func26 (c := Go.Proofs.Try.f26.body.getD .skip) (by kernel_rfl) (Nat.le_of_ble_eq_true (by kernel_rfl)) fun xs r hr => ?_
  obtain ⟨a0, a1, _⟩ := xs
  obtain ⟨N, hN⟩ := h _ _ r hr
  exact ⟨N, A26 c_impl_NetOk c_impl_isWire c_impl_ResponseOf c_impl_AllFaults c_impl_after c_impl_SameResponse N, L26 c_impl_NetOk c_impl_isWire c_impl_ResponseOf c_impl_AllFaults c_impl_after c_impl_SameResponse A N, (K26 c_impl_NetOk c_impl_isWire c_impl_ResponseOf c_impl_AllFaults c_impl_after c_impl_SameResponse A N a0 a1).trans hN⟩
theorem X26 {A : Option (Nat × Obj)} : ContractA Go.Proofs.Try.prog A 26 ⟨[net, int], .bool, e_impl_CanLocate⟩ := C26 X27 X40 X20 X17 X47 X46 fun _ _ _ h => ⟨N0, h⟩
-- impl_AreAlike
def E22 (c_impl_ResponseOf : ((Int × Int × Int × List (Int × Int × Int)) × Unit → Option ((List (List (Int × Int))) × Bool))) (c_impl_SameResponse : ((List (List (Int × Int))) × (List (List (Int × Int))) × Unit → Option Bool)) (A : Option (Nat × Obj)) : Env := ⟨tys, [], [(20, ⟨[net], (.tup (.slice (.slice ratio)) .bool), c_impl_ResponseOf⟩), (46, ⟨[(.slice (.slice ratio)), (.slice (.slice ratio))], .bool, c_impl_SameResponse⟩)], [], [], A, []⟩
def A22 (_c_impl_ResponseOf : ((Int × Int × Int × List (Int × Int × Int)) × Unit → Option ((List (List (Int × Int))) × Bool))) (_c_impl_SameResponse : ((List (List (Int × Int))) × (List (List (Int × Int))) × Unit → Option Bool)) (_N : Nat) : List (Nat × Loop (Ty.den .bool)) := []
theorem K22 (c_impl_ResponseOf : ((Int × Int × Int × List (Int × Int × Int)) × Unit → Option ((List (List (Int × Int))) × Bool))) (c_impl_SameResponse : ((List (List (Int × Int))) × (List (List (Int × Int))) × Unit → Option Bool)) (A : Option (Nat × Obj)) (N : Nat) (a0 : (Int × Int × Int × List (Int × Int × Int))) (a1 : (Int × Int × Int × List (Int × Int × Int))) : fnK N (E22 c_impl_ResponseOf c_impl_SameResponse A) Go.Proofs.Try.f22 [net, net] .bool (A22 c_impl_ResponseOf c_impl_SameResponse N) (a0, a1, ()) = r_impl_AreAlike c_impl_ResponseOf c_impl_SameResponse N a0 a1 := by kernel_rfl
theorem L22 (c_impl_ResponseOf : ((Int × Int × Int × List (Int × Int × Int)) × Unit → Option ((List (List (Int × Int))) × Bool))) (c_impl_SameResponse : ((List (List (Int × Int))) × (List (List (Int × Int))) × Unit → Option Bool)) (A : Option (Nat × Obj)) (N : Nat) : LoopsOk N (E22 c_impl_ResponseOf c_impl_SameResponse A) (A22 c_impl_ResponseOf c_impl_SameResponse N) Go.Proofs.Try.f22.ntmps (retOf (E22 c_impl_ResponseOf c_impl_SameResponse A) Go.Proofs.Try.f22 .bool) (loopsOf (Go.Proofs.Try.f22.body.getD .skip)) :=
  LoopsOk.of (l := []) (by kernel_rfl) .nil
theorem There22 : There Go.Proofs.Try.prog 22 := ⟨_, Go.Proofs.Try.func22, by kernel_rfl, by kernel_rfl⟩
theorem C22 {A : Option (Nat × Obj)} {c_impl_ResponseOf : ((Int × Int × Int × List (Int × Int × Int)) × Unit → Option ((List (List (Int × Int))) × Bool))} {c_impl_SameResponse : ((List (List (Int × Int))) × (List (List (Int × Int))) × Unit → Option Bool)} (h_c_impl_ResponseOf : ContractA Go.Proofs.Try.prog A 20 ⟨[net], (.tup (.slice (.slice ratio)) .bool), c_impl_ResponseOf⟩) (h_c_impl_SameResponse : ContractA Go.Proofs.Try.prog A 46 ⟨[(.slice (.slice ratio)), (.slice (.slice ratio))], .bool, c_impl_SameResponse⟩) {f : ((Int × Int × Int × List (Int × Int × Int)) × (Int × Int × Int × List (Int × Int × Int)) × Unit → Option Bool)} (h : ∀ a0 a1 r, f (a0, a1, ()) = some r → ∃ N, r_impl_AreAlike c_impl_ResponseOf c_impl_SameResponse N a0 a1 = some r) : ContractA Go.Proofs.Try.prog A 22 ⟨[net, net], .bool, f⟩ := by
  refine contract (E := (E22 c_impl_ResponseOf c_impl_SameResponse A)) (envOf table ⟨⟨h_c_impl_ResponseOf, There20⟩, ⟨⟨h_c_impl_SameResponse, There46⟩, trivial⟩⟩ trivial trivial) mixed Go.Proofs.Try.func22 (c := Go.Proofs.Try.f22.body.getD .skip) (by kernel_rfl) (Nat.le_of_ble_eq_true (by kernel_rfl)) fun xs r hr => ?_
  obtain ⟨a0, a1, _⟩ := xs
  obtain ⟨N, hN⟩ := h _ _ r hr
  exact ⟨N, A22 c_impl_ResponseOf c_impl_SameResponse N, L22 c_impl_ResponseOf c_impl_SameResponse A N, (K22 c_impl_ResponseOf c_impl_SameResponse A N a0 a1).trans hN⟩
theorem X22 {A : Option (Nat × Obj)} : ContractA Go.Proofs.Try.prog A 22 ⟨[net, net], .bool, e_impl_AreAlike⟩ := C22 X20 X46 fun _ _ _ h => ⟨N0, h⟩
-- impl_FaultsLike
theorem There21 : There Go.Proofs.Try.prog 21 := ⟨_, Go.Proofs.Try.func21, by kernel_rfl, by kernel_rfl⟩
open Go.Proofs Go.RowKit
theorem enters99 : ∀ args w, (callFunc 45 args).run Go.Proofs.Try.prog w = .ok (.enter 45 args) w := enters_of Go.Proofs.Try.func45 (by kernel_rfl) rfl
set_option maxHeartbeats 2000000 in
theorem indexF (p : Int × Int → Bool) (lb : Array Value) (b off n c : Nat) (zs : List (Int × Int)) (w : World)
    (hp : ∀ (W : World) (x : Int × Int), x ∈ zs → Grow w W → Calls Go.Proofs.Try.prog 45 (#[.agg #[.int .i64 x.1, .int .i64 x.2]] ++ lb) W fun e w' => e = .returned (.bool (p x)) ∧ Grow w w') (hz : n ≤ zs.length) (hbig : n ≤ 9223372036854775807) (hb : b < w.heap.size)
    (hc : ∀ j, j < zs.length → w.cell? ⟨b, off + j * 2, none⟩ = some (.int .i64 zs[j]!.1) ∧ w.cell? ⟨b, off + j * 2 + 1, none⟩ = some (.int .i64 zs[j]!.2)) :
    Calls Go.Proofs.Try.prog 64 #[.slice (some ⟨b, off, none⟩) n c, .func (.func 45) #[] lb] w fun e w' => (∃ m : Int, e = .returned (.int .i64 m) ∧ ((m = -1 ∧ ∀ j, j < n → p zs[j]! = false) ∨ ∃ k : Nat, m = k ∧ k < n ∧ p zs[k]! = true ∧ ∀ j, j < k → p zs[j]! = false)) ∧ Grow w w' := by
  have eg := enters99
  have hrow : ∀ (W : World), Grow w W → ∀ j, j < zs.length → W.cell? ⟨b, off + j * 2, none⟩ = some (.int .i64 zs[j]!.1) ∧ W.cell? ⟨b, off + j * 2 + 1, none⟩ = some (.int .i64 zs[j]!.2) := fun W hW j hj => by
    have := hc j hj
    simp only [World.cell?, hW.same b hb]
    simpa only [World.cell?] using this
  clear hc
  go_enter Go.Proofs.Try.func64, Go.Proofs.Try.ntmps64
  go_wp2
  go_loopg [5, 8] n (fun gg _ s8 wr => ∃ kk : Nat, kk ≤ n ∧ n - kk ≤ gg ∧ s8 = .int .i64 kk ∧ Aside (Grow w wr) ∧ Aside (∀ j, j < kk → p zs[j]! = false))
  case atStart => exact ⟨0, Nat.zero_le _, by omega, rfl, Grow.refl w, fun j hj => absurd hj (Nat.not_lt_zero _)⟩
  case round =>
    obtain ⟨kk, hkk, hg, rfl, BW, A⟩ := hrel
    by_cases hlt : kk < n
    · have hltz : (kk : Int) < (n : Int) := by omega
      obtain ⟨l1, l2⟩ := hrow wr BW.out kk (by omega)
      have hcall := hp wr zs[kk]! (by rw [getElem!_pos zs kk (by omega)]; exact List.getElem_mem _) BW.out
      clear hrow hp
      generalize hy : zs[kk]! = y at l1 l2 hcall
      have B : Aside (zs[kk]! = y) := hy
      clear hy
      cases hq : p y with
      | true =>
        rw [hq] at hcall
        go_wp2_with (go_at_fn 45; refine hcall.mono ?_; rintro e w' ⟨rfl, hb'⟩)
        go_ret
        exact ⟨⟨kk, rfl, .inr ⟨kk, rfl, hlt, by rw [B.out]; exact hq, A.out⟩⟩, hb'⟩
      | false =>
        rw [hq] at hcall
        go_wp2_with (go_at_fn 45; refine hcall.mono ?_; rintro e w' ⟨rfl, hb'⟩)
        go_roundg (n - (kk + 1))
        case measure => omega
        case rel =>
          refine ⟨kk + 1, by omega, by omega, by go_num, hb', (show Aside _ from fun j hj => ?_)⟩
          by_cases e : j = kk
          · subst e
            rw [B.out]; exact hq
          · exact A.out j (by omega)
    · have hltz : ¬ (kk : Int) < (n : Int) := by omega
      have : kk = n := by omega
      subst this
      go_wp2
      go_ret
      exact ⟨⟨-1, rfl, .inl ⟨rfl, by simpa using A.out⟩⟩, BW.out⟩


theorem filter_same {p : Int × Int → Bool} {l : List (Int × Int)} (h : ∀ j, j < l.length → p l[j]! = false) : (l.filter fun x => !p x) = l := by
  rw [List.filter_eq_self]
  intro a ha
  obtain ⟨i, hi, rfl⟩ := List.mem_iff_getElem.1 ha
  have := h i hi
  rw [getElem!_pos l i hi] at this
  rw [this]; rfl

/-- What holds while the row is rewritten: i elements are kept of the first j. -/
structure Half (p : Int × Int → Bool) (zs dk : List (Int × Int)) (i j : Nat) : Prop where
  len : dk.length = zs.length
  ij : i < j
  kept : dk.take i = (zs.take j).filter (fun x => !p x)
  rest : dk.drop j = zs.drop j

theorem take_succ_filter {p : Int × Int → Bool} {zs : List (Int × Int)} {j : Nat} {u : Int × Int} (h : zs[j]? = some u) : (zs.take (j + 1)).filter (fun x => !p x) = (zs.take j).filter (fun x => !p x) ++ (if p u then [] else [u]) := by
  rw [List.take_add_one, h, List.filter_append]
  cases hp : p u <;> simp [hp]

theorem Half.start {p : Int × Int → Bool} {zs : List (Int × Int)} {k0 : Nat} (hk : k0 < zs.length) (hp : p zs[k0]! = true) (h : ∀ j, j < k0 → p zs[j]! = false) : Half p zs zs k0 (k0 + 1) := by
  refine ⟨rfl, by omega, ?_, rfl⟩
  rw [take_succ_filter (List.getElem?_eq_getElem hk)]
  rw [getElem!_pos zs k0 hk] at hp
  rw [if_pos hp, List.append_nil]
  symm
  refine filter_same fun j hj => ?_
  have hj' : j < k0 := by simp at hj; omega
  have := h j hj'
  rw [getElem!_pos zs j (by omega)] at this
  rw [getElem!_pos _ j hj]; simpa using this

theorem Half.skip {p : Int × Int → Bool} {zs dk : List (Int × Int)} {i j : Nat} {u : Int × Int} (h : Half p zs dk i j) (hu : zs[j]? = some u) (hp : p u = true) : Half p zs dk i (j + 1) := by
  refine ⟨h.len, by have := h.ij; omega, ?_, ?_⟩
  · rw [take_succ_filter hu, if_pos hp, List.append_nil]; exact h.kept
  · have := congrArg (List.drop 1) h.rest
    simpa [List.drop_drop] using this

theorem Half.keep {p : Int × Int → Bool} {zs dk : List (Int × Int)} {i j : Nat} {u : Int × Int} (h : Half p zs dk i j) (hu : zs[j]? = some u) (hp : p u = false) : Half p zs (dk.set i u) (i + 1) (j + 1) := by
  have hj : j < zs.length := (List.getElem?_eq_some_iff.1 hu).1
  refine ⟨by simpa using h.len, by have := h.ij; omega, ?_, ?_⟩
  · rw [take_succ_filter hu, if_neg (by simp [hp]), ← h.kept, List.take_add_one, List.take_set_of_le (Nat.le_refl i), List.getElem?_set, if_pos rfl, if_pos (by have := h.len; have := h.ij; omega)]
    rfl
  · have := congrArg (List.drop 1) h.rest
    rw [List.drop_set_of_lt (by have := h.ij; omega)]
    simpa [List.drop_drop] using this

theorem Half.next {p : Int × Int → Bool} {zs dk : List (Int × Int)} {i j : Nat} {u : Int × Int} (h : Half p zs dk i j) (hu : zs[j]? = some u) : dk[j]? = some u := by
  have := congrArg (fun l : List (Int × Int) => l[0]?) h.rest
  simpa [List.getElem?_drop, hu] using this

theorem zero_cells (n : Nat) : (Builtin.zeroCells #[Value.int .i64 0, Value.int .i64 0] n).toList = List.replicate (n * 2) (Value.int .i64 0) := by
  apply List.ext_getElem
  · simp [Builtin.zeroCells]
  · intro i h1 h2
    simp only [Builtin.zeroCells, List.getElem_replicate]
    simp only [Builtin.zeroCells, Array.getElem_toList, Array.getElem_map, Array.getElem_range]
    have : i % 2 = 0 ∨ i % 2 = 1 := by omega
    rcases this with h | h <;> simp [h]

theorem clear_run {w wr : World} {b off : Nat} {El : TypeId} {L : Array Value} {dk : List (Int × Int)} (h : Rew w wr b off El L dk) {i : Nat} (hi : i < dk.length) (c : Nat) :
    (Builtin.clear_ #[39] 0 #[.slice (some ⟨b, off + i * 2, none⟩) (dk.length - i) c]).run Go.Proofs.Try.prog wr = .ok (.tuple #[]) (wr.setCells b (off + i * 2) (List.replicate ((dk.length - i) * 2) (.int .i64 0))) := by
  have hcell : ∀ j, j < (dk.length - i) * 2 → (wr.cell? ⟨b, off + i * 2 + 0 + j, none⟩).isSome = true ∧ wr.frozen? ⟨b, off + i * 2 + 0 + j, none⟩ = false := by
    intro j hj
    have hlt : i + j / 2 < dk.length := by omega
    obtain ⟨q1, q2, q3, q4⟩ := h.cells (List.getElem?_eq_getElem hlt)
    have : j % 2 = 0 ∨ j % 2 = 1 := by omega
    rcases this with e | e
    · have : off + i * 2 + 0 + j = off + (i + j / 2) * 2 := by omega
      rw [this, q1, q3]; exact ⟨rfl, rfl⟩
    · have : off + i * 2 + 0 + j = off + (i + j / 2) * 2 + 1 := by omega
      rw [this, q2, q4]; exact ⟨rfl, rfl⟩
  have hst := run_storeCells_cells (P := Go.Proofs.Try.prog) b (off + i * 2) (List.replicate ((dk.length - i) * 2) (Value.int .i64 0)) 0 wr (by simpa using fun j hj => (hcell j hj).1) (by simpa using fun j hj => (hcell j hj).2) (by intro v hv; rw [List.eq_of_mem_replicate hv]; rfl)
  obtain ⟨m, hm⟩ : ∃ m, dk.length - i = m + 1 := ⟨dk.length - i - 1, by omega⟩
  rw [hm] at hst ⊢
  simp only [Nat.add_zero] at hst
  simp [Builtin.clear_, Go.Proofs.Try.runUnderlying39, Go.Proofs.Try.zeroValue42, Value.cells, zero_cells, hst]

set_option maxRecDepth 1000000 in
set_option maxHeartbeats 4000000 in
theorem deleteF (p : Int × Int → Bool) (lb : Array Value) (b off cap : Nat) (zs : List (Int × Int)) (w : World) (L : Array Value) (El : TypeId)
    (hp : ∀ (W : World) (x : Int × Int), x ∈ zs → w.heap.size ≤ W.heap.size → Calm w W → (∀ c, c < w.heap.size → c ≠ b → W.heap[c]? = w.heap[c]?) → Calls Go.Proofs.Try.prog 45 (#[.agg #[.int .i64 x.1, .int .i64 x.2]] ++ lb) W fun e w' => e = .returned (.bool (p x)) ∧ Grow W w')
    (hbig : zs.length ≤ 9223372036854775807) (hcap : zs.length ≤ cap) (hb : w.heap[b]? = some (.cells L El (0, 0)))
    (hrow : ∀ t x, zs[t]? = some x → L[off + t * 2]? = some (.int .i64 x.1) ∧ L[off + t * 2 + 1]? = some (.int .i64 x.2)) :
    Calls Go.Proofs.Try.prog 44 #[.slice (some ⟨b, off, none⟩) zs.length cap, .func (.func 45) #[] lb] w fun e w' => e = .returned (.slice (some ⟨b, off, none⟩) (zs.filter fun x => !p x).length cap) ∧ Rew w w' b off El L (zs.filter fun x => !p x) := by
  have hbl : b < w.heap.size := heap_in hb
  have hIF := indexF p lb b off zs.length cap zs w (fun W x hx hg => (hp W x hx hg.size hg.calm fun c hc _ => hg.same c hc).mono fun e w' ⟨h1, h2⟩ => ⟨h1, hg.trans h2⟩) (Nat.le_refl _) hbig hbl (fun j hj => by
    have := hrow j zs[j] (List.getElem?_eq_getElem hj)
    rw [getElem!_pos zs j hj]
    simpa only [World.cell?, hb, Option.isSome_none, Bool.false_eq_true, if_false] using this)
  have R0 : Rew w w b off El L zs := ⟨Nat.le_refl _, Calm.refl w, fun _ _ _ => rfl, L, hb, rfl, hrow⟩
  have eg := enters99
  have HI : Aside _ := hIF
  have HP : Aside _ := hp
  have HB : Aside _ := hb
  have HR : Aside (Rew w w b off El L zs) := R0
  clear hIF hp hb hrow R0
  go_enter Go.Proofs.Try.func44, Go.Proofs.Try.ntmps44
  go_wp2_with fail
  refine Calls.mono HI.out ?_
  rintro e w1 ⟨⟨m, rfl, hm⟩, hg⟩
  rcases hm with ⟨rfl, hall⟩ | ⟨k0, rfl, hk0, hpk, hbef⟩
  · have HA : Aside _ := hall
    have HG : Aside (Grow w w1) := hg
    clear hall hg
    go_wp2
    go_ret
    rw [filter_same HA.out]
    exact ⟨rfl, HR.out.grow HG.out⟩
  · have HH : Aside (Half p zs zs k0 (k0 + 1)) := Half.start hk0 hpk hbef
    have HG : Aside (Rew w w1 b off El L zs) := HR.out.grow hg
    clear hbef hg hpk
    have hne1 : ((k0 : Int) == -1) = false := beq_eq_false_iff_ne.2 (by omega)
    go_wp2_with fail
    go_loopg [5, 6, 7] zs.length (fun gg s5 s6 _ wr => ∃ (i j : Nat) (dk : List (Int × Int)), s5 = .int .i64 i ∧ s6 = .int .i64 j ∧ j ≤ zs.length ∧ zs.length - j ≤ gg ∧ i < j ∧ Aside (Rew w wr b off El L dk) ∧ Aside (Half p zs dk i j))
    case atStart => exact ⟨k0, k0 + 1, zs, rfl, by go_num, by omega, by omega, by omega, HG, HH⟩
    case round =>
      obtain ⟨i, j, dk, rfl, rfl, hjd, hgg, hij, R, I2⟩ := hrel
      by_cases hlt : j < zs.length
      · have hltz : (j : Int) < (zs.length : Int) := by omega
        obtain ⟨u, hu⟩ : ∃ u, zs[j]? = some u := ⟨_, List.getElem?_eq_getElem hlt⟩
        obtain ⟨cj, cj2, _, _⟩ := R.out.cells (I2.out.next hu)
        have hidk : i < dk.length := by have := I2.out.len; omega
        have R1 : Rew w (wr.alloc (.cells #[.int .i64 u.1, .int .i64 u.2] 42)) b off El L dk := R.out.grow (Grow.alloc _ _ _)
        have hcall : Calls Go.Proofs.Try.prog 45 (#[.agg #[.int .i64 u.1, .int .i64 u.2]] ++ lb) (wr.alloc (.cells #[.int .i64 u.1, .int .i64 u.2] 42)) fun e w' => e = .returned (.bool (p u)) ∧ Aside (Rew w w' b off El L dk) ∧
            w'.cell? ⟨wr.heap.size, 0, none⟩ = some (.int .i64 u.1) ∧ w'.cell? ⟨wr.heap.size, 1, none⟩ = some (.int .i64 u.2) ∧ w'.cell? ⟨b, off + i * 2, none⟩ = some (.int .i64 dk[i].1) ∧ w'.cell? ⟨b, off + i * 2 + 1, none⟩ = some (.int .i64 dk[i].2) ∧
            w'.frozen? ⟨b, off + i * 2, none⟩ = false ∧ w'.frozen? ⟨b, off + i * 2 + 1, none⟩ = false := by
          refine (HP.out _ u (List.mem_of_getElem? hu) R1.size R1.calm R1.other).mono fun e w' ⟨h1, h2⟩ => ?_
          have R2 := R1.grow h2
          obtain ⟨q1, q2, q3, q4⟩ := R2.cells (List.getElem?_eq_getElem hidk)
          have hnew : w'.heap[wr.heap.size]? = some (.cells #[.int .i64 u.1, .int .i64 u.2] 42 (0, 0)) := by
            rw [h2.same _ (by simp only [World.alloc, Array.size_push]; omega)]
            simp only [World.alloc, Array.getElem?_push_size]
          exact ⟨h1, R2, by simp [World.cell?, hnew], by simp [World.cell?, hnew], q1, q2, q3, q4⟩
        have C : Aside (zs[j]? = some u) := hu
        clear hu R1
        generalize dk[i].1 = o1 at hcall
        generalize dk[i].2 = o2 at hcall
        have D : Aside (i < dk.length) := hidk
        clear hidk
        cases hq : p u with
        | false =>
          rw [hq] at hcall
          go_wp2_with fail
          refine Calls.mono hcall ?_
          rintro e w2 ⟨rfl, R2, c1, c2, c3, c4, f3, f4⟩
          clear hcall
          go_wp2_with fail
          go_roundg (zs.length - (j + 1))
          case measure => omega
          case rel => exact ⟨i + 1, j + 1, dk.set i u, by go_num, by go_num, by omega, Nat.le_refl _, by omega, R2.out.put D.out u, I2.out.keep C.out hq⟩
        | true =>
          rw [hq] at hcall
          go_wp2_with fail
          refine Calls.mono hcall ?_
          rintro e w2 ⟨rfl, R2, c1, c2, c3, c4, f3, f4⟩
          clear hcall
          go_wp2_with fail
          go_roundg (zs.length - (j + 1))
          case measure => omega
          case rel => exact ⟨i, j + 1, dk, rfl, by go_num, by omega, Nat.le_refl _, by omega, R2, I2.out.skip C.out hq⟩
      · obtain rfl : j = zs.length := by omega
        have hltz : ¬ (zs.length : Int) < (zs.length : Int) := by omega
        have hdl : dk.length = zs.length := I2.out.len
        have hcl := clear_run R.out (i := i) (by omega) (cap - i)
        rw [hdl] at hcl
        go_wp2_with fail
        go_ret
        have hk : dk.take i = zs.filter fun x => !p x := by rw [I2.out.kept, List.take_length]
        have hl : (zs.filter fun x => !p x).length = i := by rw [← hk, List.length_take]; omega
        rw [hl, ← hk]
        exact ⟨rfl, R.out.wipe i _⟩

noncomputable def E99 : Env := ⟨tys, [], [(47, ⟨[net, fault], (.slice (.slice ratio)), e_impl_after⟩), (46, ⟨[(.slice (.slice ratio)), (.slice (.slice ratio))], .bool, e_impl_SameResponse⟩)], [], [], none, []⟩
theorem K99 (N : Nat) (x : Int × Int) (n : TNet') (m : TMat') :
    runK N E99 ([] : List (Nat × Loop Bool)) Go.Proofs.Try.f45.ntmps (retOf E99 Go.Proofs.Try.f45 .bool) (Go.Proofs.Try.f45.body.getD .skip) (initR Go.Proofs.Try.f45.ntmps [fault] (x, ()) [net, .slice (.slice ratio)] (n, m, ())) (fun _ _ => none) (retOf E99 Go.Proofs.Try.f45 .bool) = e_impl_FaultsLike_1 x n m := by kernel_rfl

theorem clo99 {x : Int × Int} {n : TNet'} {m : TMat'} {b : Bool} (h : e_impl_FaultsLike_1 x n m = some b) {W : World} {p2 p3 : Nat} {L2 L3 : Array Value} {T2 T3 : TypeId} (h2 : W.heap[p2]? = some (.cells L2 T2 (0, 0))) (s2 : L2.size = net.size) (r2 : Rep false W net L2.toList n (fun c => c < W.heap.size))
    (h3 : W.heap[p3]? = some (.cells L3 T3 (0, 0))) (s3 : L3.size = 1) (r3 : Rep false W (.slice (.slice ratio)) L3.toList m (fun c => c < W.heap.size)) :
    Calls Go.Proofs.Try.prog 45 (#[.agg #[.int .i64 x.1, .int .i64 x.2]] ++ #[.pointer (some ⟨p2, 0, none⟩), .pointer (some ⟨p3, 0, none⟩)]) W fun e w' => e = .returned (.bool b) ∧ Grow W w' := by
  have hE : EnvOk Go.Proofs.Try.prog E99 := envOf table ⟨⟨X47, There47⟩, ⟨X46, There46⟩, trivial⟩ trivial trivial
  have := contractR hE rfl mixed Go.Proofs.Try.func45 (c := Go.Proofs.Try.f45.body.getD .skip) (by kernel_rfl) (ts := [fault]) (caps := [net, .slice (.slice ratio)]) (res := .bool) (Nat.le_of_ble_eq_true (by kernel_rfl)) (N := 0) (ann := []) (xs := (x, ())) (ys := (n, m, ())) (r := b)
    (LoopsOk.of (l := []) (by kernel_rfl) .nil) ((K99 0 x n m).trans h) (vs := [.agg #[.int .i64 x.1, .int .i64 x.2]]) (ws := [.pointer (some ⟨p2, 0, none⟩), .pointer (some ⟨p3, 0, none⟩)]) (w := W)
    ⟨_, [], rfl, ⟨[.int .i64 x.1, .int .i64 x.2], rfl, [.int .i64 x.1], [.int .i64 x.2], fun _ => False, fun _ => False, rfl, rfl, rfl, fun _ h => h.elim, fun _ h => h.elim, fun _ _ h => h.elim⟩, rfl⟩
    ⟨p2, L2, T2, _, rfl, h2, s2, r2, p3, L3, T3, _, rfl, h3, s3, r3, rfl⟩
  refine this.mono fun e w' ⟨v, cs, h1, h2, h3, h4⟩ => ⟨?_, h2⟩
  simp only [Rep] at h4
  subst h4
  simp only [Shape, Shape1, List.cons.injEq, and_true] at h3
  rw [h1, h3]

set_option maxHeartbeats 1000000 in
theorem deleteF_empty (a : Option Addr) (c : Nat) (lb : Array Value) (w : World) :
    Calls Go.Proofs.Try.prog 44 #[.slice a 0 c, .func (.func 45) #[] lb] w fun e w' => e = .returned (.slice a 0 c) ∧ Grow w w' := by
  have hIF : ∀ w : World, Calls Go.Proofs.Try.prog 64 #[.slice a 0 c, .func (.func 45) #[] lb] w fun e w' => e = .returned (.int .i64 (-1)) ∧ Grow w w' := by
    intro w
    go_enter Go.Proofs.Try.func64, Go.Proofs.Try.ntmps64
    go_wp2
    go_loopg [5, 8] 0 (fun gg _ s8 wr => s8 = .int .i64 0 ∧ Aside (Grow w wr))
    case atStart => exact ⟨rfl, Grow.refl w⟩
    case round =>
      obtain ⟨rfl, BW⟩ := hrel
      go_wp2
      go_ret
      exact ⟨rfl, BW.out⟩
  have HI : Aside _ := hIF w
  clear hIF
  go_enter Go.Proofs.Try.func44, Go.Proofs.Try.ntmps44
  go_wp2_with fail
  refine Calls.mono HI.out ?_
  rintro e w1 ⟨rfl, hg⟩
  have HG : Aside (Grow w w1) := hg
  clear hg
  go_wp2
  go_ret
  exact ⟨rfl, HG.out⟩
theorem fault_cells {tr : Bool} {w : World} {cs : List Value} {x : Int × Int} {S : Nat → Prop} (h : Rep tr w fault cs x S) : cs = [.int .i64 x.1, .int .i64 x.2] := by
  obtain ⟨c1, c2, _, _, rfl, h1, h2, _⟩ := h
  simp only [fault, int, Rep] at h1 h2
  rw [h1, h2]; rfl

/-- A slice of faults in a row of its own. -/
theorem fault_row {w : World} {p : Option Addr} {c : Nat} {l : List (Int × Int)} {S : Nat → Prop} (h : Rep true w (.slice fault) [.slice p l.length c] l S) : (l = [] ∧ c = 0) ∨
    ∃ b o L El, p = some ⟨b, o, none⟩ ∧ w.heap[b]? = some (.cells L El (0, 0)) ∧ S b ∧ l.length ≤ c ∧ c ≤ 9223372036854775807 ∧ o + c * 2 ≤ L.size ∧ ∀ t x, l[t]? = some x → L[o + t * 2]? = some (.int .i64 x.1) ∧ L[o + t * 2 + 1]? = some (.int .i64 x.2) := by
  obtain ⟨p', c', hc, hle, h⟩ := h
  have hle : l.length ≤ c' := hle
  simp only [List.cons.injEq, Value.slice.injEq, and_true] at hc
  obtain ⟨rfl, _, rfl⟩ := hc
  rcases h with h | ⟨b, o, L, El, fz, rfl, hh, hS, hf, hroom, Si, hel, _, _⟩
  · simp only [cond_true] at h
    exact .inl ⟨List.length_eq_zero_iff.1 (by omega), h⟩
  · obtain ⟨rfl, hcm⟩ := hf rfl
    have hroom : o + c * 2 ≤ L.size := hroom
    refine .inr ⟨b, o, L, El, rfl, hh, hS, hle, hcm, hroom, fun t x hx => ?_⟩
    have h1 := fault_cells (hel t x hx)
    have h1 : seg L (o + t * 2) 2 = [.int .i64 x.1, .int .i64 x.2] := h1
    have ha := congrArg (fun l => l[0]?) h1
    have hb := congrArg (fun l => l[1]?) h1
    simp only [seg_get] at ha hb
    exact ⟨by simpa using ha, by simpa using hb⟩

theorem row_fault {w : World} {b o c : Nat} {L : Array Value} {El : TypeId} {l : List (Int × Int)} (hh : w.heap[b]? = some (.cells L El (0, 0))) (hle : l.length ≤ c) (hcm : c ≤ 9223372036854775807) (hroom : o + c * 2 ≤ L.size)
    (hrow : ∀ t x, l[t]? = some x → L[o + t * 2]? = some (.int .i64 x.1) ∧ L[o + t * 2 + 1]? = some (.int .i64 x.2)) : Rep true w (.slice fault) [.slice (some ⟨b, o, none⟩) l.length c] l (fun c => c = b) := by
  refine ⟨_, c, rfl, hle, .inr ⟨b, o, L, El, (0, 0), rfl, hh, rfl, fun _ => ⟨rfl, hcm⟩, hroom, fun _ _ => False, fun i y hy => ?_, fun _ _ h => h.elim, fun _ _ _ _ _ h => h.elim⟩⟩
  obtain ⟨q1, q2⟩ := hrow i y hy
  have : seg L (o + i * fault.size) fault.size = [.int .i64 y.1] ++ [.int .i64 y.2] := by
    apply List.ext_getElem?; intro j
    rw [seg_get]
    show (if j < 2 then L.toList[o + i * 2 + j]? else none) = _
    match j with
    | 0 => simpa using q1
    | 1 => simpa using q2
    | j + 2 => rw [if_neg (by omega)]; rfl
  rw [this]
  exact ⟨_, _, fun _ => False, fun _ => False, rfl, rfl, rfl, fun _ h => h.elim, fun _ h => h.elim, fun _ _ h => h.elim⟩

theorem FL_some {n : TNet'} {m : TMat'} {u : Unit} {r : List (Int × Int)} (h : e_impl_FaultsLike (n, m, u) = some r) :
    ∃ l, e_impl_AllFaults (n, ()) = some l ∧ (∀ x ∈ l, (e_impl_FaultsLike_1 x n m).isSome = true) ∧ (l.filter fun x => !(e_impl_FaultsLike_1 x n m).getD true) = r := by
  unfold e_impl_FaultsLike at h
  obtain ⟨l, hl, hr⟩ := Option.bind_eq_some_iff.1 h
  split at hr
  · rename_i hall
    simp only [Option.some.injEq] at hr
    exact ⟨l, hl, hall, hr⟩
  · simp at hr

set_option maxRecDepth 1000000 in
set_option maxHeartbeats 2000000 in
theorem flCore {n : TNet'} {m : TMat'} {r : List (Int × Int)} (hr : e_impl_FaultsLike (n, m, ()) = some r) {w : World} {v1 v2 : Value} {cs1 cs2 : List Value} (sh1 : Shape net v1 cs1) (rp1 : Rep false w net cs1 n (fun c => c < w.heap.size))
    (sh2 : Shape (.slice (.slice ratio)) v2 cs2) (rp2 : Rep false w (.slice (.slice ratio)) cs2 m (fun c => c < w.heap.size)) :
    Calls Go.Proofs.Try.prog 21 #[v1, v2] w fun e w' => ∃ v cs, e = .returned v ∧ Grow w w' ∧ Shape (.slice fault) v cs ∧ Rep true w' (.slice fault) cs r (fun c => w.heap.size ≤ c ∧ c < w'.heap.size) := by
  obtain ⟨l, hl, hall, hr⟩ := FL_some hr
  -- the cells of the arguments
  obtain ⟨c1, k1, S1, T1, rfl, q1, ⟨c2, k2, S2, T2, rfl, q2, ⟨c3, k3, S3, T3, rfl, q3, q4, -⟩, -⟩, -⟩ := id rp1
  have q1 : c1 = [.int .i64 n.1] := q1
  have q2 : c2 = [.int .i64 n.2.1] := q2
  have q3 : c3 = [.int .i64 n.2.2.1] := q3
  obtain ⟨pw, cw, q4, -⟩ := q4
  subst q1; subst q2; subst q3; subst q4
  obtain ⟨pm, cm, hc2, -⟩ := id rp2
  subst hc2
  have e1 : v1 = .agg #[.int .i64 n.1, .int .i64 n.2.1, .int .i64 n.2.2.1, .slice pw n.2.2.2.length cw] := sh1
  have e2 : v2 = .slice pm m.length cm := by
    simp only [Shape, Shape1, List.cons.injEq, and_true] at sh2; exact sh2.symm
  subst e1; subst e2
  clear sh1 sh2
  have rp1 : Rep false w net [.int .i64 n.1, .int .i64 n.2.1, .int .i64 n.2.2.1, .slice pw n.2.2.2.length cw] n (fun c => c < w.heap.size) := rp1
  have rp2 : Rep false w (.slice (.slice ratio)) [.slice pm m.length cm] m (fun c => c < w.heap.size) := rp2
  -- the boxes
  obtain ⟨w2, hw2⟩ : ∃ w2, w2 = (w.alloc (.cells #[.int .i64 n.1, .int .i64 n.2.1, .int .i64 n.2.2.1, .slice pw n.2.2.2.length cw] 30)).alloc (.cells #[.slice pm m.length cm] 46) := ⟨_, rfl⟩
  have g2 : Grow w w2 := by rw [hw2]; exact (Grow.alloc _ _ _).trans (Grow.alloc _ _ _)
  have hsz2 : w2.heap.size = w.heap.size + 2 := by
    rw [hw2, alloc_size, alloc_size]
  have b2 : w2.heap[w.heap.size]? = some (.cells #[.int .i64 n.1, .int .i64 n.2.1, .int .i64 n.2.2.1, .slice pw n.2.2.2.length cw] 30 (0, 0)) := by
    rw [hw2, (Grow.alloc _ _ _).same _ (by rw [alloc_size]; omega), alloc_new]
  have b3 : w2.heap[w.heap.size + 1]? = some (.cells #[.slice pm m.length cm] 46 (0, 0)) := by
    rw [hw2, ← alloc_size w (.cells #[.int .i64 n.1, .int .i64 n.2.1, .int .i64 n.2.2.1, .slice pw n.2.2.2.length cw] 30 (0, 0)), alloc_new]
  have hX := X17 (A := none) (n, ()) l [.agg #[.int .i64 n.1, .int .i64 n.2.1, .int .i64 n.2.2.1, .slice pw n.2.2.2.length cw]] w2 hl ⟨_, [], rfl, ⟨_, rfl, (rp1.agree fun c hc => g2.same c hc).mono fun c hc => Nat.lt_of_lt_of_le hc g2.size⟩, rfl⟩ (fun _ _ e => by simp at e)
  -- the rest, once the list is there
  have rest : ∀ (w3 : World) (v : Value) (cs : List Value), Grow w2 w3 → Shape (.slice fault) v cs → Rep true w3 (.slice fault) cs l (fun c => w2.heap.size ≤ c ∧ c < w3.heap.size) →
      Calls Go.Proofs.Try.prog 44 #[v, .func (.func 45) #[] #[.pointer (some ⟨w.heap.size, 0, none⟩), .pointer (some ⟨w.heap.size + 1, 0, none⟩)]] w3 fun e w' => ∃ v cs, e = .returned v ∧ Grow w w' ∧ Shape (.slice fault) v cs ∧ Rep true w' (.slice fault) cs r (fun c => w.heap.size ≤ c ∧ c < w'.heap.size) := by
    intro w3 v cs g3 hs hrep
    obtain ⟨p3, cap, hcs, _⟩ := id hrep
    subst hcs
    have hv : v = .slice p3 l.length cap := by
      simp only [Shape, Shape1, List.cons.injEq, and_true] at hs; exact hs.symm
    subst hv
    rcases fault_row hrep with ⟨rfl, rfl⟩ | ⟨b, o, L, El, rfl, hb, ⟨hfr, _⟩, hle, hcm, hroom, hrow⟩
    · refine (deleteF_empty p3 0 _ w3).mono fun e w' ⟨h1, h2⟩ => ⟨_, _, h1, g2.trans (g3.trans h2), hs, ?_⟩
      rw [← hr]
      exact ⟨p3, 0, rfl, Nat.le_refl _, .inl rfl⟩
    · have hp : ∀ (W : World) (x : Int × Int), x ∈ l → w3.heap.size ≤ W.heap.size → Calm w3 W → (∀ c, c < w3.heap.size → c ≠ b → W.heap[c]? = w3.heap[c]?) →
          Calls Go.Proofs.Try.prog 45 (#[.agg #[.int .i64 x.1, .int .i64 x.2]] ++ #[.pointer (some ⟨w.heap.size, 0, none⟩), .pointer (some ⟨w.heap.size + 1, 0, none⟩)]) W fun e w' => e = .returned (.bool ((e_impl_FaultsLike_1 x n m).getD true)) ∧ Grow W w' := by
        intro W x hx hsz _ hsame
        obtain ⟨bb, hbb⟩ := Option.isSome_iff_exists.1 (hall x hx)
        have old : ∀ c, c < w2.heap.size → W.heap[c]? = w2.heap[c]? := fun c hc => (hsame c (Nat.lt_of_lt_of_le hc g3.size) (by omega)).trans (g3.same c hc)
        have hlt : ∀ c, c < w.heap.size → W.heap[c]? = w.heap[c]? := fun c hc => (old c (Nat.lt_of_lt_of_le hc g2.size)).trans (g2.same c hc)
        have hszW : w.heap.size ≤ W.heap.size := Nat.le_trans g2.size (Nat.le_trans g3.size hsz)
        have := clo99 hbb (W := W) ((old _ (by omega)).trans b2) rfl ((rp1.agree hlt).mono fun c hc => Nat.lt_of_lt_of_le hc hszW) ((old _ (by omega)).trans b3) rfl ((rp2.agree hlt).mono fun c hc => Nat.lt_of_lt_of_le hc hszW)
        rw [hbb]; exact this
      refine (deleteF (fun x => (e_impl_FaultsLike_1 x n m).getD true) _ b o cap l w3 L El hp (by omega) hle hb hrow).mono fun e w' ⟨h1, h2⟩ => ?_
      rw [hr] at h1 h2
      obtain ⟨L', k1, k2, k3⟩ := h2.row
      have hbw : w.heap.size ≤ b := by omega
      have hrl : r.length ≤ l.length := by rw [← hr]; exact List.length_filter_le _ _
      refine ⟨_, _, h1, ⟨?_, fun c hc => ?_, (g2.calm.trans g3.calm).trans h2.calm⟩, rfl, (row_fault k1 (Nat.le_trans hrl hle) hcm (by omega) k3).mono fun c hc => ?_⟩
      · exact Nat.le_trans g2.size (Nat.le_trans g3.size h2.size)
      · rw [h2.other c (Nat.lt_of_lt_of_le hc (Nat.le_trans g2.size g3.size)) (by omega), g3.same c (Nat.lt_of_lt_of_le hc g2.size), g2.same c hc]
      · subst hc; exact ⟨hbw, heap_in k1⟩
  have HX : Aside _ := hX
  have HR : Aside _ := rest
  subst hw2
  clear hX rest hr hall hl rp1 rp2 g2 b2 b3 hsz2
  go_enter Go.Proofs.Try.func21, Go.Proofs.Try.ntmps21
  go_wp2_with fail
  refine Calls.mono HX.out ?_
  rintro e w3 ⟨v, cs, rfl, g3, hs, hrep⟩
  have HN : Aside _ := HR.out w3 v cs g3 hs hrep
  clear HX HR g3 hs hrep
  go_wp2_with fail
  refine Calls.mono HN.out ?_
  rintro e w4 ⟨v4, cs4, rfl, g4, hs4, hrep4⟩
  have HF : Aside _ := And.intro g4 (And.intro hs4 hrep4)
  clear HN g4 hs4 hrep4
  go_wp2
  go_ret
  exact ⟨_, _, rfl, HF.out.1, HF.out.2.1, HF.out.2.2⟩

theorem X21 : Contract Go.Proofs.Try.prog 21 ⟨[net, .slice (.slice ratio)], .slice fault, e_impl_FaultsLike⟩ := by
  intro xs r vs w hr hargs _
  obtain ⟨n, m, u⟩ := xs
  obtain ⟨v1, vr, rfl, ⟨cs1, sh1, rp1⟩, v2, vr2, rfl, ⟨cs2, sh2, rp2⟩, rfl⟩ := hargs
  exact flCore hr sh1 rp1 sh2 rp2

-- laws_FnLocated
def E6 (c_spec_MakeSmall : (Value × Unit → Option (Int × Int × Int × List (Int × Int × Int)))) (c_spec_MakeNum : (Value × Int × Unit → Option Int)) (c_impl_CanLocate : ((Int × Int × Int × List (Int × Int × Int)) × Int × Unit → Option Bool)) (c_impl_AllFaults : ((Int × Int × Int × List (Int × Int × Int)) × Unit → Option (List (Int × Int)))) (c_impl_NetOk : ((Int × Int × Int × List (Int × Int × Int)) × Unit → Option Bool)) (c_impl_ApplyFault : ((Int × Int × Int × List (Int × Int × Int)) × (Int × Int) × Unit → Option ((Int × Int × Int × List (Int × Int × Int)) × Bool))) (c_impl_ResponseOf : ((Int × Int × Int × List (Int × Int × Int)) × Unit → Option ((List (List (Int × Int))) × Bool))) (c_impl_AreAlike : ((Int × Int × Int × List (Int × Int × Int)) × (Int × Int × Int × List (Int × Int × Int)) × Unit → Option Bool)) (c_impl_FaultsLike : ((Int × Int × Int × List (Int × Int × Int)) × (List (List (Int × Int))) × Unit → Option (List (Int × Int)))) (A : Option (Nat × Obj)) : Env := ⟨tys, [], [(16, ⟨[.raw], net, c_spec_MakeSmall⟩), (18, ⟨[.raw, int], int, c_spec_MakeNum⟩), (26, ⟨[net, int], .bool, c_impl_CanLocate⟩), (17, ⟨[net], (.slice fault), c_impl_AllFaults⟩), (27, ⟨[net], .bool, c_impl_NetOk⟩), (19, ⟨[net, fault], (.tup net .bool), c_impl_ApplyFault⟩), (20, ⟨[net], (.tup (.slice (.slice ratio)) .bool), c_impl_ResponseOf⟩), (22, ⟨[net, net], .bool, c_impl_AreAlike⟩), (21, ⟨[net, (.slice (.slice ratio))], (.slice fault), c_impl_FaultsLike⟩)], [], [], A, []⟩
def A6 (c_spec_MakeSmall : (Value × Unit → Option (Int × Int × Int × List (Int × Int × Int)))) (c_spec_MakeNum : (Value × Int × Unit → Option Int)) (c_impl_CanLocate : ((Int × Int × Int × List (Int × Int × Int)) × Int × Unit → Option Bool)) (c_impl_AllFaults : ((Int × Int × Int × List (Int × Int × Int)) × Unit → Option (List (Int × Int)))) (c_impl_NetOk : ((Int × Int × Int × List (Int × Int × Int)) × Unit → Option Bool)) (c_impl_ApplyFault : ((Int × Int × Int × List (Int × Int × Int)) × (Int × Int) × Unit → Option ((Int × Int × Int × List (Int × Int × Int)) × Bool))) (c_impl_ResponseOf : ((Int × Int × Int × List (Int × Int × Int)) × Unit → Option ((List (List (Int × Int))) × Bool))) (c_impl_AreAlike : ((Int × Int × Int × List (Int × Int × Int)) × (Int × Int × Int × List (Int × Int × Int)) × Unit → Option Bool)) (c_impl_FaultsLike : ((Int × Int × Int × List (Int × Int × Int)) × (List (List (Int × Int))) × Unit → Option (List (Int × Int)))) (N : Nat) : List (Nat × Loop (Ty.den .bool)) := [(0, ⟨[(3, .box true (.pair (.num .i64) (.pair (.num .i64) (.pair (.num .i64) (.slice (.pair (.num .i64) (.pair (.num .i64) (.num .i64)))))))), (4, .ro none (.num .i64)), (5, .ro none .bool), (6, .ro none .bool), (7, .ro none .bool), (31, .own (.slice (.pair (.num .i64) (.num .i64)))), (32, .ro none (.num .i64)), (33, .ro none (.num .i64))], r_laws_FnLocated_L0 c_spec_MakeSmall c_spec_MakeNum c_impl_CanLocate c_impl_AllFaults c_impl_NetOk c_impl_ApplyFault c_impl_ResponseOf c_impl_AreAlike c_impl_FaultsLike N⟩), (2, ⟨[(3, .box true (.pair (.num .i64) (.pair (.num .i64) (.pair (.num .i64) (.slice (.pair (.num .i64) (.pair (.num .i64) (.num .i64)))))))), (4, .ro none (.num .i64)), (5, .ro none .bool), (6, .ro none .bool), (7, .ro none .bool), (31, .own (.slice (.pair (.num .i64) (.num .i64)))), (32, .ro none (.num .i64)), (33, .ro none (.num .i64)), (67, .own (.slice (.pair (.num .i64) (.num .i64)))), (68, .ro none (.num .i64)), (69, .ro none (.num .i64))], r_laws_FnLocated_L2 c_spec_MakeSmall c_spec_MakeNum c_impl_CanLocate c_impl_AllFaults c_impl_NetOk c_impl_ApplyFault c_impl_ResponseOf c_impl_AreAlike c_impl_FaultsLike N⟩)]
theorem K6 (c_spec_MakeSmall : (Value × Unit → Option (Int × Int × Int × List (Int × Int × Int)))) (c_spec_MakeNum : (Value × Int × Unit → Option Int)) (c_impl_CanLocate : ((Int × Int × Int × List (Int × Int × Int)) × Int × Unit → Option Bool)) (c_impl_AllFaults : ((Int × Int × Int × List (Int × Int × Int)) × Unit → Option (List (Int × Int)))) (c_impl_NetOk : ((Int × Int × Int × List (Int × Int × Int)) × Unit → Option Bool)) (c_impl_ApplyFault : ((Int × Int × Int × List (Int × Int × Int)) × (Int × Int) × Unit → Option ((Int × Int × Int × List (Int × Int × Int)) × Bool))) (c_impl_ResponseOf : ((Int × Int × Int × List (Int × Int × Int)) × Unit → Option ((List (List (Int × Int))) × Bool))) (c_impl_AreAlike : ((Int × Int × Int × List (Int × Int × Int)) × (Int × Int × Int × List (Int × Int × Int)) × Unit → Option Bool)) (c_impl_FaultsLike : ((Int × Int × Int × List (Int × Int × Int)) × (List (List (Int × Int))) × Unit → Option (List (Int × Int)))) (A : Option (Nat × Obj)) (N : Nat) (a0 : Value) : fnK N (E6 c_spec_MakeSmall c_spec_MakeNum c_impl_CanLocate c_impl_AllFaults c_impl_NetOk c_impl_ApplyFault c_impl_ResponseOf c_impl_AreAlike c_impl_FaultsLike A) Go.Proofs.Try.f6 [.raw] .bool (A6 c_spec_MakeSmall c_spec_MakeNum c_impl_CanLocate c_impl_AllFaults c_impl_NetOk c_impl_ApplyFault c_impl_ResponseOf c_impl_AreAlike c_impl_FaultsLike N) (a0, ()) = r_laws_FnLocated c_spec_MakeSmall c_spec_MakeNum c_impl_CanLocate c_impl_AllFaults c_impl_NetOk c_impl_ApplyFault c_impl_ResponseOf c_impl_AreAlike c_impl_FaultsLike N a0 := by kernel_rfl
theorem L6 (c_spec_MakeSmall : (Value × Unit → Option (Int × Int × Int × List (Int × Int × Int)))) (c_spec_MakeNum : (Value × Int × Unit → Option Int)) (c_impl_CanLocate : ((Int × Int × Int × List (Int × Int × Int)) × Int × Unit → Option Bool)) (c_impl_AllFaults : ((Int × Int × Int × List (Int × Int × Int)) × Unit → Option (List (Int × Int)))) (c_impl_NetOk : ((Int × Int × Int × List (Int × Int × Int)) × Unit → Option Bool)) (c_impl_ApplyFault : ((Int × Int × Int × List (Int × Int × Int)) × (Int × Int) × Unit → Option ((Int × Int × Int × List (Int × Int × Int)) × Bool))) (c_impl_ResponseOf : ((Int × Int × Int × List (Int × Int × Int)) × Unit → Option ((List (List (Int × Int))) × Bool))) (c_impl_AreAlike : ((Int × Int × Int × List (Int × Int × Int)) × (Int × Int × Int × List (Int × Int × Int)) × Unit → Option Bool)) (c_impl_FaultsLike : ((Int × Int × Int × List (Int × Int × Int)) × (List (List (Int × Int))) × Unit → Option (List (Int × Int)))) (A : Option (Nat × Obj)) (N : Nat) : LoopsOk N (E6 c_spec_MakeSmall c_spec_MakeNum c_impl_CanLocate c_impl_AllFaults c_impl_NetOk c_impl_ApplyFault c_impl_ResponseOf c_impl_AreAlike c_impl_FaultsLike A) (A6 c_spec_MakeSmall c_spec_MakeNum c_impl_CanLocate c_impl_AllFaults c_impl_NetOk c_impl_ApplyFault c_impl_ResponseOf c_impl_AreAlike c_impl_FaultsLike N) Go.Proofs.Try.f6.ntmps (retOf (E6 c_spec_MakeSmall c_spec_MakeNum c_impl_CanLocate c_impl_AllFaults c_impl_NetOk c_impl_ApplyFault c_impl_ResponseOf c_impl_AreAlike c_impl_FaultsLike A) Go.Proofs.Try.f6 .bool) (loopsOf (Go.Proofs.Try.f6.body.getD .skip)) :=
  LoopsOk.of (l := [(0, lb Go.Proofs.Try.f6 0), (2, lb Go.Proofs.Try.f6 1)]) (by kernel_rfl) (.cons (L := ⟨[(3, .box true (.pair (.num .i64) (.pair (.num .i64) (.pair (.num .i64) (.slice (.pair (.num .i64) (.pair (.num .i64) (.num .i64)))))))), (4, .ro none (.num .i64)), (5, .ro none .bool), (6, .ro none .bool), (7, .ro none .bool), (31, .own (.slice (.pair (.num .i64) (.num .i64)))), (32, .ro none (.num .i64)), (33, .ro none (.num .i64))], r_laws_FnLocated_L0 c_spec_MakeSmall c_spec_MakeNum c_impl_CanLocate c_impl_AllFaults c_impl_NetOk c_impl_ApplyFault c_impl_ResponseOf c_impl_AreAlike c_impl_FaultsLike N⟩) (by kernel_rfl) (by intro s kc ke env; kernel_rfl) (.cons (L := ⟨[(3, .box true (.pair (.num .i64) (.pair (.num .i64) (.pair (.num .i64) (.slice (.pair (.num .i64) (.pair (.num .i64) (.num .i64)))))))), (4, .ro none (.num .i64)), (5, .ro none .bool), (6, .ro none .bool), (7, .ro none .bool), (31, .own (.slice (.pair (.num .i64) (.num .i64)))), (32, .ro none (.num .i64)), (33, .ro none (.num .i64)), (67, .own (.slice (.pair (.num .i64) (.num .i64)))), (68, .ro none (.num .i64)), (69, .ro none (.num .i64))], r_laws_FnLocated_L2 c_spec_MakeSmall c_spec_MakeNum c_impl_CanLocate c_impl_AllFaults c_impl_NetOk c_impl_ApplyFault c_impl_ResponseOf c_impl_AreAlike c_impl_FaultsLike N⟩) (by kernel_rfl) (by intro s kc ke env; kernel_rfl) .nil))
theorem There6 : There Go.Proofs.Try.prog 6 := ⟨_, Go.Proofs.Try.func6, by kernel_rfl, by kernel_rfl⟩
theorem C6 {A : Option (Nat × Obj)} {c_spec_MakeSmall : (Value × Unit → Option (Int × Int × Int × List (Int × Int × Int)))} {c_spec_MakeNum : (Value × Int × Unit → Option Int)} {c_impl_CanLocate : ((Int × Int × Int × List (Int × Int × Int)) × Int × Unit → Option Bool)} {c_impl_AllFaults : ((Int × Int × Int × List (Int × Int × Int)) × Unit → Option (List (Int × Int)))} {c_impl_NetOk : ((Int × Int × Int × List (Int × Int × Int)) × Unit → Option Bool)} {c_impl_ApplyFault : ((Int × Int × Int × List (Int × Int × Int)) × (Int × Int) × Unit → Option ((Int × Int × Int × List (Int × Int × Int)) × Bool))} {c_impl_ResponseOf : ((Int × Int × Int × List (Int × Int × Int)) × Unit → Option ((List (List (Int × Int))) × Bool))} {c_impl_AreAlike : ((Int × Int × Int × List (Int × Int × Int)) × (Int × Int × Int × List (Int × Int × Int)) × Unit → Option Bool)} {c_impl_FaultsLike : ((Int × Int × Int × List (Int × Int × Int)) × (List (List (Int × Int))) × Unit → Option (List (Int × Int)))} (h_c_spec_MakeSmall : ContractA Go.Proofs.Try.prog A 16 ⟨[.raw], net, c_spec_MakeSmall⟩) (h_c_spec_MakeNum : ContractA Go.Proofs.Try.prog A 18 ⟨[.raw, int], int, c_spec_MakeNum⟩) (h_c_impl_CanLocate : ContractA Go.Proofs.Try.prog A 26 ⟨[net, int], .bool, c_impl_CanLocate⟩) (h_c_impl_AllFaults : ContractA Go.Proofs.Try.prog A 17 ⟨[net], (.slice fault), c_impl_AllFaults⟩) (h_c_impl_NetOk : ContractA Go.Proofs.Try.prog A 27 ⟨[net], .bool, c_impl_NetOk⟩) (h_c_impl_ApplyFault : ContractA Go.Proofs.Try.prog A 19 ⟨[net, fault], (.tup net .bool), c_impl_ApplyFault⟩) (h_c_impl_ResponseOf : ContractA Go.Proofs.Try.prog A 20 ⟨[net], (.tup (.slice (.slice ratio)) .bool), c_impl_ResponseOf⟩) (h_c_impl_AreAlike : ContractA Go.Proofs.Try.prog A 22 ⟨[net, net], .bool, c_impl_AreAlike⟩) (h_c_impl_FaultsLike : ContractA Go.Proofs.Try.prog A 21 ⟨[net, (.slice (.slice ratio))], (.slice fault), c_impl_FaultsLike⟩) {f : (Value × Unit → Option Bool)} (h : ∀ a0 r, f (a0, ()) = some r → ∃ N, r_laws_FnLocated c_spec_MakeSmall c_spec_MakeNum c_impl_CanLocate c_impl_AllFaults c_impl_NetOk c_impl_ApplyFault c_impl_ResponseOf c_impl_AreAlike c_impl_FaultsLike N a0 = some r) : ContractA Go.Proofs.Try.prog A 6 ⟨[.raw], .bool, f⟩ := by
  refine contract (E := (E6 c_spec_MakeSmall c_spec_MakeNum c_impl_CanLocate c_impl_AllFaults c_impl_NetOk c_impl_ApplyFault c_impl_ResponseOf c_impl_AreAlike c_impl_FaultsLike A)) (envOf table ⟨⟨h_c_spec_MakeSmall, There16⟩, ⟨⟨h_c_spec_MakeNum, There18⟩, ⟨⟨h_c_impl_CanLocate, There26⟩, ⟨⟨h_c_impl_AllFaults, There17⟩, ⟨⟨h_c_impl_NetOk, There27⟩, ⟨⟨h_c_impl_ApplyFault, There19⟩, ⟨⟨h_c_impl_ResponseOf, There20⟩, ⟨⟨h_c_impl_AreAlike, There22⟩, ⟨⟨h_c_impl_FaultsLike, There21⟩, trivial⟩⟩⟩⟩⟩⟩⟩⟩⟩ trivial trivial) mixed Go.Proofs.Try.func6 (c := Go.Proofs.Try.f6.body.getD .skip) (by kernel_rfl) (Nat.le_of_ble_eq_true (by kernel_rfl)) fun xs r hr => ?_
  obtain ⟨a0, _⟩ := xs
  obtain ⟨N, hN⟩ := h _ r hr
  exact ⟨N, A6 c_spec_MakeSmall c_spec_MakeNum c_impl_CanLocate c_impl_AllFaults c_impl_NetOk c_impl_ApplyFault c_impl_ResponseOf c_impl_AreAlike c_impl_FaultsLike N, L6 c_spec_MakeSmall c_spec_MakeNum c_impl_CanLocate c_impl_AllFaults c_impl_NetOk c_impl_ApplyFault c_impl_ResponseOf c_impl_AreAlike c_impl_FaultsLike A N, (K6 c_spec_MakeSmall c_spec_MakeNum c_impl_CanLocate c_impl_AllFaults c_impl_NetOk c_impl_ApplyFault c_impl_ResponseOf c_impl_AreAlike c_impl_FaultsLike A N a0).trans hN⟩
theorem X6 {A : Option (Nat × Obj)} : ContractA Go.Proofs.Try.prog A 6 ⟨[.raw], .bool, e_laws_FnLocated A⟩ := C6 X16 X18 X26 X17 X27 X19 X20 X22 (X21).amb fun _ _ h => ⟨N0, h⟩
end Go.Sx.S
