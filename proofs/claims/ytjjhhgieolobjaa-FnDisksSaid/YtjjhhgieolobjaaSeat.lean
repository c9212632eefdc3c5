/- The functions keep their contracts. Conditions: none. -/
import Derived.Test.YtjjhhgieolobjaaRes
import Derived.Shelf.Slices.Empties
import Derived.Shelf.Slices.Delete
import Derived.Shelf.Slices.Reverse
import Derived.Test.YtjjhhgieolobjaaProg
/- The functions of the program compute what was printed. Conditions: none. -/
namespace Go.Sx.S
open Go Go.Sx Go.Sx.R
def int : Ty := .num .i64
def wire : Ty := .pair int (.pair int int)
def net : Ty := .pair int (.pair int (.pair int (.slice wire)))
def ratio : Ty := .pair int int
def fault : Ty := .pair int int

def tys : List (Nat × Ty) := [(3, int), (4, .bool), (5, (.num .u8)), (21, (.num .i32)), (22, .raw), (23, (.slice wire)), (25, net), (29, ratio), (33, (.slice ratio)), (38, wire), (45, (.slice (.slice int))), (47, (.slice int)), (62, (.slice net)), (69, (.slice (.slice ratio))), (75, (.slice (.slice (.slice int)))), (100, (.slice .bool)), (114, (.num .u64)), (122, curTy), (150, (.num .u32))]
theorem table (sp : List (Nat × FnSpec)) (mu : List (Nat × MutSpec)) (cu : List (Nat × CurSpec)) (A : Option (Nat × Obj)) (fz : List Nat) : tableB Go.Proofs.Try.prog ⟨tys, [], sp, mu, cu, A, fz⟩ tys = true := by kernel_rfl
def tysC : List (Nat × Ty) := [(22, .slice (.num .u8)), (5, .num .u8)]
theorem tableC (sp : List (Nat × FnSpec)) (mu : List (Nat × MutSpec)) (cu : List (Nat × CurSpec)) (A : Option (Nat × Obj)) (fz : List Nat) : tableB Go.Proofs.Try.prog ⟨tysC, [], sp, mu, cu, A, fz⟩ tysC = true := by kernel_rfl
theorem mixed : Go.Proofs.Try.prog.follows .mixedOrders = true := by kernel_rfl
-- spec_l01New
def E67 (A : Option (Nat × Obj)) : Env := ⟨tys, [], [], [], [], A, []⟩
def A67 (A : Option (Nat × Obj)) (N : Nat) : List (Nat × Loop (Option (Value × Int × Int))) := [(0, ⟨[(0, .ro none .raw), (3, .ro none (.num .i64)), (4, .ro none (.num .i64))], r_spec_l01New_L0 A N⟩)]
theorem K67 (A : Option (Nat × Obj)) (N : Nat) (a0 : Value) : fnNew N (E67 A) Go.Proofs.Try.f67 [.raw] (A67 A N) (a0, ()) = r_spec_l01New A N a0 := by kernel_rfl
theorem L67 (A : Option (Nat × Obj)) (N : Nat) : LoopsOk N (E67 A) (A67 A N) Go.Proofs.Try.f67.ntmps (retNew Go.Proofs.Try.f67) (loopsOf (Go.Proofs.Try.f67.body.getD .skip)) :=
  LoopsOk.of (l := [(0, lb Go.Proofs.Try.f67 0)]) (by kernel_rfl) (.cons (L := ⟨[(0, .ro none .raw), (3, .ro none (.num .i64)), (4, .ro none (.num .i64))], r_spec_l01New_L0 A N⟩) (by kernel_rfl) (by intro s kc ke env; kernel_rfl) .nil)
theorem There67 : There Go.Proofs.Try.prog 67 := ⟨_, Go.Proofs.Try.func67, by kernel_rfl, by kernel_rfl⟩
theorem C67 {A : Option (Nat × Obj)} {f : (Value × Unit → Option (Option (Value × Int × Int)))} (h : ∀ a0 r, f (a0, ()) = some r → ∃ N, r_spec_l01New A N a0 = some r) : ContractA Go.Proofs.Try.prog A 67 ⟨[.raw], .cur, f⟩ := by
  refine newC (E := (E67 A)) (envOf table trivial trivial trivial) mixed Go.Proofs.Try.func67 (c := Go.Proofs.Try.f67.body.getD .skip) (by kernel_rfl) (Nat.le_of_ble_eq_true (by kernel_rfl)) fun xs r hr => ?_
  obtain ⟨a0, _⟩ := xs
  obtain ⟨N, hN⟩ := h _ r hr
  exact ⟨N, A67 A N, L67 A N, (K67 A N a0).trans hN⟩
theorem X67 {A : Option (Nat × Obj)} : ContractA Go.Proofs.Try.prog A 67 ⟨[.raw], .cur, e_spec_l01New A⟩ := C67 fun _ _ h => ⟨N0, h⟩
-- spec_l01Byte
def E69 (A : Option (Nat × Obj)) : Env := ⟨tys, [], [], [], [], A, []⟩
def A69 (_A : Option (Nat × Obj)) (_N : Nat) : List (Nat × Loop (Option (Value × Int × Int) × Ty.den int)) := []
theorem K69 (k_spec_l01Byte_ : (Option (Value × Int × Int) → (Unit) → Option (Option (Value × Int × Int) × Int))) (A : Option (Nat × Obj)) (N : Nat) (a0 : (Value × Int × Int)) : fnByte N (E69 A) Go.Proofs.Try.f69 ⟨[], int, k_spec_l01Byte_⟩ (A69 A N) a0 () = r_spec_l01Byte A N a0 := by kernel_rfl
theorem L69 (k_spec_l01Byte_ : (Option (Value × Int × Int) → (Unit) → Option (Option (Value × Int × Int) × Int))) (A : Option (Nat × Obj)) (N : Nat) : LoopsOk N (E69 A) (A69 A N) Go.Proofs.Try.f69.ntmps (retB (E69 A) Go.Proofs.Try.f69 int) (loopsOf (Go.Proofs.Try.f69.body.getD .skip)) :=
  LoopsOk.of (l := []) (by kernel_rfl) .nil
theorem There69 : There Go.Proofs.Try.prog 69 := ⟨_, Go.Proofs.Try.func69, by kernel_rfl, by kernel_rfl⟩
theorem C69 {A : Option (Nat × Obj)} {f : (Option (Value × Int × Int) → (Unit) → Option (Option (Value × Int × Int) × Int))} (h : ∀ a0 r, f (some a0) () = some r → ∃ N, r_spec_l01Byte A N a0 = some r) (h0 : ∀ xs, f none xs = none) : CurC Go.Proofs.Try.prog A 69 ⟨[], int, f⟩ := by
  refine byteC (E := (E69 A)) (envOf table trivial trivial trivial) mixed Go.Proofs.Try.func69 (c := Go.Proofs.Try.f69.body.getD .skip) (by kernel_rfl) (Nat.le_of_ble_eq_true (by kernel_rfl)) (by kernel_rfl) fun y xs r hr => ?_
  match y, hr with
  | none, hr => exact absurd ((h0 xs).symm.trans hr) (by simp)
  | some a0, hr =>
    obtain ⟨N, hN⟩ := h _ r hr
    exact ⟨a0, N, A69 A N, rfl, L69 f A N, (K69 f A N a0).trans hN⟩
theorem X69 {A : Option (Nat × Obj)} : CurC Go.Proofs.Try.prog A 69 ⟨[], int, e_spec_l01Byte A⟩ := C69 (fun _ _ h => ⟨N0, h⟩) (fun _ => rfl)
-- spec_l01Below
def E88 (k_spec_l01Byte : (Option (Value × Int × Int) → (Unit) → Option (Option (Value × Int × Int) × Int))) (A : Option (Nat × Obj)) : Env := ⟨tys, [], [], [], [(69, ⟨[], int, k_spec_l01Byte⟩)], A, []⟩
def A88 (_k_spec_l01Byte : (Option (Value × Int × Int) → (Unit) → Option (Option (Value × Int × Int) × Int))) (_N : Nat) : List (Nat × Loop (Option (Value × Int × Int) × Ty.den int)) := []
theorem K88 (k_spec_l01Byte : (Option (Value × Int × Int) → (Unit) → Option (Option (Value × Int × Int) × Int))) (k_spec_l01Below_ : (Option (Value × Int × Int) → (Int × Unit) → Option (Option (Value × Int × Int) × Int))) (A : Option (Nat × Obj)) (N : Nat) (a0 : (Option (Value × Int × Int))) (a1 : Int) : fnCur N (E88 k_spec_l01Byte A) Go.Proofs.Try.f88 ⟨[int], int, k_spec_l01Below_⟩ (A88 k_spec_l01Byte N) a0 (a1, ()) = r_spec_l01Below k_spec_l01Byte N a0 a1 := by kernel_rfl
theorem L88 (k_spec_l01Byte : (Option (Value × Int × Int) → (Unit) → Option (Option (Value × Int × Int) × Int))) (k_spec_l01Below_ : (Option (Value × Int × Int) → (Int × Unit) → Option (Option (Value × Int × Int) × Int))) (A : Option (Nat × Obj)) (N : Nat) : LoopsOk N (E88 k_spec_l01Byte A) (A88 k_spec_l01Byte N) Go.Proofs.Try.f88.ntmps (retC (E88 k_spec_l01Byte A) Go.Proofs.Try.f88 ⟨[int], int, k_spec_l01Below_⟩) (loopsOf (Go.Proofs.Try.f88.body.getD .skip)) :=
  LoopsOk.of (l := []) (by kernel_rfl) .nil
theorem There88 : There Go.Proofs.Try.prog 88 := ⟨_, Go.Proofs.Try.func88, by kernel_rfl, by kernel_rfl⟩
theorem C88 {A : Option (Nat × Obj)} {k_spec_l01Byte : (Option (Value × Int × Int) → (Unit) → Option (Option (Value × Int × Int) × Int))} (h_k_spec_l01Byte : CurC Go.Proofs.Try.prog A 69 ⟨[], int, k_spec_l01Byte⟩) {f : (Option (Value × Int × Int) → (Int × Unit) → Option (Option (Value × Int × Int) × Int))} (h : ∀ a0 a1 r, f a0 (a1, ()) = some r → ∃ N, r_spec_l01Below k_spec_l01Byte N a0 a1 = some r) : CurC Go.Proofs.Try.prog A 88 ⟨[int], int, f⟩ := by
  refine curC (E := (E88 k_spec_l01Byte A)) (envOf table trivial trivial ⟨⟨h_k_spec_l01Byte, There69⟩, trivial⟩) mixed Go.Proofs.Try.func88 (c := Go.Proofs.Try.f88.body.getD .skip) (by kernel_rfl) (Nat.le_of_ble_eq_true (by kernel_rfl)) (by kernel_rfl) fun a0 xs r hr => ?_
  obtain ⟨a1, _⟩ := xs
  obtain ⟨N, hN⟩ := h _ _ r hr
  exact ⟨N, A88 k_spec_l01Byte N, L88 k_spec_l01Byte f A N, (K88 k_spec_l01Byte f A N a0 a1).trans hN⟩
theorem X88 {A : Option (Nat × Obj)} : CurC Go.Proofs.Try.prog A 88 ⟨[int], int, e_spec_l01Below A⟩ := C88 X69 fun _ _ _ h => ⟨N0, h⟩
-- spec_l03Put
def E104 (A : Option (Nat × Obj)) : Env := ⟨tys, [], [], [], [], A, []⟩
def A104 (N : Nat) : List (Nat × Loop (Ty.den (.slice wire))) := [(0, ⟨[(4, .ro none .bool), (11, .own (.slice (.pair (.num .i64) (.pair (.num .i64) (.num .i64))))), (12, .box true (.pair (.num .i64) (.pair (.num .i64) (.num .i64)))), (13, .ro none .bool), (27, .ro none (.slice (.pair (.num .i64) (.pair (.num .i64) (.num .i64))))), (28, .ro none (.num .i64)), (29, .ro none (.num .i64))], r_spec_l03Put_L0 N⟩), (2, ⟨[(11, .own (.slice (.pair (.num .i64) (.pair (.num .i64) (.num .i64))))), (12, .box true (.pair (.num .i64) (.pair (.num .i64) (.num .i64)))), (13, .ro none .bool), (59, .ro (some 0) (.slice (.pair (.num .i64) (.pair (.num .i64) (.num .i64))))), (60, .ro none (.num .i64)), (61, .ro none (.num .i64))], r_spec_l03Put_L2 N⟩)]
theorem K104 (A : Option (Nat × Obj)) (N : Nat) (a0 : (List (Int × Int × Int))) (a1 : Int) (a2 : Int) (a3 : Int) (a4 : Bool) : fnK N (E104 A) Go.Proofs.Try.f104 [(.slice wire), int, int, int, .bool] (.slice wire) (A104 N) (a0, a1, a2, a3, a4, ()) = r_spec_l03Put N a0 a1 a2 a3 a4 := by kernel_rfl
theorem L104 (A : Option (Nat × Obj)) (N : Nat) : LoopsOk N (E104 A) (A104 N) Go.Proofs.Try.f104.ntmps (retOf (E104 A) Go.Proofs.Try.f104 (.slice wire)) (loopsOf (Go.Proofs.Try.f104.body.getD .skip)) :=
  LoopsOk.of (l := [(0, lb Go.Proofs.Try.f104 0), (2, lb Go.Proofs.Try.f104 1)]) (by kernel_rfl) (.cons (L := ⟨[(4, .ro none .bool), (11, .own (.slice (.pair (.num .i64) (.pair (.num .i64) (.num .i64))))), (12, .box true (.pair (.num .i64) (.pair (.num .i64) (.num .i64)))), (13, .ro none .bool), (27, .ro none (.slice (.pair (.num .i64) (.pair (.num .i64) (.num .i64))))), (28, .ro none (.num .i64)), (29, .ro none (.num .i64))], r_spec_l03Put_L0 N⟩) (by kernel_rfl) (by intro s kc ke env; kernel_rfl) (.cons (L := ⟨[(11, .own (.slice (.pair (.num .i64) (.pair (.num .i64) (.num .i64))))), (12, .box true (.pair (.num .i64) (.pair (.num .i64) (.num .i64)))), (13, .ro none .bool), (59, .ro (some 0) (.slice (.pair (.num .i64) (.pair (.num .i64) (.num .i64))))), (60, .ro none (.num .i64)), (61, .ro none (.num .i64))], r_spec_l03Put_L2 N⟩) (by kernel_rfl) (by intro s kc ke env; kernel_rfl) .nil))
theorem There104 : There Go.Proofs.Try.prog 104 := ⟨_, Go.Proofs.Try.func104, by kernel_rfl, by kernel_rfl⟩
theorem C104 {A : Option (Nat × Obj)} {f : ((List (Int × Int × Int)) × Int × Int × Int × Bool × Unit → Option (List (Int × Int × Int)))} (h : ∀ a0 a1 a2 a3 a4 r, f (a0, a1, a2, a3, a4, ()) = some r → ∃ N, r_spec_l03Put N a0 a1 a2 a3 a4 = some r) : ContractA Go.Proofs.Try.prog A 104 ⟨[(.slice wire), int, int, int, .bool], (.slice wire), f⟩ := by
  refine contract (E := (E104 A)) (envOf table trivial trivial trivial) mixed Go.Proofs.Try.func104 (c := Go.Proofs.Try.f104.body.getD .skip) (by kernel_rfl) (Nat.le_of_ble_eq_true (by kernel_rfl)) fun xs r hr => ?_
  obtain ⟨a0, a1, a2, a3, a4, _⟩ := xs
  obtain ⟨N, hN⟩ := h _ _ _ _ _ r hr
  exact ⟨N, A104 N, L104 A N, (K104 A N a0 a1 a2 a3 a4).trans hN⟩
theorem X104 {A : Option (Nat × Obj)} : ContractA Go.Proofs.Try.prog A 104 ⟨[(.slice wire), int, int, int, .bool], (.slice wire), e_spec_l03Put⟩ := C104 fun _ _ _ _ _ _ h => ⟨N0, h⟩
-- spec_l01Once
def E112 (k_spec_l01Below : (Option (Value × Int × Int) → (Int × Unit) → Option (Option (Value × Int × Int) × Int))) (A : Option (Nat × Obj)) : Env := ⟨tys, [], [], [], [(88, ⟨[int], int, k_spec_l01Below⟩)], A, []⟩
def A112 (_k_spec_l01Below : (Option (Value × Int × Int) → (Int × Unit) → Option (Option (Value × Int × Int) × Int))) (_N : Nat) : List (Nat × Loop (Option (Value × Int × Int) × Ty.den .bool)) := []
theorem K112 (k_spec_l01Below : (Option (Value × Int × Int) → (Int × Unit) → Option (Option (Value × Int × Int) × Int))) (k_spec_l01Once_ : (Option (Value × Int × Int) → (Int × Unit) → Option (Option (Value × Int × Int) × Bool))) (A : Option (Nat × Obj)) (N : Nat) (a0 : (Option (Value × Int × Int))) (a1 : Int) : fnCur N (E112 k_spec_l01Below A) Go.Proofs.Try.f112 ⟨[int], .bool, k_spec_l01Once_⟩ (A112 k_spec_l01Below N) a0 (a1, ()) = r_spec_l01Once k_spec_l01Below N a0 a1 := by kernel_rfl
theorem L112 (k_spec_l01Below : (Option (Value × Int × Int) → (Int × Unit) → Option (Option (Value × Int × Int) × Int))) (k_spec_l01Once_ : (Option (Value × Int × Int) → (Int × Unit) → Option (Option (Value × Int × Int) × Bool))) (A : Option (Nat × Obj)) (N : Nat) : LoopsOk N (E112 k_spec_l01Below A) (A112 k_spec_l01Below N) Go.Proofs.Try.f112.ntmps (retC (E112 k_spec_l01Below A) Go.Proofs.Try.f112 ⟨[int], .bool, k_spec_l01Once_⟩) (loopsOf (Go.Proofs.Try.f112.body.getD .skip)) :=
  LoopsOk.of (l := []) (by kernel_rfl) .nil
theorem There112 : There Go.Proofs.Try.prog 112 := ⟨_, Go.Proofs.Try.func112, by kernel_rfl, by kernel_rfl⟩
theorem C112 {A : Option (Nat × Obj)} {k_spec_l01Below : (Option (Value × Int × Int) → (Int × Unit) → Option (Option (Value × Int × Int) × Int))} (h_k_spec_l01Below : CurC Go.Proofs.Try.prog A 88 ⟨[int], int, k_spec_l01Below⟩) {f : (Option (Value × Int × Int) → (Int × Unit) → Option (Option (Value × Int × Int) × Bool))} (h : ∀ a0 a1 r, f a0 (a1, ()) = some r → ∃ N, r_spec_l01Once k_spec_l01Below N a0 a1 = some r) : CurC Go.Proofs.Try.prog A 112 ⟨[int], .bool, f⟩ := by
  refine curC (E := (E112 k_spec_l01Below A)) (envOf table trivial trivial ⟨⟨h_k_spec_l01Below, There88⟩, trivial⟩) mixed Go.Proofs.Try.func112 (c := Go.Proofs.Try.f112.body.getD .skip) (by kernel_rfl) (Nat.le_of_ble_eq_true (by kernel_rfl)) (by kernel_rfl) fun a0 xs r hr => ?_
  obtain ⟨a1, _⟩ := xs
  obtain ⟨N, hN⟩ := h _ _ r hr
  exact ⟨N, A112 k_spec_l01Below N, L112 k_spec_l01Below f A N, (K112 k_spec_l01Below f A N a0 a1).trans hN⟩
theorem X112 {A : Option (Nat × Obj)} : CurC Go.Proofs.Try.prog A 112 ⟨[int], .bool, e_spec_l01Once A⟩ := C112 X88 fun _ _ _ h => ⟨N0, h⟩
-- spec_MakeDisk
def E62 (c_spec_l01New : (Value × Unit → Option (Option (Value × Int × Int)))) (k_spec_l01Below : (Option (Value × Int × Int) → (Int × Unit) → Option (Option (Value × Int × Int) × Int))) (c_spec_l03Put : ((List (Int × Int × Int)) × Int × Int × Int × Bool × Unit → Option (List (Int × Int × Int)))) (k_spec_l01Once : (Option (Value × Int × Int) → (Int × Unit) → Option (Option (Value × Int × Int) × Bool))) (A : Option (Nat × Obj)) : Env := ⟨tys, [], [(67, ⟨[.raw], .cur, c_spec_l01New⟩), (104, ⟨[(.slice wire), int, int, int, .bool], (.slice wire), c_spec_l03Put⟩)], [], [(88, ⟨[int], int, k_spec_l01Below⟩), (112, ⟨[int], .bool, k_spec_l01Once⟩)], A, []⟩
def A62 (c_spec_l01New : (Value × Unit → Option (Option (Value × Int × Int)))) (k_spec_l01Below : (Option (Value × Int × Int) → (Int × Unit) → Option (Option (Value × Int × Int) × Int))) (c_spec_l03Put : ((List (Int × Int × Int)) × Int × Int × Int × Bool × Unit → Option (List (Int × Int × Int)))) (k_spec_l01Once : (Option (Value × Int × Int) → (Int × Unit) → Option (Option (Value × Int × Int) × Bool))) (N : Nat) : List (Nat × Loop (Ty.den net)) := [(0, ⟨[(2, .box true (.pair (.num .i64) (.pair (.num .i64) (.pair (.num .i64) (.slice (.pair (.num .i64) (.pair (.num .i64) (.num .i64)))))))), (3, .own .cur), (4, .box true (.pair (.num .i64) (.pair (.num .i64) (.pair (.num .i64) (.slice (.pair (.num .i64) (.pair (.num .i64) (.num .i64)))))))), (5, .ro none (.num .i64))], r_spec_MakeDisk_L0 c_spec_l01New k_spec_l01Below c_spec_l03Put k_spec_l01Once N⟩)]
theorem K62 (c_spec_l01New : (Value × Unit → Option (Option (Value × Int × Int)))) (k_spec_l01Below : (Option (Value × Int × Int) → (Int × Unit) → Option (Option (Value × Int × Int) × Int))) (c_spec_l03Put : ((List (Int × Int × Int)) × Int × Int × Int × Bool × Unit → Option (List (Int × Int × Int)))) (k_spec_l01Once : (Option (Value × Int × Int) → (Int × Unit) → Option (Option (Value × Int × Int) × Bool))) (A : Option (Nat × Obj)) (N : Nat) (a0 : Value) : fnK N (E62 c_spec_l01New k_spec_l01Below c_spec_l03Put k_spec_l01Once A) Go.Proofs.Try.f62 [.raw] net (A62 c_spec_l01New k_spec_l01Below c_spec_l03Put k_spec_l01Once N) (a0, ()) = r_spec_MakeDisk c_spec_l01New k_spec_l01Below c_spec_l03Put k_spec_l01Once N a0 := by kernel_rfl
theorem L62 (c_spec_l01New : (Value × Unit → Option (Option (Value × Int × Int)))) (k_spec_l01Below : (Option (Value × Int × Int) → (Int × Unit) → Option (Option (Value × Int × Int) × Int))) (c_spec_l03Put : ((List (Int × Int × Int)) × Int × Int × Int × Bool × Unit → Option (List (Int × Int × Int)))) (k_spec_l01Once : (Option (Value × Int × Int) → (Int × Unit) → Option (Option (Value × Int × Int) × Bool))) (A : Option (Nat × Obj)) (N : Nat) : LoopsOk N (E62 c_spec_l01New k_spec_l01Below c_spec_l03Put k_spec_l01Once A) (A62 c_spec_l01New k_spec_l01Below c_spec_l03Put k_spec_l01Once N) Go.Proofs.Try.f62.ntmps (retOf (E62 c_spec_l01New k_spec_l01Below c_spec_l03Put k_spec_l01Once A) Go.Proofs.Try.f62 net) (loopsOf (Go.Proofs.Try.f62.body.getD .skip)) :=
  LoopsOk.of (l := [(0, lb Go.Proofs.Try.f62 0)]) (by kernel_rfl) (.cons (L := ⟨[(2, .box true (.pair (.num .i64) (.pair (.num .i64) (.pair (.num .i64) (.slice (.pair (.num .i64) (.pair (.num .i64) (.num .i64)))))))), (3, .own .cur), (4, .box true (.pair (.num .i64) (.pair (.num .i64) (.pair (.num .i64) (.slice (.pair (.num .i64) (.pair (.num .i64) (.num .i64)))))))), (5, .ro none (.num .i64))], r_spec_MakeDisk_L0 c_spec_l01New k_spec_l01Below c_spec_l03Put k_spec_l01Once N⟩) (by kernel_rfl) (by intro s kc ke env; kernel_rfl) .nil)
theorem There62 : There Go.Proofs.Try.prog 62 := ⟨_, Go.Proofs.Try.func62, by kernel_rfl, by kernel_rfl⟩
theorem C62 {A : Option (Nat × Obj)} {c_spec_l01New : (Value × Unit → Option (Option (Value × Int × Int)))} {k_spec_l01Below : (Option (Value × Int × Int) → (Int × Unit) → Option (Option (Value × Int × Int) × Int))} {c_spec_l03Put : ((List (Int × Int × Int)) × Int × Int × Int × Bool × Unit → Option (List (Int × Int × Int)))} {k_spec_l01Once : (Option (Value × Int × Int) → (Int × Unit) → Option (Option (Value × Int × Int) × Bool))} (h_c_spec_l01New : ContractA Go.Proofs.Try.prog A 67 ⟨[.raw], .cur, c_spec_l01New⟩) (h_k_spec_l01Below : CurC Go.Proofs.Try.prog A 88 ⟨[int], int, k_spec_l01Below⟩) (h_c_spec_l03Put : ContractA Go.Proofs.Try.prog A 104 ⟨[(.slice wire), int, int, int, .bool], (.slice wire), c_spec_l03Put⟩) (h_k_spec_l01Once : CurC Go.Proofs.Try.prog A 112 ⟨[int], .bool, k_spec_l01Once⟩) {f : (Value × Unit → Option (Int × Int × Int × List (Int × Int × Int)))} (h : ∀ a0 r, f (a0, ()) = some r → ∃ N, r_spec_MakeDisk c_spec_l01New k_spec_l01Below c_spec_l03Put k_spec_l01Once N a0 = some r) : ContractA Go.Proofs.Try.prog A 62 ⟨[.raw], net, f⟩ := by
  refine contract (E := (E62 c_spec_l01New k_spec_l01Below c_spec_l03Put k_spec_l01Once A)) (envOf table ⟨⟨h_c_spec_l01New, There67⟩, ⟨⟨h_c_spec_l03Put, There104⟩, trivial⟩⟩ trivial ⟨⟨h_k_spec_l01Below, There88⟩, ⟨⟨h_k_spec_l01Once, There112⟩, trivial⟩⟩) mixed Go.Proofs.Try.func62 (c := Go.Proofs.Try.f62.body.getD .skip) (by kernel_rfl) (Nat.le_of_ble_eq_true (by kernel_rfl)) fun xs r hr => ?_
  obtain ⟨a0, _⟩ := xs
  obtain ⟨N, hN⟩ := h _ r hr
  exact ⟨N, A62 c_spec_l01New k_spec_l01Below c_spec_l03Put k_spec_l01Once N, L62 c_spec_l01New k_spec_l01Below c_spec_l03Put k_spec_l01Once A N, (K62 c_spec_l01New k_spec_l01Below c_spec_l03Put k_spec_l01Once A N a0).trans hN⟩
theorem X62 {A : Option (Nat × Obj)} : ContractA Go.Proofs.Try.prog A 62 ⟨[.raw], net, e_spec_MakeDisk A⟩ := C62 X67 X88 X104 X112 fun _ _ h => ⟨N0, h⟩
-- slices_Index_int
def E143 (A : Option (Nat × Obj)) : Env := ⟨tys, [], [], [], [], A, []⟩
def A143 (N : Nat) : List (Nat × Loop (Ty.den int)) := [(0, ⟨[(0, .ro none (.slice (.num .i64))), (1, .ro none (.num .i64)), (7, .ro none (.num .i64)), (8, .ro none (.num .i64))], r_slices_Index_int_L0 N⟩)]
theorem K143 (A : Option (Nat × Obj)) (N : Nat) (a0 : (List Int)) (a1 : Int) : fnK N (E143 A) Go.Proofs.Try.f143 [(.slice int), int] int (A143 N) (a0, a1, ()) = r_slices_Index_int N a0 a1 := by kernel_rfl
theorem L143 (A : Option (Nat × Obj)) (N : Nat) : LoopsOk N (E143 A) (A143 N) Go.Proofs.Try.f143.ntmps (retOf (E143 A) Go.Proofs.Try.f143 int) (loopsOf (Go.Proofs.Try.f143.body.getD .skip)) :=
  LoopsOk.of (l := [(0, lb Go.Proofs.Try.f143 0)]) (by kernel_rfl) (.cons (L := ⟨[(0, .ro none (.slice (.num .i64))), (1, .ro none (.num .i64)), (7, .ro none (.num .i64)), (8, .ro none (.num .i64))], r_slices_Index_int_L0 N⟩) (by kernel_rfl) (by intro s kc ke env; kernel_rfl) .nil)
theorem There143 : There Go.Proofs.Try.prog 143 := ⟨_, Go.Proofs.Try.func143, by kernel_rfl, by kernel_rfl⟩
theorem C143 {A : Option (Nat × Obj)} {f : ((List Int) × Int × Unit → Option Int)} (h : ∀ a0 a1 r, f (a0, a1, ()) = some r → ∃ N, r_slices_Index_int N a0 a1 = some r) : ContractA Go.Proofs.Try.prog A 143 ⟨[(.slice int), int], int, f⟩ := by
  refine contract (E := (E143 A)) (envOf table trivial trivial trivial) mixed Go.Proofs.Try.func143 (c := Go.Proofs.Try.f143.body.getD .skip) (by kernel_rfl) (Nat.le_of_ble_eq_true (by kernel_rfl)) fun xs r hr => ?_
  obtain ⟨a0, a1, _⟩ := xs
  obtain ⟨N, hN⟩ := h _ _ r hr
  exact ⟨N, A143 N, L143 A N, (K143 A N a0 a1).trans hN⟩
theorem X143 {A : Option (Nat × Obj)} : ContractA Go.Proofs.Try.prog A 143 ⟨[(.slice int), int], int, e_slices_Index_int⟩ := C143 fun _ _ _ h => ⟨N0, h⟩
-- slices_Contains_int
def E121 (c_slices_Index_int : ((List Int) × Int × Unit → Option Int)) (A : Option (Nat × Obj)) : Env := ⟨tys, [], [(143, ⟨[(.slice int), int], int, c_slices_Index_int⟩)], [], [], A, []⟩
def A121 (_c_slices_Index_int : ((List Int) × Int × Unit → Option Int)) (_N : Nat) : List (Nat × Loop (Ty.den .bool)) := []
theorem K121 (c_slices_Index_int : ((List Int) × Int × Unit → Option Int)) (A : Option (Nat × Obj)) (N : Nat) (a0 : (List Int)) (a1 : Int) : fnK N (E121 c_slices_Index_int A) Go.Proofs.Try.f121 [(.slice int), int] .bool (A121 c_slices_Index_int N) (a0, a1, ()) = r_slices_Contains_int c_slices_Index_int N a0 a1 := by kernel_rfl
theorem L121 (c_slices_Index_int : ((List Int) × Int × Unit → Option Int)) (A : Option (Nat × Obj)) (N : Nat) : LoopsOk N (E121 c_slices_Index_int A) (A121 c_slices_Index_int N) Go.Proofs.Try.f121.ntmps (retOf (E121 c_slices_Index_int A) Go.Proofs.Try.f121 .bool) (loopsOf (Go.Proofs.Try.f121.body.getD .skip)) :=
  LoopsOk.of (l := []) (by kernel_rfl) .nil
theorem There121 : There Go.Proofs.Try.prog 121 := ⟨_, Go.Proofs.Try.func121, by kernel_rfl, by kernel_rfl⟩
theorem C121 {A : Option (Nat × Obj)} {c_slices_Index_int : ((List Int) × Int × Unit → Option Int)} (h_c_slices_Index_int : ContractA Go.Proofs.Try.prog A 143 ⟨[(.slice int), int], int, c_slices_Index_int⟩) {f : ((List Int) × Int × Unit → Option Bool)} (h : ∀ a0 a1 r, f (a0, a1, ()) = some r → ∃ N, r_slices_Contains_int c_slices_Index_int N a0 a1 = some r) : ContractA Go.Proofs.Try.prog A 121 ⟨[(.slice int), int], .bool, f⟩ := by
  refine contract (E := (E121 c_slices_Index_int A)) (envOf table ⟨⟨h_c_slices_Index_int, There143⟩, trivial⟩ trivial trivial) mixed Go.Proofs.Try.func121 (c := Go.Proofs.Try.f121.body.getD .skip) (by kernel_rfl) (Nat.le_of_ble_eq_true (by kernel_rfl)) fun xs r hr => ?_
  obtain ⟨a0, a1, _⟩ := xs
  obtain ⟨N, hN⟩ := h _ _ r hr
  exact ⟨N, A121 c_slices_Index_int N, L121 c_slices_Index_int A N, (K121 c_slices_Index_int A N a0 a1).trans hN⟩
theorem X121 {A : Option (Nat × Obj)} : ContractA Go.Proofs.Try.prog A 121 ⟨[(.slice int), int], .bool, e_slices_Contains_int⟩ := C121 X143 fun _ _ _ h => ⟨N0, h⟩
-- slices_Clone_int
def E114 (A : Option (Nat × Obj)) : Env := ⟨tys, [], [], [], [], A, []⟩
def A114 (_N : Nat) : List (Nat × Loop (Ty.den (.slice int))) := []
theorem K114 (A : Option (Nat × Obj)) (N : Nat) (a0 : (List Int)) : fnK N (E114 A) Go.Proofs.Try.f114 [(.slice int)] (.slice int) (A114 N) (a0, ()) = r_slices_Clone_int N a0 := by kernel_rfl
theorem L114 (A : Option (Nat × Obj)) (N : Nat) : LoopsOk N (E114 A) (A114 N) Go.Proofs.Try.f114.ntmps (retOf (E114 A) Go.Proofs.Try.f114 (.slice int)) (loopsOf (Go.Proofs.Try.f114.body.getD .skip)) :=
  LoopsOk.of (l := []) (by kernel_rfl) .nil
theorem There114 : There Go.Proofs.Try.prog 114 := ⟨_, Go.Proofs.Try.func114, by kernel_rfl, by kernel_rfl⟩
theorem C114 {A : Option (Nat × Obj)} {f : ((List Int) × Unit → Option (List Int))} (h : ∀ a0 r, f (a0, ()) = some r → ∃ N, r_slices_Clone_int N a0 = some r) : ContractA Go.Proofs.Try.prog A 114 ⟨[(.slice int)], (.slice int), f⟩ := by
  refine contract (E := (E114 A)) (envOf table trivial trivial trivial) mixed Go.Proofs.Try.func114 (c := Go.Proofs.Try.f114.body.getD .skip) (by kernel_rfl) (Nat.le_of_ble_eq_true (by kernel_rfl)) fun xs r hr => ?_
  obtain ⟨a0, _⟩ := xs
  obtain ⟨N, hN⟩ := h _ r hr
  exact ⟨N, A114 N, L114 A N, (K114 A N a0).trans hN⟩
theorem X114 {A : Option (Nat × Obj)} : ContractA Go.Proofs.Try.prog A 114 ⟨[(.slice int)], (.slice int), e_slices_Clone_int⟩ := C114 fun _ _ h => ⟨N0, h⟩
-- impl_choices
def E113 (c_slices_Contains_int : ((List Int) × Int × Unit → Option Bool)) (c_slices_Clone_int : ((List Int) × Unit → Option (List Int))) (A : Option (Nat × Obj)) : Env := ⟨tys, [], [(121, ⟨[(.slice int), int], .bool, c_slices_Contains_int⟩), (114, ⟨[(.slice int)], (.slice int), c_slices_Clone_int⟩)], [], [], A, []⟩
def A113 (c_slices_Contains_int : ((List Int) × Int × Unit → Option Bool)) (c_slices_Clone_int : ((List Int) × Unit → Option (List Int))) (N : Nat) : List (Nat × Loop (Ty.den (.slice (.slice int)))) := [(0, ⟨[(0, .ro none (.num .i64)), (5, .own (.slice (.slice (.num .i64)))), (12, .ro none (.num .i64)), (13, .ro none (.num .i64))], r_impl_choices_L0 c_slices_Contains_int c_slices_Clone_int N⟩), (2, ⟨[(0, .ro none (.num .i64)), (6, .own (.slice (.slice (.num .i64)))), (12, .ro none (.num .i64)), (13, .ro none (.num .i64)), (16, .ro (some 5) (.slice (.slice (.num .i64)))), (17, .ro none (.num .i64)), (18, .ro none (.num .i64))], r_impl_choices_L2 c_slices_Contains_int c_slices_Clone_int N⟩), (4, ⟨[(0, .ro none (.num .i64)), (6, .own (.slice (.slice (.num .i64)))), (8, .ro (some 5) (.slice (.num .i64))), (12, .ro none (.num .i64)), (13, .ro none (.num .i64)), (16, .ro (some 5) (.slice (.slice (.num .i64)))), (17, .ro none (.num .i64)), (18, .ro none (.num .i64)), (22, .ro none (.num .i64)), (23, .ro none (.num .i64))], r_impl_choices_L4 c_slices_Contains_int c_slices_Clone_int N⟩)]
theorem K113 (c_slices_Contains_int : ((List Int) × Int × Unit → Option Bool)) (c_slices_Clone_int : ((List Int) × Unit → Option (List Int))) (A : Option (Nat × Obj)) (N : Nat) (a0 : Int) (a1 : Int) : fnK N (E113 c_slices_Contains_int c_slices_Clone_int A) Go.Proofs.Try.f113 [int, int] (.slice (.slice int)) (A113 c_slices_Contains_int c_slices_Clone_int N) (a0, a1, ()) = r_impl_choices c_slices_Contains_int c_slices_Clone_int N a0 a1 := by kernel_rfl
theorem L113 (c_slices_Contains_int : ((List Int) × Int × Unit → Option Bool)) (c_slices_Clone_int : ((List Int) × Unit → Option (List Int))) (A : Option (Nat × Obj)) (N : Nat) : LoopsOk N (E113 c_slices_Contains_int c_slices_Clone_int A) (A113 c_slices_Contains_int c_slices_Clone_int N) Go.Proofs.Try.f113.ntmps (retOf (E113 c_slices_Contains_int c_slices_Clone_int A) Go.Proofs.Try.f113 (.slice (.slice int))) (loopsOf (Go.Proofs.Try.f113.body.getD .skip)) :=
  LoopsOk.of (l := [(0, lb Go.Proofs.Try.f113 0), (2, lb Go.Proofs.Try.f113 1), (4, lb Go.Proofs.Try.f113 2)]) (by kernel_rfl) (.cons (L := ⟨[(0, .ro none (.num .i64)), (5, .own (.slice (.slice (.num .i64)))), (12, .ro none (.num .i64)), (13, .ro none (.num .i64))], r_impl_choices_L0 c_slices_Contains_int c_slices_Clone_int N⟩) (by kernel_rfl) (by intro s kc ke env; kernel_rfl) (.cons (L := ⟨[(0, .ro none (.num .i64)), (6, .own (.slice (.slice (.num .i64)))), (12, .ro none (.num .i64)), (13, .ro none (.num .i64)), (16, .ro (some 5) (.slice (.slice (.num .i64)))), (17, .ro none (.num .i64)), (18, .ro none (.num .i64))], r_impl_choices_L2 c_slices_Contains_int c_slices_Clone_int N⟩) (by kernel_rfl) (by intro s kc ke env; kernel_rfl) (.cons (L := ⟨[(0, .ro none (.num .i64)), (6, .own (.slice (.slice (.num .i64)))), (8, .ro (some 5) (.slice (.num .i64))), (12, .ro none (.num .i64)), (13, .ro none (.num .i64)), (16, .ro (some 5) (.slice (.slice (.num .i64)))), (17, .ro none (.num .i64)), (18, .ro none (.num .i64)), (22, .ro none (.num .i64)), (23, .ro none (.num .i64))], r_impl_choices_L4 c_slices_Contains_int c_slices_Clone_int N⟩) (by kernel_rfl) (by intro s kc ke env; kernel_rfl) .nil)))
theorem There113 : There Go.Proofs.Try.prog 113 := ⟨_, Go.Proofs.Try.func113, by kernel_rfl, by kernel_rfl⟩
theorem C113 {A : Option (Nat × Obj)} {c_slices_Contains_int : ((List Int) × Int × Unit → Option Bool)} {c_slices_Clone_int : ((List Int) × Unit → Option (List Int))} (h_c_slices_Contains_int : ContractA Go.Proofs.Try.prog A 121 ⟨[(.slice int), int], .bool, c_slices_Contains_int⟩) (h_c_slices_Clone_int : ContractA Go.Proofs.Try.prog A 114 ⟨[(.slice int)], (.slice int), c_slices_Clone_int⟩) {f : (Int × Int × Unit → Option (List (List Int)))} (h : ∀ a0 a1 r, f (a0, a1, ()) = some r → ∃ N, r_impl_choices c_slices_Contains_int c_slices_Clone_int N a0 a1 = some r) : ContractA Go.Proofs.Try.prog A 113 ⟨[int, int], (.slice (.slice int)), f⟩ := by
  refine contract (E := (E113 c_slices_Contains_int c_slices_Clone_int A)) (envOf table ⟨⟨h_c_slices_Contains_int, There121⟩, ⟨⟨h_c_slices_Clone_int, There114⟩, trivial⟩⟩ trivial trivial) mixed Go.Proofs.Try.func113 (c := Go.Proofs.Try.f113.body.getD .skip) (by kernel_rfl) (Nat.le_of_ble_eq_true (by kernel_rfl)) fun xs r hr => ?_
  obtain ⟨a0, a1, _⟩ := xs
  obtain ⟨N, hN⟩ := h _ _ r hr
  exact ⟨N, A113 c_slices_Contains_int c_slices_Clone_int N, L113 c_slices_Contains_int c_slices_Clone_int A N, (K113 c_slices_Contains_int c_slices_Clone_int A N a0 a1).trans hN⟩
theorem X113 {A : Option (Nat × Obj)} : ContractA Go.Proofs.Try.prog A 113 ⟨[int, int], (.slice (.slice int)), e_impl_choices⟩ := C113 X121 X114 fun _ _ _ h => ⟨N0, h⟩
-- slices_Reverse_int
theorem There115 : There Go.Proofs.Try.prog 115 := ⟨_, Go.Proofs.Try.func115, by kernel_rfl, by kernel_rfl⟩
end Go.Sx.S
namespace Go.Proofs
open Go.Shelf
def Try.laysReverse_ren : Go.Shelf.Ren := ⟨fun | 112 => 115 | n => n, fun | 28 => 47 | 3 => 3 | 4 => 4 | 0 => 0 | n => n, fun | n => n⟩
theorem Try.laysReverse : Go.Proofs.Lays.n112 Try.prog Try.laysReverse_ren := {
  mixed := by kernel_rfl
  f112 := Try.func115.trans (congrArg some (by kernel_rfl))
  t0 := Try.underlying0
  a0 := Try.isAgg0
  z0 := Try.sizeOf0
  v0 := Try.zeroValue0
  t3 := Try.underlying3
  a3 := Try.isAgg3
  z3 := Try.sizeOf3
  v3 := Try.zeroValue3
  t4 := Try.underlying4
  a4 := Try.isAgg4
  z4 := Try.sizeOf4
  v4 := Try.zeroValue4
  t28 := Try.underlying47
  a28 := Try.isAgg47
  z28 := Try.sizeOf47
  v28 := Try.zeroValue47 }
end Go.Proofs
namespace Go.Sx.S
open Go Go.Sx Go.Sx.R
theorem X115 : MutC Go.Proofs.Try.prog 115 ⟨(.slice int), 0, [], none, e_slices_Reverse_int⟩ :=
  mutC_reverse (fun blk off cap zs w hH hl => Go.Proofs.Any.slices_Reverse_int Go.Proofs.Try.laysReverse blk off cap zs w hH hl) (fun a cap w => Go.Proofs.Any.slices_Reverse_int_empty Go.Proofs.Try.laysReverse a cap w)

-- impl_indicesOk
def E80 (c_slices_Contains_int : ((List Int) × Int × Unit → Option Bool)) (A : Option (Nat × Obj)) : Env := ⟨tys, [], [(121, ⟨[(.slice int), int], .bool, c_slices_Contains_int⟩)], [], [], A, []⟩
def A80 (c_slices_Contains_int : ((List Int) × Int × Unit → Option Bool)) (N : Nat) : List (Nat × Loop (Ty.den .bool)) := [(0, ⟨[(0, .ro none (.slice (.num .i64))), (1, .ro none (.num .i64)), (7, .ro none (.slice (.num .i64))), (8, .ro none (.num .i64)), (9, .ro none (.num .i64))], r_impl_indicesOk_L0 c_slices_Contains_int N⟩)]
theorem K80 (c_slices_Contains_int : ((List Int) × Int × Unit → Option Bool)) (A : Option (Nat × Obj)) (N : Nat) (a0 : (List Int)) (a1 : Int) : fnK N (E80 c_slices_Contains_int A) Go.Proofs.Try.f80 [(.slice int), int] .bool (A80 c_slices_Contains_int N) (a0, a1, ()) = r_impl_indicesOk c_slices_Contains_int N a0 a1 := by kernel_rfl
theorem L80 (c_slices_Contains_int : ((List Int) × Int × Unit → Option Bool)) (A : Option (Nat × Obj)) (N : Nat) : LoopsOk N (E80 c_slices_Contains_int A) (A80 c_slices_Contains_int N) Go.Proofs.Try.f80.ntmps (retOf (E80 c_slices_Contains_int A) Go.Proofs.Try.f80 .bool) (loopsOf (Go.Proofs.Try.f80.body.getD .skip)) :=
  LoopsOk.of (l := [(0, lb Go.Proofs.Try.f80 0)]) (by kernel_rfl) (.cons (L := ⟨[(0, .ro none (.slice (.num .i64))), (1, .ro none (.num .i64)), (7, .ro none (.slice (.num .i64))), (8, .ro none (.num .i64)), (9, .ro none (.num .i64))], r_impl_indicesOk_L0 c_slices_Contains_int N⟩) (by kernel_rfl) (by intro s kc ke env; kernel_rfl) .nil)
theorem There80 : There Go.Proofs.Try.prog 80 := ⟨_, Go.Proofs.Try.func80, by kernel_rfl, by kernel_rfl⟩
theorem C80 {A : Option (Nat × Obj)} {c_slices_Contains_int : ((List Int) × Int × Unit → Option Bool)} (h_c_slices_Contains_int : ContractA Go.Proofs.Try.prog A 121 ⟨[(.slice int), int], .bool, c_slices_Contains_int⟩) {f : ((List Int) × Int × Unit → Option Bool)} (h : ∀ a0 a1 r, f (a0, a1, ()) = some r → ∃ N, r_impl_indicesOk c_slices_Contains_int N a0 a1 = some r) : ContractA Go.Proofs.Try.prog A 80 ⟨[(.slice int), int], .bool, f⟩ := by
  refine contract (E := (E80 c_slices_Contains_int A)) (envOf table ⟨⟨h_c_slices_Contains_int, There121⟩, trivial⟩ trivial trivial) mixed Go.Proofs.Try.func80 (c := Go.Proofs.Try.f80.body.getD .skip) (by kernel_rfl) (Nat.le_of_ble_eq_true (by kernel_rfl)) fun xs r hr => ?_
  obtain ⟨a0, a1, _⟩ := xs
  obtain ⟨N, hN⟩ := h _ _ r hr
  exact ⟨N, A80 c_slices_Contains_int N, L80 c_slices_Contains_int A N, (K80 c_slices_Contains_int A N a0 a1).trans hN⟩
theorem X80 {A : Option (Nat × Obj)} : ContractA Go.Proofs.Try.prog A 80 ⟨[(.slice int), int], .bool, e_impl_indicesOk⟩ := C80 X121 fun _ _ _ h => ⟨N0, h⟩
-- impl_IsCircular
def E64 (c_slices_Clone_int : ((List Int) × Unit → Option (List Int))) (m_slices_Reverse_int : ((List Int) → (Unit) → Option ((List Int) × Unit))) (c_impl_indicesOk : ((List Int) × Int × Unit → Option Bool)) (A : Option (Nat × Obj)) : Env := ⟨tys, [], [(114, ⟨[(.slice int)], (.slice int), c_slices_Clone_int⟩), (80, ⟨[(.slice int), int], .bool, c_impl_indicesOk⟩)], [(115, ⟨(.slice int), 0, [], none, m_slices_Reverse_int⟩)], [], A, []⟩
def A64 (c_slices_Clone_int : ((List Int) × Unit → Option (List Int))) (m_slices_Reverse_int : ((List Int) → (Unit) → Option ((List Int) × Unit))) (c_impl_indicesOk : ((List Int) × Int × Unit → Option Bool)) (N : Nat) : List (Nat × Loop (Ty.den .bool)) := [(0, ⟨[(7, .own (.slice (.num .i64))), (8, .ro none (.num .i64)), (41, .ro (some 7) (.slice (.num .i64))), (42, .ro none (.num .i64)), (43, .ro none (.num .i64))], r_impl_IsCircular_L0 c_slices_Clone_int m_slices_Reverse_int c_impl_indicesOk N⟩)]
theorem K64 (c_slices_Clone_int : ((List Int) × Unit → Option (List Int))) (m_slices_Reverse_int : ((List Int) → (Unit) → Option ((List Int) × Unit))) (c_impl_indicesOk : ((List Int) × Int × Unit → Option Bool)) (A : Option (Nat × Obj)) (N : Nat) (a0 : Int) (a1 : (List Int)) (a2 : (List Int)) : fnK N (E64 c_slices_Clone_int m_slices_Reverse_int c_impl_indicesOk A) Go.Proofs.Try.f64 [int, (.slice int), (.slice int)] .bool (A64 c_slices_Clone_int m_slices_Reverse_int c_impl_indicesOk N) (a0, a1, a2, ()) = r_impl_IsCircular c_slices_Clone_int m_slices_Reverse_int c_impl_indicesOk N a0 a1 a2 := by kernel_rfl
theorem L64 (c_slices_Clone_int : ((List Int) × Unit → Option (List Int))) (m_slices_Reverse_int : ((List Int) → (Unit) → Option ((List Int) × Unit))) (c_impl_indicesOk : ((List Int) × Int × Unit → Option Bool)) (A : Option (Nat × Obj)) (N : Nat) : LoopsOk N (E64 c_slices_Clone_int m_slices_Reverse_int c_impl_indicesOk A) (A64 c_slices_Clone_int m_slices_Reverse_int c_impl_indicesOk N) Go.Proofs.Try.f64.ntmps (retOf (E64 c_slices_Clone_int m_slices_Reverse_int c_impl_indicesOk A) Go.Proofs.Try.f64 .bool) (loopsOf (Go.Proofs.Try.f64.body.getD .skip)) :=
  LoopsOk.of (l := [(0, lb Go.Proofs.Try.f64 0)]) (by kernel_rfl) (.cons (L := ⟨[(7, .own (.slice (.num .i64))), (8, .ro none (.num .i64)), (41, .ro (some 7) (.slice (.num .i64))), (42, .ro none (.num .i64)), (43, .ro none (.num .i64))], r_impl_IsCircular_L0 c_slices_Clone_int m_slices_Reverse_int c_impl_indicesOk N⟩) (by kernel_rfl) (by intro s kc ke env; kernel_rfl) .nil)
theorem There64 : There Go.Proofs.Try.prog 64 := ⟨_, Go.Proofs.Try.func64, by kernel_rfl, by kernel_rfl⟩
theorem C64 {A : Option (Nat × Obj)} {c_slices_Clone_int : ((List Int) × Unit → Option (List Int))} {m_slices_Reverse_int : ((List Int) → (Unit) → Option ((List Int) × Unit))} {c_impl_indicesOk : ((List Int) × Int × Unit → Option Bool)} (h_c_slices_Clone_int : ContractA Go.Proofs.Try.prog A 114 ⟨[(.slice int)], (.slice int), c_slices_Clone_int⟩) (h_m_slices_Reverse_int : MutC Go.Proofs.Try.prog 115 ⟨(.slice int), 0, [], none, m_slices_Reverse_int⟩) (h_c_impl_indicesOk : ContractA Go.Proofs.Try.prog A 80 ⟨[(.slice int), int], .bool, c_impl_indicesOk⟩) {f : (Int × (List Int) × (List Int) × Unit → Option Bool)} (h : ∀ a0 a1 a2 r, f (a0, a1, a2, ()) = some r → ∃ N, r_impl_IsCircular c_slices_Clone_int m_slices_Reverse_int c_impl_indicesOk N a0 a1 a2 = some r) : ContractA Go.Proofs.Try.prog A 64 ⟨[int, (.slice int), (.slice int)], .bool, f⟩ := by
  refine contract (E := (E64 c_slices_Clone_int m_slices_Reverse_int c_impl_indicesOk A)) (envOf table ⟨⟨h_c_slices_Clone_int, There114⟩, ⟨⟨h_c_impl_indicesOk, There80⟩, trivial⟩⟩ ⟨⟨h_m_slices_Reverse_int, There115⟩, trivial⟩ trivial) mixed Go.Proofs.Try.func64 (c := Go.Proofs.Try.f64.body.getD .skip) (by kernel_rfl) (Nat.le_of_ble_eq_true (by kernel_rfl)) fun xs r hr => ?_
  obtain ⟨a0, a1, a2, _⟩ := xs
  obtain ⟨N, hN⟩ := h _ _ _ r hr
  exact ⟨N, A64 c_slices_Clone_int m_slices_Reverse_int c_impl_indicesOk N, L64 c_slices_Clone_int m_slices_Reverse_int c_impl_indicesOk A N, (K64 c_slices_Clone_int m_slices_Reverse_int c_impl_indicesOk A N a0 a1 a2).trans hN⟩
theorem X64 {A : Option (Nat × Obj)} : ContractA Go.Proofs.Try.prog A 64 ⟨[int, (.slice int), (.slice int)], .bool, e_impl_IsCircular⟩ := C64 X114 X115 X80 fun _ _ _ _ h => ⟨N0, h⟩
-- impl_CircularPairs
theorem There63 : There Go.Proofs.Try.prog 63 := ⟨_, Go.Proofs.Try.func63, by kernel_rfl, by kernel_rfl⟩
open Go.Proofs Go.RowKit
theorem cpRow_len (k : Int) (p : List Int) (Q : List (List Int)) : (cpRow k p Q).length ≤ Q.length := by
  simp only [cpRow, List.length_map]; exact List.length_filter_le _ _
theorem flatMap_len {α β : Type} (f : α → List β) (n : Nat) : ∀ (l : List α), (∀ x ∈ l, (f x).length ≤ n) → (l.flatMap f).length ≤ l.length * n
  | [], _ => by simp
  | x :: l, h => by
    have := flatMap_len f n l fun y hy => h y (by simp [hy])
    have hx := h x (by simp)
    simp only [List.flatMap_cons, List.length_append, List.length_cons, Nat.add_mul, Nat.one_mul]
    omega
theorem cpSize_len (k : Int) (P Q : List (List Int)) (h : P.length ≤ 1000) (h2 : Q.length ≤ 1000) : (cpSize k P Q).length ≤ 1000000 := by
  have := flatMap_len (fun p => cpRow k p Q) 1000 P fun p _ => Nat.le_trans (cpRow_len k p Q) h2
  have : P.length * 1000 ≤ 1000 * 1000 := Nat.mul_le_mul_right _ h
  simp only [cpSize]; omega
theorem cpAll_len {k : Int} {n : Nat} (h : cpOk k n) (hn : n ≤ 2) : (cpAll k n).length ≤ 2000000 := by
  have := flatMap_len (fun i => cpSize k (cpL k (i + 1)) (cpL k (i + 1))) 1000000 (List.range n) fun i hi => by
    have := h i (List.mem_range.1 hi)
    exact cpSize_len k _ _ this.2.1 this.2.1
  have h2 : (List.range n).length * 1000000 ≤ 2 * 1000000 := Nat.mul_le_mul_right _ (by simpa using hn)
  simp only [cpAll]; omega
theorem cpAll_succ (k : Int) (n : Nat) : cpAll k (n + 1) = cpAll k n ++ cpSize k (cpL k (n + 1)) (cpL k (n + 1)) := by
  simp [cpAll, List.range_succ]
theorem cpSize_succ (k : Int) {P : List (List Int)} {i : Nat} {p : List Int} (hp : P[i]? = some p) (Q : List (List Int)) : cpSize k (P.take (i + 1)) Q = cpSize k (P.take i) Q ++ cpRow k p Q := by
  simp only [cpSize]
  rw [List.take_add_one, hp]; simp
theorem cpRow_succ (k : Int) (p : List Int) {Q : List (List Int)} {j : Nat} {q : List Int} (hq : Q[j]? = some q) : cpRow k p (Q.take (j + 1)) = cpRow k p (Q.take j) ++ (if circB k p q then [[p, q]] else []) := by
  simp only [cpRow]
  rw [List.take_add_one, hq, List.filter_append, List.map_append]
  cases h : circB k p q <;> simp [h]

theorem choicesC {k m : Int} {L : List (List Int)} (h : e_impl_choices (k, m, ()) = some L) (w : World) : Calls Go.Proofs.Try.prog 113 #[.int .i64 k, .int .i64 m] w fun e w' =>
    ∃ p c, e = .returned (.slice p L.length c) ∧ Grow w w' ∧ Rep true w' T2 [.slice p L.length c] L (fun c => w.heap.size ≤ c ∧ c < w'.heap.size) := by
  refine (X113 (A := none) (k, m, ()) L [.int .i64 k, .int .i64 m] w h ⟨_, _, rfl, ⟨[.int .i64 k], rfl, rfl⟩, _, _, rfl, ⟨[.int .i64 m], rfl, rfl⟩, rfl⟩ (fun _ _ e => by simp at e)).mono fun e w' ⟨v, cs, h1, h2, h3, h4⟩ => ?_
  obtain ⟨p, c, hcs, _⟩ := id h4
  have hcs : cs = [.slice p L.length c] := hcs
  subst hcs
  have hv : v = .slice p L.length c := (List.cons.inj h3).1.symm
  subst hv
  exact ⟨p, c, h1, h2, h4⟩

theorem circC {k : Int} {p q : List Int} {b : Bool} (h : e_impl_IsCircular (k, p, q, ()) = some b) {w : World} {vp vq : Value} (hp : Rep false w T1 [vp] p (fun c => c < w.heap.size)) (hq : Rep false w T1 [vq] q (fun c => c < w.heap.size)) :
    Calls Go.Proofs.Try.prog 64 #[.int .i64 k, vp, vq] w fun e w' => e = .returned (.bool b) ∧ Grow w w' := by
  refine (X64 (A := none) (k, p, q, ()) b [.int .i64 k, vp, vq] w h ⟨_, _, rfl, ⟨[.int .i64 k], rfl, rfl⟩, _, _, rfl, ⟨[vp], rfl, hp⟩, _, _, rfl, ⟨[vq], rfl, hq⟩, rfl⟩ (fun _ _ e => by simp at e)).mono fun e w' ⟨v, cs, h1, h2, h3, h4⟩ => ?_
  simp only [Rep] at h4
  subst h4
  simp only [Shape, Shape1, List.cons.injEq, and_true] at h3
  exact ⟨by rw [h1, h3], h2⟩

theorem cloneC {p : List Int} (h : e_slices_Clone_int (p, ()) = some p) {w : World} {vp : Value} (hp : Rep false w T1 [vp] p (fun c => c < w.heap.size)) :
    Calls Go.Proofs.Try.prog 114 #[vp] w fun e w' => ∃ pc cc, e = .returned (.slice pc p.length cc) ∧ Grow w w' ∧ Rep true w' T1 [.slice pc p.length cc] p (fun c => w.heap.size ≤ c ∧ c < w'.heap.size) := by
  refine (X114 (A := none) (p, ()) p [vp] w h ⟨_, _, rfl, ⟨[vp], rfl, hp⟩, rfl⟩ (fun _ _ e => by simp at e)).mono fun e w' ⟨v, cs, h1, h2, h3, h4⟩ => ?_
  have h3 : cs = [v] := h3
  subst h3
  obtain ⟨pc, cc, hv, _⟩ := id h4
  have hv : v = .slice pc p.length cc := (List.cons.inj hv).1
  subst hv
  exact ⟨pc, cc, h1, h2, h4⟩

theorem cpEnv : EnvOk Go.Proofs.Try.prog ⟨tys, [], [], [], [], none, []⟩ := envOf table trivial trivial trivial
theorem cpT : (⟨tys, [], [], [], [], none, []⟩ : Env).tyOf 75 = some T3 := by kernel_rfl

set_option maxHeartbeats 2000000 in
theorem cpBad (k : Int) (hk : k < 1 ∨ 5 < k) (w : World) : Calls Go.Proofs.Try.prog 63 #[.int .i64 k] w fun e w' => ∃ v, e = .returned v ∧ Gath0 w w' v [] := by
  by_cases h1 : k < 1
  · go_enter Go.Proofs.Try.func63, Go.Proofs.Try.ntmps63
    go_wp2
    go_ret
    exact ⟨_, rfl, Grow.alloc _ _ _, fun _ => False, ⟨_, 0, rfl, Nat.le_refl _, .inl rfl⟩, fun _ h => h.elim⟩
  · have h5 : (5 : Int) < k := by omega
    go_enter Go.Proofs.Try.func63, Go.Proofs.Try.ntmps63
    go_wp2
    go_ret
    exact ⟨_, rfl, Grow.alloc _ _ _, fun _ => False, ⟨_, 0, rfl, Nat.le_refl _, .inl rfl⟩, fun _ h => h.elim⟩

set_option maxRecDepth 1000000 in
set_option maxHeartbeats 4000000 in
theorem cpWalk (k : Int) (hk : ¬ (k < 1 ∨ 5 < k)) (hok : cpOk k (k.toNat / 2)) (w : World) :
    Calls Go.Proofs.Try.prog 63 #[.int .i64 k] w fun e w' => ∃ v, e = .returned v ∧ Gath0 w w' v (cpAll k (k.toNat / 2)) := by
  obtain ⟨K, rfl⟩ : ∃ K : Nat, k = K := ⟨k.toNat, by omega⟩
  have h1 : 1 ≤ K := by omega
  have h5 : K ≤ 5 := by omega
  have hk1 : ¬ (K : Int) < 1 := by omega
  have hk5 : ¬ (5 : Int) < K := by omega
  clear hk
  simp only [Int.toNat_natCast] at hok ⊢
  have HO : Aside _ := hok
  clear hok
  go_enter Go.Proofs.Try.func63, Go.Proofs.Try.ntmps63
  go_wp2_with fail
  go_loopg [3, 4] 10 (fun gg s3 s4 wr => ∃ m : Nat, s4 = .int .i64 ((m : Int) + 1) ∧ m ≤ 2 ∧ m ≤ K / 2 ∧ 2 - m ≤ gg ∧ Aside (Gath0 w wr s3 (cpAll K m)))
  case atStart =>
    exact ⟨0, rfl, by omega, by omega, by omega, (show Aside _ from ⟨Grow.alloc _ _ _, fun _ => False, ⟨_, 0, rfl, Nat.le_refl _, .inl rfl⟩, fun _ h => h.elim⟩)⟩
  case round =>
    obtain ⟨m, rfl, hm2, hmK, hgg, R⟩ := hrel
    by_cases hlt : m < K / 2
    · have hle : (2 : Int) * ((m : Int) + 1) ≤ K := by omega
      obtain ⟨o1, oL, o3⟩ := HO.out m hlt
      have o1 : e_impl_choices (K, (m : Int) + 1, ()) = some (cpL K (m + 1)) := o1
      generalize hL : cpL K (m + 1) = L at o1 oL o3
      have HX := choicesC o1
      have HC : Aside _ := o3
      have HL : Aside _ := hL
      have HX : Aside _ := HX
      clear o1 o3 hL
      go_wp2_with fail
      refine Calls.mono (HX.out wr) ?_
      rintro e w1 ⟨pP, cP, rfl, g1, r1⟩
      have R1 : Aside (Gath1 w w1 u3 (cpAll K m) (.slice pP L.length cP) L) := R.out.with g1 r1
      clear g1 r1
      go_wp2_with fail
      go_loopg [3, 27] L.length (fun gg s3 s27 wr => ∃ i : Nat, s27 = .int .i64 i ∧ i ≤ L.length ∧ L.length - i ≤ gg ∧ Aside (Gath1 w wr s3 (cpAll K m ++ cpSize K (L.take i) L) (.slice pP L.length cP) L))
      case atStart => exact ⟨0, rfl, by omega, by omega, (show Aside _ by simpa [cpSize, Aside] using R1.out)⟩
      case round =>
        obtain ⟨i, rfl, hi, hgi, R2⟩ := hrel
        by_cases hlt2 : i < L.length
        · have hlt2z : (i : Int) < (L.length : Int) := by omega
          obtain ⟨p, hp⟩ : ∃ p, L[i]? = some p := ⟨_, List.getElem?_eq_getElem hlt2⟩
          obtain ⟨b, o, vp, hpP, hcell, R3⟩ := R2.out.elem hp
          subst hpP
          obtain ⟨hclone, hcirc⟩ := HC.out p (List.mem_of_getElem? hp)
          have HP : Aside _ := hp
          have HK : Aside _ := hclone
          have HQ : Aside _ := hcirc
          have R3 : Aside _ := R3
          clear hp hclone hcirc
          go_wp2_with fail
          refine Calls.mono (HX.out wr) ?_
          rintro e w2 ⟨pQ, cQ, rfl, g2, r2⟩
          have R4 : Aside _ := R3.out.fresh g2 r2
          clear g2 r2
          go_wp2_with fail
          go_loopg [3, 35] L.length (fun gg s3 s35 wr => ∃ j : Nat, s35 = .int .i64 j ∧ j ≤ L.length ∧ L.length - j ≤ gg ∧ Aside (Gath w wr s3 (cpAll K m ++ cpSize K (L.take i) L ++ cpRow K p (L.take j)) vp p (.slice (some ⟨b, o, none⟩) L.length cP) L pQ cQ L j))
          case atStart => exact ⟨0, rfl, by omega, by omega, (show Aside _ by simpa [cpRow, Aside] using R4.out)⟩
          case round =>
            obtain ⟨j, rfl, hj, hgj, R5⟩ := hrel
            by_cases hlt3 : j < L.length
            · have hlt3z : (j : Int) < (L.length : Int) := by omega
              obtain ⟨q, hq⟩ : ∃ q, L[j]? = some q := ⟨_, List.getElem?_eq_getElem hlt3⟩
              obtain ⟨b2, o2, pu, cu, hpQ, hcell2, ru⟩ := R5.out.elem hq
              subst hpQ
              generalize hout : cpAll (K : Int) m ++ cpSize (K : Int) (L.take i) L ++ cpRow (K : Int) p (L.take j) = out at R5
              obtain ⟨po, co, hvo⟩ := R5.out.head
              subst hvo
              have HOUT : Aside _ := hout
              have HI := circC (HQ.out q (List.mem_of_getElem? hq)) R5.out.argp ru
              have HQ2 : Aside _ := hq
              have HU : Aside _ := hcell2
              generalize hcb : circB (K : Int) p q = bb at HI
              have HI : Aside _ := HI
              have HCB : Aside _ := hcb
              clear hq ru hcb hout
              cases bb with
              | false =>
                go_wp2_with fail
                refine Calls.mono HI.out ?_
                rintro e w3 ⟨rfl, g3⟩
                have G3 : Aside (Grow wr w3) := g3
                clear g3 hcell2
                go_wp2_with fail
                go_roundg (L.length - (j + 1))
                case measure => omega
                case rel =>
                  refine ⟨j + 1, by go_num, by omega, Nat.le_refl _, (show Aside _ from ?_)⟩
                  rw [cpRow_succ _ _ HQ2.out, HCB.out, ← List.append_assoc, HOUT.out]
                  have := (R5.out.later G3.out).skip HQ2.out
                  simpa [Aside] using this
              | true =>
                go_wp2_with fail
                refine Calls.mono HI.out ?_
                rintro e w3 ⟨rfl, g3⟩
                have R6 : Aside _ := R5.out.later g3
                have HU3 : Aside _ := And.intro (HU.out) g3
                clear g3 hcell2
                go_wp2_with fail
                refine Calls.mono (cloneC HK.out R6.out.argp) ?_
                rintro e w4 ⟨pc, cc, rfl, g4, r4⟩
                have hlen : out.length ≤ 17179869183 := by
                  have k1 : (cpAll (K : Int) m).length ≤ 2000000 := cpAll_len (fun i hi => HO.out i (by omega)) hm2
                  have k2 : (cpSize (K : Int) (L.take i) L).length ≤ 1000000 := cpSize_len _ _ _ (by rw [List.length_take]; omega) oL
                  have k3 : (cpRow (K : Int) p (L.take j)).length ≤ 1000 := Nat.le_trans (cpRow_len _ _ _) (by rw [List.length_take]; omega)
                  rw [← HOUT.out]
                  simp only [List.length_append]
                  omega
                have HR : Aside _ := R6.out.push cpEnv cpT HQ2.out rfl (show w3.cell? ⟨b2, o2 + j, none⟩ = some (.slice pu q.length cu) by rw [← HU3.out.1]; simp only [World.cell?, HU3.out.2.same b2 (by
                  rcases Nat.lt_or_ge b2 wr.heap.size with h | h
                  · exact h
                  · have := HU3.out.1; simp [World.cell?, Array.getElem?_eq_none h] at this)]) g4 r4 hlen 75 (A := 47) (B := 45)
                clear g4 r4 hlen
                obtain ⟨v', w', hrun, R7⟩ := HR.out
                have R7 : Aside _ := R7
                have HRUN : Aside _ := hrun
                clear hrun HR
                go_wp2_with (at_builtin; refine wpList_append_run rfl rfl rfl rfl HRUN.out ?_)
                go_roundg (L.length - (j + 1))
                case measure => omega
                case rel =>
                  refine ⟨j + 1, by go_num, by omega, Nat.le_refl _, (show Aside _ from ?_)⟩
                  rw [cpRow_succ _ _ HQ2.out, HCB.out, ← List.append_assoc, HOUT.out]
                  exact R7.out
            · obtain rfl : j = L.length := by omega
              have hlt3z : ¬ (L.length : Int) < (L.length : Int) := by omega
              go_wp2_with fail
              go_roundg (L.length - (i + 1))
              case measure => omega
              case rel =>
                refine ⟨i + 1, by go_num, by omega, Nat.le_refl _, (show Aside _ from ?_)⟩
                have := R5.out.drop
                rw [List.take_length, List.append_assoc, ← cpSize_succ _ HP.out] at this
                exact this
        · obtain rfl : i = L.length := by omega
          have hlt2z : ¬ (L.length : Int) < (L.length : Int) := by omega
          go_wp2_with fail
          go_roundg (2 - (m + 1))
          case measure => omega
          case rel =>
            refine ⟨m + 1, by go_num, by omega, by omega, Nat.le_refl _, (show Aside _ from ?_)⟩
            have := R2.out.drop
            rw [List.take_length] at this
            rw [cpAll_succ, HL.out]
            exact this
    · obtain rfl : m = K / 2 := by omega
      have hle : ¬ (2 : Int) * (((K / 2 : Nat) : Int) + 1) ≤ K := by omega
      go_wp2_with fail
      go_ret
      exact ⟨_, rfl, R.out⟩

theorem cpContract {k : Int} {u : Unit} {r : List (List (List Int))} (h : e_impl_CircularPairs (k, u) = some r) (w : World) : Calls Go.Proofs.Try.prog 63 #[.int .i64 k] w fun e w' => ∃ v cs, e = .returned v ∧ Grow w w' ∧ Shape T3 v cs ∧ Rep true w' T3 cs r (fun c => w.heap.size ≤ c ∧ c < w'.heap.size) := by
  have key : Calls Go.Proofs.Try.prog 63 #[.int .i64 k] w fun e w' => ∃ v, e = .returned v ∧ Gath0 w w' v r := by
    unfold e_impl_CircularPairs at h
    split at h
    · rename_i hk
      simp only [Option.some.injEq] at h
      subst h
      exact cpBad k hk w
    · rename_i hk
      split at h
      · rename_i hok
        simp only [Option.some.injEq] at h
        subst h
        exact cpWalk k hk hok w
      · simp at h
  refine key.mono fun e w' ⟨v, h1, h2⟩ => ?_
  obtain ⟨So, h3, h4⟩ := h2.ex
  exact ⟨v, [v], h1, h2.grow, rfl, h3.mono h4⟩

theorem X63 : Contract Go.Proofs.Try.prog 63 ⟨[int], .slice (.slice (.slice int)), e_impl_CircularPairs⟩ := by
  intro xs r vs w hr hargs _
  obtain ⟨k, u⟩ := xs
  obtain ⟨v1, vr, rfl, ⟨cs1, sh1, rp1⟩, rfl⟩ := hargs
  have rp1 : cs1 = [.int .i64 k] := rp1
  subst rp1
  have e1 : v1 = .int .i64 k := (List.cons.inj sh1).1.symm
  subst e1
  exact cpContract hr w


-- slices_Index_bool
def E125 (A : Option (Nat × Obj)) : Env := ⟨tys, [], [], [], [], A, []⟩
def A125 (N : Nat) : List (Nat × Loop (Ty.den int)) := [(0, ⟨[(0, .ro none (.slice .bool)), (1, .ro none .bool), (7, .ro none (.num .i64)), (8, .ro none (.num .i64))], r_slices_Index_bool_L0 N⟩)]
theorem K125 (A : Option (Nat × Obj)) (N : Nat) (a0 : (List Bool)) (a1 : Bool) : fnK N (E125 A) Go.Proofs.Try.f125 [(.slice .bool), .bool] int (A125 N) (a0, a1, ()) = r_slices_Index_bool N a0 a1 := by kernel_rfl
theorem L125 (A : Option (Nat × Obj)) (N : Nat) : LoopsOk N (E125 A) (A125 N) Go.Proofs.Try.f125.ntmps (retOf (E125 A) Go.Proofs.Try.f125 int) (loopsOf (Go.Proofs.Try.f125.body.getD .skip)) :=
  LoopsOk.of (l := [(0, lb Go.Proofs.Try.f125 0)]) (by kernel_rfl) (.cons (L := ⟨[(0, .ro none (.slice .bool)), (1, .ro none .bool), (7, .ro none (.num .i64)), (8, .ro none (.num .i64))], r_slices_Index_bool_L0 N⟩) (by kernel_rfl) (by intro s kc ke env; kernel_rfl) .nil)
theorem There125 : There Go.Proofs.Try.prog 125 := ⟨_, Go.Proofs.Try.func125, by kernel_rfl, by kernel_rfl⟩
theorem C125 {A : Option (Nat × Obj)} {f : ((List Bool) × Bool × Unit → Option Int)} (h : ∀ a0 a1 r, f (a0, a1, ()) = some r → ∃ N, r_slices_Index_bool N a0 a1 = some r) : ContractA Go.Proofs.Try.prog A 125 ⟨[(.slice .bool), .bool], int, f⟩ := by
  refine contract (E := (E125 A)) (envOf table trivial trivial trivial) mixed Go.Proofs.Try.func125 (c := Go.Proofs.Try.f125.body.getD .skip) (by kernel_rfl) (Nat.le_of_ble_eq_true (by kernel_rfl)) fun xs r hr => ?_
  obtain ⟨a0, a1, _⟩ := xs
  obtain ⟨N, hN⟩ := h _ _ r hr
  exact ⟨N, A125 N, L125 A N, (K125 A N a0 a1).trans hN⟩
theorem X125 {A : Option (Nat × Obj)} : ContractA Go.Proofs.Try.prog A 125 ⟨[(.slice .bool), .bool], int, e_slices_Index_bool⟩ := C125 fun _ _ _ h => ⟨N0, h⟩
-- slices_Contains_bool
def E90 (c_slices_Index_bool : ((List Bool) × Bool × Unit → Option Int)) (A : Option (Nat × Obj)) : Env := ⟨tys, [], [(125, ⟨[(.slice .bool), .bool], int, c_slices_Index_bool⟩)], [], [], A, []⟩
def A90 (_c_slices_Index_bool : ((List Bool) × Bool × Unit → Option Int)) (_N : Nat) : List (Nat × Loop (Ty.den .bool)) := []
theorem K90 (c_slices_Index_bool : ((List Bool) × Bool × Unit → Option Int)) (A : Option (Nat × Obj)) (N : Nat) (a0 : (List Bool)) (a1 : Bool) : fnK N (E90 c_slices_Index_bool A) Go.Proofs.Try.f90 [(.slice .bool), .bool] .bool (A90 c_slices_Index_bool N) (a0, a1, ()) = r_slices_Contains_bool c_slices_Index_bool N a0 a1 := by kernel_rfl
theorem L90 (c_slices_Index_bool : ((List Bool) × Bool × Unit → Option Int)) (A : Option (Nat × Obj)) (N : Nat) : LoopsOk N (E90 c_slices_Index_bool A) (A90 c_slices_Index_bool N) Go.Proofs.Try.f90.ntmps (retOf (E90 c_slices_Index_bool A) Go.Proofs.Try.f90 .bool) (loopsOf (Go.Proofs.Try.f90.body.getD .skip)) :=
  LoopsOk.of (l := []) (by kernel_rfl) .nil
theorem There90 : There Go.Proofs.Try.prog 90 := ⟨_, Go.Proofs.Try.func90, by kernel_rfl, by kernel_rfl⟩
theorem C90 {A : Option (Nat × Obj)} {c_slices_Index_bool : ((List Bool) × Bool × Unit → Option Int)} (h_c_slices_Index_bool : ContractA Go.Proofs.Try.prog A 125 ⟨[(.slice .bool), .bool], int, c_slices_Index_bool⟩) {f : ((List Bool) × Bool × Unit → Option Bool)} (h : ∀ a0 a1 r, f (a0, a1, ()) = some r → ∃ N, r_slices_Contains_bool c_slices_Index_bool N a0 a1 = some r) : ContractA Go.Proofs.Try.prog A 90 ⟨[(.slice .bool), .bool], .bool, f⟩ := by
  refine contract (E := (E90 c_slices_Index_bool A)) (envOf table ⟨⟨h_c_slices_Index_bool, There125⟩, trivial⟩ trivial trivial) mixed Go.Proofs.Try.func90 (c := Go.Proofs.Try.f90.body.getD .skip) (by kernel_rfl) (Nat.le_of_ble_eq_true (by kernel_rfl)) fun xs r hr => ?_
  obtain ⟨a0, a1, _⟩ := xs
  obtain ⟨N, hN⟩ := h _ _ r hr
  exact ⟨N, A90 c_slices_Index_bool N, L90 c_slices_Index_bool A N, (K90 c_slices_Index_bool A N a0 a1).trans hN⟩
theorem X90 {A : Option (Nat × Obj)} : ContractA Go.Proofs.Try.prog A 90 ⟨[(.slice .bool), .bool], .bool, e_slices_Contains_bool⟩ := C90 X125 fun _ _ _ h => ⟨N0, h⟩
-- cmp_isNaN_int
def E144 (A : Option (Nat × Obj)) : Env := ⟨tys, [], [], [], [], A, []⟩
def A144 (_N : Nat) : List (Nat × Loop (Ty.den .bool)) := []
theorem K144 (A : Option (Nat × Obj)) (N : Nat) (a0 : Int) : fnK N (E144 A) Go.Proofs.Try.f144 [int] .bool (A144 N) (a0, ()) = r_cmp_isNaN_int N a0 := by kernel_rfl
theorem L144 (A : Option (Nat × Obj)) (N : Nat) : LoopsOk N (E144 A) (A144 N) Go.Proofs.Try.f144.ntmps (retOf (E144 A) Go.Proofs.Try.f144 .bool) (loopsOf (Go.Proofs.Try.f144.body.getD .skip)) :=
  LoopsOk.of (l := []) (by kernel_rfl) .nil
theorem There144 : There Go.Proofs.Try.prog 144 := ⟨_, Go.Proofs.Try.func144, by kernel_rfl, by kernel_rfl⟩
theorem C144 {A : Option (Nat × Obj)} {f : (Int × Unit → Option Bool)} (h : ∀ a0 r, f (a0, ()) = some r → ∃ N, r_cmp_isNaN_int N a0 = some r) : ContractA Go.Proofs.Try.prog A 144 ⟨[int], .bool, f⟩ := by
  refine contract (E := (E144 A)) (envOf table trivial trivial trivial) mixed Go.Proofs.Try.func144 (c := Go.Proofs.Try.f144.body.getD .skip) (by kernel_rfl) (Nat.le_of_ble_eq_true (by kernel_rfl)) fun xs r hr => ?_
  obtain ⟨a0, _⟩ := xs
  obtain ⟨N, hN⟩ := h _ r hr
  exact ⟨N, A144 N, L144 A N, (K144 A N a0).trans hN⟩
theorem X144 {A : Option (Nat × Obj)} : ContractA Go.Proofs.Try.prog A 144 ⟨[int], .bool, e_cmp_isNaN_int⟩ := C144 fun _ _ h => ⟨N0, h⟩
-- cmp_Compare_int
def E124 (c_cmp_isNaN_int : (Int × Unit → Option Bool)) (A : Option (Nat × Obj)) : Env := ⟨tys, [], [(144, ⟨[int], .bool, c_cmp_isNaN_int⟩)], [], [], A, []⟩
def A124 (_c_cmp_isNaN_int : (Int × Unit → Option Bool)) (_N : Nat) : List (Nat × Loop (Ty.den int)) := []
theorem K124 (c_cmp_isNaN_int : (Int × Unit → Option Bool)) (A : Option (Nat × Obj)) (N : Nat) (a0 : Int) (a1 : Int) : fnK N (E124 c_cmp_isNaN_int A) Go.Proofs.Try.f124 [int, int] int (A124 c_cmp_isNaN_int N) (a0, a1, ()) = r_cmp_Compare_int c_cmp_isNaN_int N a0 a1 := by kernel_rfl
theorem L124 (c_cmp_isNaN_int : (Int × Unit → Option Bool)) (A : Option (Nat × Obj)) (N : Nat) : LoopsOk N (E124 c_cmp_isNaN_int A) (A124 c_cmp_isNaN_int N) Go.Proofs.Try.f124.ntmps (retOf (E124 c_cmp_isNaN_int A) Go.Proofs.Try.f124 int) (loopsOf (Go.Proofs.Try.f124.body.getD .skip)) :=
  LoopsOk.of (l := []) (by kernel_rfl) .nil
theorem There124 : There Go.Proofs.Try.prog 124 := ⟨_, Go.Proofs.Try.func124, by kernel_rfl, by kernel_rfl⟩
theorem C124 {A : Option (Nat × Obj)} {c_cmp_isNaN_int : (Int × Unit → Option Bool)} (h_c_cmp_isNaN_int : ContractA Go.Proofs.Try.prog A 144 ⟨[int], .bool, c_cmp_isNaN_int⟩) {f : (Int × Int × Unit → Option Int)} (h : ∀ a0 a1 r, f (a0, a1, ()) = some r → ∃ N, r_cmp_Compare_int c_cmp_isNaN_int N a0 a1 = some r) : ContractA Go.Proofs.Try.prog A 124 ⟨[int, int], int, f⟩ := by
  refine contract (E := (E124 c_cmp_isNaN_int A)) (envOf table ⟨⟨h_c_cmp_isNaN_int, There144⟩, trivial⟩ trivial trivial) mixed Go.Proofs.Try.func124 (c := Go.Proofs.Try.f124.body.getD .skip) (by kernel_rfl) (Nat.le_of_ble_eq_true (by kernel_rfl)) fun xs r hr => ?_
  obtain ⟨a0, a1, _⟩ := xs
  obtain ⟨N, hN⟩ := h _ _ r hr
  exact ⟨N, A124 c_cmp_isNaN_int N, L124 c_cmp_isNaN_int A N, (K124 c_cmp_isNaN_int A N a0 a1).trans hN⟩
theorem X124 {A : Option (Nat × Obj)} : ContractA Go.Proofs.Try.prog A 124 ⟨[int, int], int, e_cmp_Compare_int⟩ := C124 X144 fun _ _ _ h => ⟨N0, h⟩
-- cmp_Or_int
def E123 (A : Option (Nat × Obj)) : Env := ⟨tys, [], [], [], [], A, []⟩
def A123 (N : Nat) : List (Nat × Loop (Ty.den int)) := [(0, ⟨[(3, .ro none (.num .i64)), (6, .ro none (.slice (.num .i64))), (7, .ro none (.num .i64)), (8, .ro none (.num .i64))], r_cmp_Or_int_L0 N⟩)]
theorem K123 (A : Option (Nat × Obj)) (N : Nat) (a0 : (List Int)) : fnK N (E123 A) Go.Proofs.Try.f123 [(.slice int)] int (A123 N) (a0, ()) = r_cmp_Or_int N a0 := by kernel_rfl
theorem L123 (A : Option (Nat × Obj)) (N : Nat) : LoopsOk N (E123 A) (A123 N) Go.Proofs.Try.f123.ntmps (retOf (E123 A) Go.Proofs.Try.f123 int) (loopsOf (Go.Proofs.Try.f123.body.getD .skip)) :=
  LoopsOk.of (l := [(0, lb Go.Proofs.Try.f123 0)]) (by kernel_rfl) (.cons (L := ⟨[(3, .ro none (.num .i64)), (6, .ro none (.slice (.num .i64))), (7, .ro none (.num .i64)), (8, .ro none (.num .i64))], r_cmp_Or_int_L0 N⟩) (by kernel_rfl) (by intro s kc ke env; kernel_rfl) .nil)
theorem There123 : There Go.Proofs.Try.prog 123 := ⟨_, Go.Proofs.Try.func123, by kernel_rfl, by kernel_rfl⟩
theorem C123 {A : Option (Nat × Obj)} {f : ((List Int) × Unit → Option Int)} (h : ∀ a0 r, f (a0, ()) = some r → ∃ N, r_cmp_Or_int N a0 = some r) : ContractA Go.Proofs.Try.prog A 123 ⟨[(.slice int)], int, f⟩ := by
  refine contract (E := (E123 A)) (envOf table trivial trivial trivial) mixed Go.Proofs.Try.func123 (c := Go.Proofs.Try.f123.body.getD .skip) (by kernel_rfl) (Nat.le_of_ble_eq_true (by kernel_rfl)) fun xs r hr => ?_
  obtain ⟨a0, _⟩ := xs
  obtain ⟨N, hN⟩ := h _ r hr
  exact ⟨N, A123 N, L123 A N, (K123 A N a0).trans hN⟩
theorem X123 {A : Option (Nat × Obj)} : ContractA Go.Proofs.Try.prog A 123 ⟨[(.slice int)], int, e_cmp_Or_int⟩ := C123 fun _ _ h => ⟨N0, h⟩
-- impl_byEnds
def E89 (c_cmp_Compare_int : (Int × Int × Unit → Option Int)) (c_cmp_Or_int : ((List Int) × Unit → Option Int)) (A : Option (Nat × Obj)) : Env := ⟨tys, [], [(124, ⟨[int, int], int, c_cmp_Compare_int⟩), (123, ⟨[(.slice int)], int, c_cmp_Or_int⟩)], [], [], A, []⟩
def A89 (_c_cmp_Compare_int : (Int × Int × Unit → Option Int)) (_c_cmp_Or_int : ((List Int) × Unit → Option Int)) (_N : Nat) : List (Nat × Loop (Ty.den int)) := []
theorem K89 (c_cmp_Compare_int : (Int × Int × Unit → Option Int)) (c_cmp_Or_int : ((List Int) × Unit → Option Int)) (A : Option (Nat × Obj)) (N : Nat) (a0 : (Int × Int × Int)) (a1 : (Int × Int × Int)) : fnK N (E89 c_cmp_Compare_int c_cmp_Or_int A) Go.Proofs.Try.f89 [wire, wire] int (A89 c_cmp_Compare_int c_cmp_Or_int N) (a0, a1, ()) = r_impl_byEnds c_cmp_Compare_int c_cmp_Or_int N a0 a1 := by kernel_rfl
theorem L89 (c_cmp_Compare_int : (Int × Int × Unit → Option Int)) (c_cmp_Or_int : ((List Int) × Unit → Option Int)) (A : Option (Nat × Obj)) (N : Nat) : LoopsOk N (E89 c_cmp_Compare_int c_cmp_Or_int A) (A89 c_cmp_Compare_int c_cmp_Or_int N) Go.Proofs.Try.f89.ntmps (retOf (E89 c_cmp_Compare_int c_cmp_Or_int A) Go.Proofs.Try.f89 int) (loopsOf (Go.Proofs.Try.f89.body.getD .skip)) :=
  LoopsOk.of (l := []) (by kernel_rfl) .nil
theorem There89 : There Go.Proofs.Try.prog 89 := ⟨_, Go.Proofs.Try.func89, by kernel_rfl, by kernel_rfl⟩
theorem C89 {A : Option (Nat × Obj)} {c_cmp_Compare_int : (Int × Int × Unit → Option Int)} {c_cmp_Or_int : ((List Int) × Unit → Option Int)} (h_c_cmp_Compare_int : ContractA Go.Proofs.Try.prog A 124 ⟨[int, int], int, c_cmp_Compare_int⟩) (h_c_cmp_Or_int : ContractA Go.Proofs.Try.prog A 123 ⟨[(.slice int)], int, c_cmp_Or_int⟩) {f : ((Int × Int × Int) × (Int × Int × Int) × Unit → Option Int)} (h : ∀ a0 a1 r, f (a0, a1, ()) = some r → ∃ N, r_impl_byEnds c_cmp_Compare_int c_cmp_Or_int N a0 a1 = some r) : ContractA Go.Proofs.Try.prog A 89 ⟨[wire, wire], int, f⟩ := by
  refine contract (E := (E89 c_cmp_Compare_int c_cmp_Or_int A)) (envOf table ⟨⟨h_c_cmp_Compare_int, There124⟩, ⟨⟨h_c_cmp_Or_int, There123⟩, trivial⟩⟩ trivial trivial) mixed Go.Proofs.Try.func89 (c := Go.Proofs.Try.f89.body.getD .skip) (by kernel_rfl) (Nat.le_of_ble_eq_true (by kernel_rfl)) fun xs r hr => ?_
  obtain ⟨a0, a1, _⟩ := xs
  obtain ⟨N, hN⟩ := h _ _ r hr
  exact ⟨N, A89 c_cmp_Compare_int c_cmp_Or_int N, L89 c_cmp_Compare_int c_cmp_Or_int A N, (K89 c_cmp_Compare_int c_cmp_Or_int A N a0 a1).trans hN⟩
theorem X89 {A : Option (Nat × Obj)} : ContractA Go.Proofs.Try.prog A 89 ⟨[wire, wire], int, e_impl_byEnds⟩ := C89 X124 X123 fun _ _ _ h => ⟨N0, h⟩
-- impl_NetOk
def E35 (c_slices_Contains_bool : ((List Bool) × Bool × Unit → Option Bool)) (c_impl_byEnds : ((Int × Int × Int) × (Int × Int × Int) × Unit → Option Int)) (A : Option (Nat × Obj)) : Env := ⟨tys, [], [(90, ⟨[(.slice .bool), .bool], .bool, c_slices_Contains_bool⟩), (89, ⟨[wire, wire], int, c_impl_byEnds⟩)], [], [], A, []⟩
def A35 (c_slices_Contains_bool : ((List Bool) × Bool × Unit → Option Bool)) (c_impl_byEnds : ((Int × Int × Int) × (Int × Int × Int) × Unit → Option Int)) (N : Nat) : List (Nat × Loop (Ty.den .bool)) := [(0, ⟨[(1, .box false (.pair (.num .i64) (.pair (.num .i64) (.pair (.num .i64) (.slice (.pair (.num .i64) (.pair (.num .i64) (.num .i64)))))))), (39, .ro none (.slice (.pair (.num .i64) (.pair (.num .i64) (.num .i64))))), (40, .ro none (.num .i64)), (41, .ro none (.num .i64))], r_impl_NetOk_L0 c_slices_Contains_bool c_impl_byEnds N⟩), (2, ⟨[(1, .box false (.pair (.num .i64) (.pair (.num .i64) (.pair (.num .i64) (.slice (.pair (.num .i64) (.pair (.num .i64) (.num .i64)))))))), (5, .own (.slice .bool)), (95, .ro none (.num .i64)), (96, .ro none (.num .i64))], r_impl_NetOk_L2 c_slices_Contains_bool c_impl_byEnds N⟩), (4, ⟨[(1, .box false (.pair (.num .i64) (.pair (.num .i64) (.pair (.num .i64) (.slice (.pair (.num .i64) (.pair (.num .i64) (.num .i64)))))))), (5, .own (.slice .bool)), (95, .ro none (.num .i64)), (96, .ro none (.num .i64)), (99, .ro none (.slice (.pair (.num .i64) (.pair (.num .i64) (.num .i64))))), (100, .ro none (.num .i64)), (101, .ro none (.num .i64))], r_impl_NetOk_L4 c_slices_Contains_bool c_impl_byEnds N⟩)]
theorem K35 (c_slices_Contains_bool : ((List Bool) × Bool × Unit → Option Bool)) (c_impl_byEnds : ((Int × Int × Int) × (Int × Int × Int) × Unit → Option Int)) (A : Option (Nat × Obj)) (N : Nat) (a0 : (Int × Int × Int × List (Int × Int × Int))) : fnK N (E35 c_slices_Contains_bool c_impl_byEnds A) Go.Proofs.Try.f35 [net] .bool (A35 c_slices_Contains_bool c_impl_byEnds N) (a0, ()) = r_impl_NetOk c_slices_Contains_bool c_impl_byEnds N a0 := by kernel_rfl
theorem L35 (c_slices_Contains_bool : ((List Bool) × Bool × Unit → Option Bool)) (c_impl_byEnds : ((Int × Int × Int) × (Int × Int × Int) × Unit → Option Int)) (A : Option (Nat × Obj)) (N : Nat) : LoopsOk N (E35 c_slices_Contains_bool c_impl_byEnds A) (A35 c_slices_Contains_bool c_impl_byEnds N) Go.Proofs.Try.f35.ntmps (retOf (E35 c_slices_Contains_bool c_impl_byEnds A) Go.Proofs.Try.f35 .bool) (loopsOf (Go.Proofs.Try.f35.body.getD .skip)) :=
  LoopsOk.of (l := [(0, lb Go.Proofs.Try.f35 0), (2, lb Go.Proofs.Try.f35 1), (4, lb Go.Proofs.Try.f35 2)]) (by kernel_rfl) (.cons (L := ⟨[(1, .box false (.pair (.num .i64) (.pair (.num .i64) (.pair (.num .i64) (.slice (.pair (.num .i64) (.pair (.num .i64) (.num .i64)))))))), (39, .ro none (.slice (.pair (.num .i64) (.pair (.num .i64) (.num .i64))))), (40, .ro none (.num .i64)), (41, .ro none (.num .i64))], r_impl_NetOk_L0 c_slices_Contains_bool c_impl_byEnds N⟩) (by kernel_rfl) (by intro s kc ke env; kernel_rfl) (.cons (L := ⟨[(1, .box false (.pair (.num .i64) (.pair (.num .i64) (.pair (.num .i64) (.slice (.pair (.num .i64) (.pair (.num .i64) (.num .i64)))))))), (5, .own (.slice .bool)), (95, .ro none (.num .i64)), (96, .ro none (.num .i64))], r_impl_NetOk_L2 c_slices_Contains_bool c_impl_byEnds N⟩) (by kernel_rfl) (by intro s kc ke env; kernel_rfl) (.cons (L := ⟨[(1, .box false (.pair (.num .i64) (.pair (.num .i64) (.pair (.num .i64) (.slice (.pair (.num .i64) (.pair (.num .i64) (.num .i64)))))))), (5, .own (.slice .bool)), (95, .ro none (.num .i64)), (96, .ro none (.num .i64)), (99, .ro none (.slice (.pair (.num .i64) (.pair (.num .i64) (.num .i64))))), (100, .ro none (.num .i64)), (101, .ro none (.num .i64))], r_impl_NetOk_L4 c_slices_Contains_bool c_impl_byEnds N⟩) (by kernel_rfl) (by intro s kc ke env; kernel_rfl) .nil)))
theorem There35 : There Go.Proofs.Try.prog 35 := ⟨_, Go.Proofs.Try.func35, by kernel_rfl, by kernel_rfl⟩
theorem C35 {A : Option (Nat × Obj)} {c_slices_Contains_bool : ((List Bool) × Bool × Unit → Option Bool)} {c_impl_byEnds : ((Int × Int × Int) × (Int × Int × Int) × Unit → Option Int)} (h_c_slices_Contains_bool : ContractA Go.Proofs.Try.prog A 90 ⟨[(.slice .bool), .bool], .bool, c_slices_Contains_bool⟩) (h_c_impl_byEnds : ContractA Go.Proofs.Try.prog A 89 ⟨[wire, wire], int, c_impl_byEnds⟩) {f : ((Int × Int × Int × List (Int × Int × Int)) × Unit → Option Bool)} (h : ∀ a0 r, f (a0, ()) = some r → ∃ N, r_impl_NetOk c_slices_Contains_bool c_impl_byEnds N a0 = some r) : ContractA Go.Proofs.Try.prog A 35 ⟨[net], .bool, f⟩ := by
  refine contract (E := (E35 c_slices_Contains_bool c_impl_byEnds A)) (envOf table ⟨⟨h_c_slices_Contains_bool, There90⟩, ⟨⟨h_c_impl_byEnds, There89⟩, trivial⟩⟩ trivial trivial) mixed Go.Proofs.Try.func35 (c := Go.Proofs.Try.f35.body.getD .skip) (by kernel_rfl) (Nat.le_of_ble_eq_true (by kernel_rfl)) fun xs r hr => ?_
  obtain ⟨a0, _⟩ := xs
  obtain ⟨N, hN⟩ := h _ r hr
  exact ⟨N, A35 c_slices_Contains_bool c_impl_byEnds N, L35 c_slices_Contains_bool c_impl_byEnds A N, (K35 c_slices_Contains_bool c_impl_byEnds A N a0).trans hN⟩
theorem X35 {A : Option (Nat × Obj)} : ContractA Go.Proofs.Try.prog A 35 ⟨[net], .bool, e_impl_NetOk⟩ := C35 X90 X89 fun _ _ h => ⟨N0, h⟩
-- impl_WeightBetween
def E87 (A : Option (Nat × Obj)) : Env := ⟨tys, [], [], [], [], A, []⟩
def A87 (N : Nat) : List (Nat × Loop (Ty.den int)) := [(0, ⟨[(1, .ro none (.num .i64)), (2, .ro none (.num .i64)), (10, .ro none (.slice (.pair (.num .i64) (.pair (.num .i64) (.num .i64))))), (11, .ro none (.num .i64)), (12, .ro none (.num .i64))], r_impl_WeightBetween_L0 N⟩)]
theorem K87 (A : Option (Nat × Obj)) (N : Nat) (a0 : (Int × Int × Int × List (Int × Int × Int))) (a1 : Int) (a2 : Int) : fnK N (E87 A) Go.Proofs.Try.f87 [net, int, int] int (A87 N) (a0, a1, a2, ()) = r_impl_WeightBetween N a0 a1 a2 := by kernel_rfl
theorem L87 (A : Option (Nat × Obj)) (N : Nat) : LoopsOk N (E87 A) (A87 N) Go.Proofs.Try.f87.ntmps (retOf (E87 A) Go.Proofs.Try.f87 int) (loopsOf (Go.Proofs.Try.f87.body.getD .skip)) :=
  LoopsOk.of (l := [(0, lb Go.Proofs.Try.f87 0)]) (by kernel_rfl) (.cons (L := ⟨[(1, .ro none (.num .i64)), (2, .ro none (.num .i64)), (10, .ro none (.slice (.pair (.num .i64) (.pair (.num .i64) (.num .i64))))), (11, .ro none (.num .i64)), (12, .ro none (.num .i64))], r_impl_WeightBetween_L0 N⟩) (by kernel_rfl) (by intro s kc ke env; kernel_rfl) .nil)
theorem There87 : There Go.Proofs.Try.prog 87 := ⟨_, Go.Proofs.Try.func87, by kernel_rfl, by kernel_rfl⟩
theorem C87 {A : Option (Nat × Obj)} {f : ((Int × Int × Int × List (Int × Int × Int)) × Int × Int × Unit → Option Int)} (h : ∀ a0 a1 a2 r, f (a0, a1, a2, ()) = some r → ∃ N, r_impl_WeightBetween N a0 a1 a2 = some r) : ContractA Go.Proofs.Try.prog A 87 ⟨[net, int, int], int, f⟩ := by
  refine contract (E := (E87 A)) (envOf table trivial trivial trivial) mixed Go.Proofs.Try.func87 (c := Go.Proofs.Try.f87.body.getD .skip) (by kernel_rfl) (Nat.le_of_ble_eq_true (by kernel_rfl)) fun xs r hr => ?_
  obtain ⟨a0, a1, a2, _⟩ := xs
  obtain ⟨N, hN⟩ := h _ _ _ r hr
  exact ⟨N, A87 N, L87 A N, (K87 A N a0 a1 a2).trans hN⟩
theorem X87 {A : Option (Nat × Obj)} : ContractA Go.Proofs.Try.prog A 87 ⟨[net, int, int], int, e_impl_WeightBetween⟩ := C87 fun _ _ _ _ h => ⟨N0, h⟩
-- impl_table
def E74 (c_impl_WeightBetween : ((Int × Int × Int × List (Int × Int × Int)) × Int × Int × Unit → Option Int)) (A : Option (Nat × Obj)) : Env := ⟨tys, [], [(87, ⟨[net, int, int], int, c_impl_WeightBetween⟩)], [], [], A, []⟩
def A74 (c_impl_WeightBetween : ((Int × Int × Int × List (Int × Int × Int)) × Int × Int × Unit → Option Int)) (N : Nat) : List (Nat × Loop (Ty.den (.slice (.slice int)))) := [(0, ⟨[(1, .box false (.pair (.num .i64) (.pair (.num .i64) (.pair (.num .i64) (.slice (.pair (.num .i64) (.pair (.num .i64) (.num .i64)))))))), (3, .own (.slice (.slice (.num .i64)))), (10, .ro none (.num .i64)), (11, .ro none (.num .i64))], r_impl_table_L0 c_impl_WeightBetween N⟩), (2, ⟨[(1, .box false (.pair (.num .i64) (.pair (.num .i64) (.pair (.num .i64) (.slice (.pair (.num .i64) (.pair (.num .i64) (.num .i64)))))))), (3, .own (.slice (.slice (.num .i64)))), (4, .ro none (.num .i64)), (10, .ro none (.num .i64)), (11, .ro none (.num .i64)), (24, .ro none (.num .i64)), (25, .ro none (.num .i64))], r_impl_table_L2 c_impl_WeightBetween N⟩)]
theorem K74 (c_impl_WeightBetween : ((Int × Int × Int × List (Int × Int × Int)) × Int × Int × Unit → Option Int)) (A : Option (Nat × Obj)) (N : Nat) (a0 : (Int × Int × Int × List (Int × Int × Int))) : fnK N (E74 c_impl_WeightBetween A) Go.Proofs.Try.f74 [net] (.slice (.slice int)) (A74 c_impl_WeightBetween N) (a0, ()) = r_impl_table c_impl_WeightBetween N a0 := by kernel_rfl
theorem L74 (c_impl_WeightBetween : ((Int × Int × Int × List (Int × Int × Int)) × Int × Int × Unit → Option Int)) (A : Option (Nat × Obj)) (N : Nat) : LoopsOk N (E74 c_impl_WeightBetween A) (A74 c_impl_WeightBetween N) Go.Proofs.Try.f74.ntmps (retOf (E74 c_impl_WeightBetween A) Go.Proofs.Try.f74 (.slice (.slice int))) (loopsOf (Go.Proofs.Try.f74.body.getD .skip)) :=
  LoopsOk.of (l := [(0, lb Go.Proofs.Try.f74 0), (2, lb Go.Proofs.Try.f74 1)]) (by kernel_rfl) (.cons (L := ⟨[(1, .box false (.pair (.num .i64) (.pair (.num .i64) (.pair (.num .i64) (.slice (.pair (.num .i64) (.pair (.num .i64) (.num .i64)))))))), (3, .own (.slice (.slice (.num .i64)))), (10, .ro none (.num .i64)), (11, .ro none (.num .i64))], r_impl_table_L0 c_impl_WeightBetween N⟩) (by kernel_rfl) (by intro s kc ke env; kernel_rfl) (.cons (L := ⟨[(1, .box false (.pair (.num .i64) (.pair (.num .i64) (.pair (.num .i64) (.slice (.pair (.num .i64) (.pair (.num .i64) (.num .i64)))))))), (3, .own (.slice (.slice (.num .i64)))), (4, .ro none (.num .i64)), (10, .ro none (.num .i64)), (11, .ro none (.num .i64)), (24, .ro none (.num .i64)), (25, .ro none (.num .i64))], r_impl_table_L2 c_impl_WeightBetween N⟩) (by kernel_rfl) (by intro s kc ke env; kernel_rfl) .nil))
theorem There74 : There Go.Proofs.Try.prog 74 := ⟨_, Go.Proofs.Try.func74, by kernel_rfl, by kernel_rfl⟩
theorem C74 {A : Option (Nat × Obj)} {c_impl_WeightBetween : ((Int × Int × Int × List (Int × Int × Int)) × Int × Int × Unit → Option Int)} (h_c_impl_WeightBetween : ContractA Go.Proofs.Try.prog A 87 ⟨[net, int, int], int, c_impl_WeightBetween⟩) {f : ((Int × Int × Int × List (Int × Int × Int)) × Unit → Option (List (List Int)))} (h : ∀ a0 r, f (a0, ()) = some r → ∃ N, r_impl_table c_impl_WeightBetween N a0 = some r) : ContractA Go.Proofs.Try.prog A 74 ⟨[net], (.slice (.slice int)), f⟩ := by
  refine contract (E := (E74 c_impl_WeightBetween A)) (envOf table ⟨⟨h_c_impl_WeightBetween, There87⟩, trivial⟩ trivial trivial) mixed Go.Proofs.Try.func74 (c := Go.Proofs.Try.f74.body.getD .skip) (by kernel_rfl) (Nat.le_of_ble_eq_true (by kernel_rfl)) fun xs r hr => ?_
  obtain ⟨a0, _⟩ := xs
  obtain ⟨N, hN⟩ := h _ r hr
  exact ⟨N, A74 c_impl_WeightBetween N, L74 c_impl_WeightBetween A N, (K74 c_impl_WeightBetween A N a0).trans hN⟩
theorem X74 {A : Option (Nat × Obj)} : ContractA Go.Proofs.Try.prog A 74 ⟨[net], (.slice (.slice int)), e_impl_table⟩ := C74 X87 fun _ _ h => ⟨N0, h⟩
-- impl_WeightAt
def E25 (A : Option (Nat × Obj)) : Env := ⟨tys, [], [], [], [], A, []⟩
def A25 (N : Nat) : List (Nat × Loop (Ty.den int)) := [(0, ⟨[(1, .ro none (.num .i64)), (5, .ro none (.num .i64)), (9, .ro none (.slice (.pair (.num .i64) (.pair (.num .i64) (.num .i64))))), (10, .ro none (.num .i64)), (11, .ro none (.num .i64))], r_impl_WeightAt_L0 N⟩)]
theorem K25 (A : Option (Nat × Obj)) (N : Nat) (a0 : (Int × Int × Int × List (Int × Int × Int))) (a1 : Int) : fnK N (E25 A) Go.Proofs.Try.f25 [net, int] int (A25 N) (a0, a1, ()) = r_impl_WeightAt N a0 a1 := by kernel_rfl
theorem L25 (A : Option (Nat × Obj)) (N : Nat) : LoopsOk N (E25 A) (A25 N) Go.Proofs.Try.f25.ntmps (retOf (E25 A) Go.Proofs.Try.f25 int) (loopsOf (Go.Proofs.Try.f25.body.getD .skip)) :=
  LoopsOk.of (l := [(0, lb Go.Proofs.Try.f25 0)]) (by kernel_rfl) (.cons (L := ⟨[(1, .ro none (.num .i64)), (5, .ro none (.num .i64)), (9, .ro none (.slice (.pair (.num .i64) (.pair (.num .i64) (.num .i64))))), (10, .ro none (.num .i64)), (11, .ro none (.num .i64))], r_impl_WeightAt_L0 N⟩) (by kernel_rfl) (by intro s kc ke env; kernel_rfl) .nil)
theorem There25 : There Go.Proofs.Try.prog 25 := ⟨_, Go.Proofs.Try.func25, by kernel_rfl, by kernel_rfl⟩
theorem C25 {A : Option (Nat × Obj)} {f : ((Int × Int × Int × List (Int × Int × Int)) × Int × Unit → Option Int)} (h : ∀ a0 a1 r, f (a0, a1, ()) = some r → ∃ N, r_impl_WeightAt N a0 a1 = some r) : ContractA Go.Proofs.Try.prog A 25 ⟨[net, int], int, f⟩ := by
  refine contract (E := (E25 A)) (envOf table trivial trivial trivial) mixed Go.Proofs.Try.func25 (c := Go.Proofs.Try.f25.body.getD .skip) (by kernel_rfl) (Nat.le_of_ble_eq_true (by kernel_rfl)) fun xs r hr => ?_
  obtain ⟨a0, a1, _⟩ := xs
  obtain ⟨N, hN⟩ := h _ _ r hr
  exact ⟨N, A25 N, L25 A N, (K25 A N a0 a1).trans hN⟩
theorem X25 {A : Option (Nat × Obj)} : ContractA Go.Proofs.Try.prog A 25 ⟨[net, int], int, e_impl_WeightAt⟩ := C25 fun _ _ _ h => ⟨N0, h⟩
-- impl_LaplacianOf
def E24 (c_impl_NetOk : ((Int × Int × Int × List (Int × Int × Int)) × Unit → Option Bool)) (c_impl_table : ((Int × Int × Int × List (Int × Int × Int)) × Unit → Option (List (List Int)))) (c_impl_WeightAt : ((Int × Int × Int × List (Int × Int × Int)) × Int × Unit → Option Int)) (A : Option (Nat × Obj)) : Env := ⟨tys, [], [(35, ⟨[net], .bool, c_impl_NetOk⟩), (74, ⟨[net], (.slice (.slice int)), c_impl_table⟩), (25, ⟨[net, int], int, c_impl_WeightAt⟩)], [], [], A, []⟩
def A24 (c_impl_NetOk : ((Int × Int × Int × List (Int × Int × Int)) × Unit → Option Bool)) (c_impl_table : ((Int × Int × Int × List (Int × Int × Int)) × Unit → Option (List (List Int)))) (c_impl_WeightAt : ((Int × Int × Int × List (Int × Int × Int)) × Int × Unit → Option Int)) (N : Nat) : List (Nat × Loop (Ty.den (.slice (.slice int)))) := [(0, ⟨[(1, .box false (.pair (.num .i64) (.pair (.num .i64) (.pair (.num .i64) (.slice (.pair (.num .i64) (.pair (.num .i64) (.num .i64)))))))), (3, .own (.slice (.slice (.num .i64)))), (12, .ro none (.num .i64)), (13, .ro none (.num .i64))], r_impl_LaplacianOf_L0 c_impl_NetOk c_impl_table c_impl_WeightAt N⟩), (2, ⟨[(1, .box false (.pair (.num .i64) (.pair (.num .i64) (.pair (.num .i64) (.slice (.pair (.num .i64) (.pair (.num .i64) (.num .i64)))))))), (3, .own (.slice (.slice (.num .i64)))), (4, .ro none (.num .i64)), (12, .ro none (.num .i64)), (13, .ro none (.num .i64)), (17, .ro none (.num .i64)), (18, .ro none (.num .i64))], r_impl_LaplacianOf_L2 c_impl_NetOk c_impl_table c_impl_WeightAt N⟩)]
theorem K24 (c_impl_NetOk : ((Int × Int × Int × List (Int × Int × Int)) × Unit → Option Bool)) (c_impl_table : ((Int × Int × Int × List (Int × Int × Int)) × Unit → Option (List (List Int)))) (c_impl_WeightAt : ((Int × Int × Int × List (Int × Int × Int)) × Int × Unit → Option Int)) (A : Option (Nat × Obj)) (N : Nat) (a0 : (Int × Int × Int × List (Int × Int × Int))) : fnK N (E24 c_impl_NetOk c_impl_table c_impl_WeightAt A) Go.Proofs.Try.f24 [net] (.slice (.slice int)) (A24 c_impl_NetOk c_impl_table c_impl_WeightAt N) (a0, ()) = r_impl_LaplacianOf c_impl_NetOk c_impl_table c_impl_WeightAt N a0 := by kernel_rfl
theorem L24 (c_impl_NetOk : ((Int × Int × Int × List (Int × Int × Int)) × Unit → Option Bool)) (c_impl_table : ((Int × Int × Int × List (Int × Int × Int)) × Unit → Option (List (List Int)))) (c_impl_WeightAt : ((Int × Int × Int × List (Int × Int × Int)) × Int × Unit → Option Int)) (A : Option (Nat × Obj)) (N : Nat) : LoopsOk N (E24 c_impl_NetOk c_impl_table c_impl_WeightAt A) (A24 c_impl_NetOk c_impl_table c_impl_WeightAt N) Go.Proofs.Try.f24.ntmps (retOf (E24 c_impl_NetOk c_impl_table c_impl_WeightAt A) Go.Proofs.Try.f24 (.slice (.slice int))) (loopsOf (Go.Proofs.Try.f24.body.getD .skip)) :=
  LoopsOk.of (l := [(0, lb Go.Proofs.Try.f24 0), (2, lb Go.Proofs.Try.f24 1)]) (by kernel_rfl) (.cons (L := ⟨[(1, .box false (.pair (.num .i64) (.pair (.num .i64) (.pair (.num .i64) (.slice (.pair (.num .i64) (.pair (.num .i64) (.num .i64)))))))), (3, .own (.slice (.slice (.num .i64)))), (12, .ro none (.num .i64)), (13, .ro none (.num .i64))], r_impl_LaplacianOf_L0 c_impl_NetOk c_impl_table c_impl_WeightAt N⟩) (by kernel_rfl) (by intro s kc ke env; kernel_rfl) (.cons (L := ⟨[(1, .box false (.pair (.num .i64) (.pair (.num .i64) (.pair (.num .i64) (.slice (.pair (.num .i64) (.pair (.num .i64) (.num .i64)))))))), (3, .own (.slice (.slice (.num .i64)))), (4, .ro none (.num .i64)), (12, .ro none (.num .i64)), (13, .ro none (.num .i64)), (17, .ro none (.num .i64)), (18, .ro none (.num .i64))], r_impl_LaplacianOf_L2 c_impl_NetOk c_impl_table c_impl_WeightAt N⟩) (by kernel_rfl) (by intro s kc ke env; kernel_rfl) .nil))
theorem There24 : There Go.Proofs.Try.prog 24 := ⟨_, Go.Proofs.Try.func24, by kernel_rfl, by kernel_rfl⟩
theorem C24 {A : Option (Nat × Obj)} {c_impl_NetOk : ((Int × Int × Int × List (Int × Int × Int)) × Unit → Option Bool)} {c_impl_table : ((Int × Int × Int × List (Int × Int × Int)) × Unit → Option (List (List Int)))} {c_impl_WeightAt : ((Int × Int × Int × List (Int × Int × Int)) × Int × Unit → Option Int)} (h_c_impl_NetOk : ContractA Go.Proofs.Try.prog A 35 ⟨[net], .bool, c_impl_NetOk⟩) (h_c_impl_table : ContractA Go.Proofs.Try.prog A 74 ⟨[net], (.slice (.slice int)), c_impl_table⟩) (h_c_impl_WeightAt : ContractA Go.Proofs.Try.prog A 25 ⟨[net, int], int, c_impl_WeightAt⟩) {f : ((Int × Int × Int × List (Int × Int × Int)) × Unit → Option (List (List Int)))} (h : ∀ a0 r, f (a0, ()) = some r → ∃ N, r_impl_LaplacianOf c_impl_NetOk c_impl_table c_impl_WeightAt N a0 = some r) : ContractA Go.Proofs.Try.prog A 24 ⟨[net], (.slice (.slice int)), f⟩ := by
  refine contract (E := (E24 c_impl_NetOk c_impl_table c_impl_WeightAt A)) (envOf table ⟨⟨h_c_impl_NetOk, There35⟩, ⟨⟨h_c_impl_table, There74⟩, ⟨⟨h_c_impl_WeightAt, There25⟩, trivial⟩⟩⟩ trivial trivial) mixed Go.Proofs.Try.func24 (c := Go.Proofs.Try.f24.body.getD .skip) (by kernel_rfl) (Nat.le_of_ble_eq_true (by kernel_rfl)) fun xs r hr => ?_
  obtain ⟨a0, _⟩ := xs
  obtain ⟨N, hN⟩ := h _ r hr
  exact ⟨N, A24 c_impl_NetOk c_impl_table c_impl_WeightAt N, L24 c_impl_NetOk c_impl_table c_impl_WeightAt A N, (K24 c_impl_NetOk c_impl_table c_impl_WeightAt A N a0).trans hN⟩
theorem X24 {A : Option (Nat × Obj)} : ContractA Go.Proofs.Try.prog A 24 ⟨[net], (.slice (.slice int)), e_impl_LaplacianOf⟩ := C24 X35 X74 X25 fun _ _ h => ⟨N0, h⟩
-- impl_inner
def E129 (A : Option (Nat × Obj)) : Env := ⟨tys, [], [], [], [], A, []⟩
def A129 (N : Nat) : List (Nat × Loop (Ty.den (.slice int))) := [(0, ⟨[(1, .box false (.pair (.num .i64) (.pair (.num .i64) (.pair (.num .i64) (.slice (.pair (.num .i64) (.pair (.num .i64) (.num .i64)))))))), (3, .own (.slice (.num .i64))), (4, .ro none (.num .i64))], r_impl_inner_L0 N⟩)]
theorem K129 (A : Option (Nat × Obj)) (N : Nat) (a0 : (Int × Int × Int × List (Int × Int × Int))) : fnK N (E129 A) Go.Proofs.Try.f129 [net] (.slice int) (A129 N) (a0, ()) = r_impl_inner N a0 := by kernel_rfl
theorem L129 (A : Option (Nat × Obj)) (N : Nat) : LoopsOk N (E129 A) (A129 N) Go.Proofs.Try.f129.ntmps (retOf (E129 A) Go.Proofs.Try.f129 (.slice int)) (loopsOf (Go.Proofs.Try.f129.body.getD .skip)) :=
  LoopsOk.of (l := [(0, lb Go.Proofs.Try.f129 0)]) (by kernel_rfl) (.cons (L := ⟨[(1, .box false (.pair (.num .i64) (.pair (.num .i64) (.pair (.num .i64) (.slice (.pair (.num .i64) (.pair (.num .i64) (.num .i64)))))))), (3, .own (.slice (.num .i64))), (4, .ro none (.num .i64))], r_impl_inner_L0 N⟩) (by kernel_rfl) (by intro s kc ke env; kernel_rfl) .nil)
theorem There129 : There Go.Proofs.Try.prog 129 := ⟨_, Go.Proofs.Try.func129, by kernel_rfl, by kernel_rfl⟩
theorem C129 {A : Option (Nat × Obj)} {f : ((Int × Int × Int × List (Int × Int × Int)) × Unit → Option (List Int))} (h : ∀ a0 r, f (a0, ()) = some r → ∃ N, r_impl_inner N a0 = some r) : ContractA Go.Proofs.Try.prog A 129 ⟨[net], (.slice int), f⟩ := by
  refine contract (E := (E129 A)) (envOf table trivial trivial trivial) mixed Go.Proofs.Try.func129 (c := Go.Proofs.Try.f129.body.getD .skip) (by kernel_rfl) (Nat.le_of_ble_eq_true (by kernel_rfl)) fun xs r hr => ?_
  obtain ⟨a0, _⟩ := xs
  obtain ⟨N, hN⟩ := h _ r hr
  exact ⟨N, A129 N, L129 A N, (K129 A N a0).trans hN⟩
theorem X129 {A : Option (Nat × Obj)} : ContractA Go.Proofs.Try.prog A 129 ⟨[net], (.slice int), e_impl_inner⟩ := C129 fun _ _ h => ⟨N0, h⟩
-- slices_Delete_int
theorem There118 : There Go.Proofs.Try.prog 118 := ⟨_, Go.Proofs.Try.func118, by kernel_rfl, by kernel_rfl⟩
end Go.Sx.S
namespace Go.Proofs
open Go.Shelf
def Try.laysDelete_ren : Go.Shelf.Ren := ⟨fun | 23 => 118 | n => n, fun | 22 => 47 | 3 => 3 | 4 => 4 | 0 => 0 | n => n, fun | n => n⟩
theorem Try.laysDelete : Go.Proofs.Lays2.n23 Try.prog Try.laysDelete_ren := {
  mixed := by kernel_rfl
  f23 := Try.func118.trans (congrArg some (by kernel_rfl))
  t0 := Try.underlying0
  a0 := Try.isAgg0
  z0 := Try.sizeOf0
  v0 := Try.zeroValue0
  t3 := Try.underlying3
  a3 := Try.isAgg3
  z3 := Try.sizeOf3
  v3 := Try.zeroValue3
  t4 := Try.underlying4
  a4 := Try.isAgg4
  z4 := Try.sizeOf4
  v4 := Try.zeroValue4
  t22 := Try.underlying47
  a22 := Try.isAgg47
  z22 := Try.sizeOf47
  v22 := Try.zeroValue47
  i3 := by kernel_rfl }
end Go.Proofs
namespace Go.Sx.S
open Go Go.Sx Go.Sx.R
theorem X118 : TakeC Go.Proofs.Try.prog 118 ⟨(.slice int), 0, [int, int], some (.slice int), e_slices_Delete_int⟩ :=
  takeC_delete (fun blk off cap i j zs w hH h1 h2 h3 h4 => Go.Proofs.Any.slices_Delete_int Go.Proofs.Try.laysDelete blk off cap i j zs w hH h1 h2 h3 h4) (fun a cap w => Go.Proofs.Any.slices_Delete_int_empty Go.Proofs.Try.laysDelete a cap w)

-- impl_det
def E81 (c_slices_Clone_int : ((List Int) × Unit → Option (List Int))) (m_slices_Delete_int : ((List Int) → (Int × Int × Unit) → Option ((List Int) × (List Int)))) (c_impl_det : ((List (List Int)) × (List Int) × (List Int) × Unit → Option Int)) (A : Option (Nat × Obj)) : Env := ⟨tys, [], [(114, ⟨[(.slice int)], (.slice int), c_slices_Clone_int⟩), (81, ⟨[(.slice (.slice int)), (.slice int), (.slice int)], int, c_impl_det⟩)], [(118, ⟨(.slice int), 0, [int, int], some (.slice int), m_slices_Delete_int⟩)], [], A, []⟩
def A81 (c_slices_Clone_int : ((List Int) × Unit → Option (List Int))) (m_slices_Delete_int : ((List Int) → (Int × Int × Unit) → Option ((List Int) × (List Int)))) (c_impl_det : ((List (List Int)) × (List Int) × (List Int) × Unit → Option Int)) (N : Nat) : List (Nat × Loop (Ty.den int)) := [(0, ⟨[(0, .ro none (.slice (.slice (.num .i64)))), (1, .ro none (.slice (.num .i64))), (2, .ro none (.slice (.num .i64))), (7, .ro none (.num .i64)), (8, .ro none (.num .i64)), (15, .ro none (.slice (.num .i64))), (16, .ro none (.num .i64)), (17, .ro none (.num .i64))], r_impl_det_L0 c_slices_Clone_int m_slices_Delete_int c_impl_det N⟩)]
theorem K81 (c_slices_Clone_int : ((List Int) × Unit → Option (List Int))) (m_slices_Delete_int : ((List Int) → (Int × Int × Unit) → Option ((List Int) × (List Int)))) (c_impl_det : ((List (List Int)) × (List Int) × (List Int) × Unit → Option Int)) (A : Option (Nat × Obj)) (N : Nat) (a0 : (List (List Int))) (a1 : (List Int)) (a2 : (List Int)) : fnK N (E81 c_slices_Clone_int m_slices_Delete_int c_impl_det A) Go.Proofs.Try.f81 [(.slice (.slice int)), (.slice int), (.slice int)] int (A81 c_slices_Clone_int m_slices_Delete_int c_impl_det N) (a0, a1, a2, ()) = r_impl_det c_slices_Clone_int m_slices_Delete_int c_impl_det N a0 a1 a2 := by kernel_rfl
theorem L81 (c_slices_Clone_int : ((List Int) × Unit → Option (List Int))) (m_slices_Delete_int : ((List Int) → (Int × Int × Unit) → Option ((List Int) × (List Int)))) (c_impl_det : ((List (List Int)) × (List Int) × (List Int) × Unit → Option Int)) (A : Option (Nat × Obj)) (N : Nat) : LoopsOk N (E81 c_slices_Clone_int m_slices_Delete_int c_impl_det A) (A81 c_slices_Clone_int m_slices_Delete_int c_impl_det N) Go.Proofs.Try.f81.ntmps (retOf (E81 c_slices_Clone_int m_slices_Delete_int c_impl_det A) Go.Proofs.Try.f81 int) (loopsOf (Go.Proofs.Try.f81.body.getD .skip)) :=
  LoopsOk.of (l := [(0, lb Go.Proofs.Try.f81 0)]) (by kernel_rfl) (.cons (L := ⟨[(0, .ro none (.slice (.slice (.num .i64)))), (1, .ro none (.slice (.num .i64))), (2, .ro none (.slice (.num .i64))), (7, .ro none (.num .i64)), (8, .ro none (.num .i64)), (15, .ro none (.slice (.num .i64))), (16, .ro none (.num .i64)), (17, .ro none (.num .i64))], r_impl_det_L0 c_slices_Clone_int m_slices_Delete_int c_impl_det N⟩) (by kernel_rfl) (by intro s kc ke env; kernel_rfl) .nil)
theorem There81 : There Go.Proofs.Try.prog 81 := ⟨_, Go.Proofs.Try.func81, by kernel_rfl, by kernel_rfl⟩
theorem C81 {A : Option (Nat × Obj)} {c_slices_Clone_int : ((List Int) × Unit → Option (List Int))} {m_slices_Delete_int : ((List Int) → (Int × Int × Unit) → Option ((List Int) × (List Int)))} {c_impl_det : ((List (List Int)) × (List Int) × (List Int) × Unit → Option Int)} (h_c_slices_Clone_int : ContractA Go.Proofs.Try.prog A 114 ⟨[(.slice int)], (.slice int), c_slices_Clone_int⟩) (h_m_slices_Delete_int : TakeC Go.Proofs.Try.prog 118 ⟨(.slice int), 0, [int, int], some (.slice int), m_slices_Delete_int⟩) (h_c_impl_det : ContractA Go.Proofs.Try.prog A 81 ⟨[(.slice (.slice int)), (.slice int), (.slice int)], int, c_impl_det⟩) {f : ((List (List Int)) × (List Int) × (List Int) × Unit → Option Int)} (h : ∀ a0 a1 a2 r, f (a0, a1, a2, ()) = some r → ∃ N, r_impl_det c_slices_Clone_int m_slices_Delete_int c_impl_det N a0 a1 a2 = some r) : ContractA Go.Proofs.Try.prog A 81 ⟨[(.slice (.slice int)), (.slice int), (.slice int)], int, f⟩ := by
  refine contract (E := (E81 c_slices_Clone_int m_slices_Delete_int c_impl_det A)) (envOf table ⟨⟨h_c_slices_Clone_int, There114⟩, ⟨⟨h_c_impl_det, There81⟩, trivial⟩⟩ ⟨⟨h_m_slices_Delete_int, There118⟩, trivial⟩ trivial) mixed Go.Proofs.Try.func81 (c := Go.Proofs.Try.f81.body.getD .skip) (by kernel_rfl) (Nat.le_of_ble_eq_true (by kernel_rfl)) fun xs r hr => ?_
  obtain ⟨a0, a1, a2, _⟩ := xs
  obtain ⟨N, hN⟩ := h _ _ _ r hr
  exact ⟨N, A81 c_slices_Clone_int m_slices_Delete_int c_impl_det N, L81 c_slices_Clone_int m_slices_Delete_int c_impl_det A N, (K81 c_slices_Clone_int m_slices_Delete_int c_impl_det A N a0 a1 a2).trans hN⟩
theorem X81_n {A : Option (Nat × Obj)} : ∀ n, ContractA Go.Proofs.Try.prog A 81 ⟨[(.slice (.slice int)), (.slice int), (.slice int)], int, e_impl_det_n n⟩
  | 0 => fun xs r vs w h => by simp [e_impl_det_n] at h
  | n + 1 => C81 X114 X118 (X81_n n) fun _ _ _ _ h => ⟨N0, h⟩
theorem X81 {A : Option (Nat × Obj)} : ContractA Go.Proofs.Try.prog A 81 ⟨[(.slice (.slice int)), (.slice int), (.slice int)], int, e_impl_det⟩ := X81_n N0
-- impl_response
def E100 (c_impl_LaplacianOf : ((Int × Int × Int × List (Int × Int × Int)) × Unit → Option (List (List Int)))) (c_impl_inner : ((Int × Int × Int × List (Int × Int × Int)) × Unit → Option (List Int))) (c_impl_det : ((List (List Int)) × (List Int) × (List Int) × Unit → Option Int)) (A : Option (Nat × Obj)) : Env := ⟨tys, [], [(24, ⟨[net], (.slice (.slice int)), c_impl_LaplacianOf⟩), (129, ⟨[net], (.slice int), c_impl_inner⟩), (81, ⟨[(.slice (.slice int)), (.slice int), (.slice int)], int, c_impl_det⟩)], [], [], A, []⟩
def A100 (c_impl_LaplacianOf : ((Int × Int × Int × List (Int × Int × Int)) × Unit → Option (List (List Int)))) (c_impl_inner : ((Int × Int × Int × List (Int × Int × Int)) × Unit → Option (List Int))) (c_impl_det : ((List (List Int)) × (List Int) × (List Int) × Unit → Option Int)) (N : Nat) : List (Nat × Loop (Ty.den (.tup (.slice (.slice int)) int))) := [(0, ⟨[(1, .box false (.pair (.num .i64) (.pair (.num .i64) (.pair (.num .i64) (.slice (.pair (.num .i64) (.pair (.num .i64) (.num .i64)))))))), (4, .own (.slice (.slice (.num .i64)))), (5, .own (.slice (.num .i64))), (6, .own (.slice (.slice (.num .i64)))), (17, .ro none (.num .i64)), (18, .ro none (.num .i64))], r_impl_response_L0 c_impl_LaplacianOf c_impl_inner c_impl_det N⟩), (2, ⟨[(1, .box false (.pair (.num .i64) (.pair (.num .i64) (.pair (.num .i64) (.slice (.pair (.num .i64) (.pair (.num .i64) (.num .i64)))))))), (4, .own (.slice (.slice (.num .i64)))), (5, .own (.slice (.num .i64))), (6, .own (.slice (.slice (.num .i64)))), (7, .ro none (.num .i64)), (17, .ro none (.num .i64)), (18, .ro none (.num .i64)), (22, .ro none (.num .i64)), (23, .ro none (.num .i64))], r_impl_response_L2 c_impl_LaplacianOf c_impl_inner c_impl_det N⟩)]
theorem K100 (c_impl_LaplacianOf : ((Int × Int × Int × List (Int × Int × Int)) × Unit → Option (List (List Int)))) (c_impl_inner : ((Int × Int × Int × List (Int × Int × Int)) × Unit → Option (List Int))) (c_impl_det : ((List (List Int)) × (List Int) × (List Int) × Unit → Option Int)) (A : Option (Nat × Obj)) (N : Nat) (a0 : (Int × Int × Int × List (Int × Int × Int))) : fnK N (E100 c_impl_LaplacianOf c_impl_inner c_impl_det A) Go.Proofs.Try.f100 [net] (.tup (.slice (.slice int)) int) (A100 c_impl_LaplacianOf c_impl_inner c_impl_det N) (a0, ()) = r_impl_response c_impl_LaplacianOf c_impl_inner c_impl_det N a0 := by kernel_rfl
theorem L100 (c_impl_LaplacianOf : ((Int × Int × Int × List (Int × Int × Int)) × Unit → Option (List (List Int)))) (c_impl_inner : ((Int × Int × Int × List (Int × Int × Int)) × Unit → Option (List Int))) (c_impl_det : ((List (List Int)) × (List Int) × (List Int) × Unit → Option Int)) (A : Option (Nat × Obj)) (N : Nat) : LoopsOk N (E100 c_impl_LaplacianOf c_impl_inner c_impl_det A) (A100 c_impl_LaplacianOf c_impl_inner c_impl_det N) Go.Proofs.Try.f100.ntmps (retOf (E100 c_impl_LaplacianOf c_impl_inner c_impl_det A) Go.Proofs.Try.f100 (.tup (.slice (.slice int)) int)) (loopsOf (Go.Proofs.Try.f100.body.getD .skip)) :=
  LoopsOk.of (l := [(0, lb Go.Proofs.Try.f100 0), (2, lb Go.Proofs.Try.f100 1)]) (by kernel_rfl) (.cons (L := ⟨[(1, .box false (.pair (.num .i64) (.pair (.num .i64) (.pair (.num .i64) (.slice (.pair (.num .i64) (.pair (.num .i64) (.num .i64)))))))), (4, .own (.slice (.slice (.num .i64)))), (5, .own (.slice (.num .i64))), (6, .own (.slice (.slice (.num .i64)))), (17, .ro none (.num .i64)), (18, .ro none (.num .i64))], r_impl_response_L0 c_impl_LaplacianOf c_impl_inner c_impl_det N⟩) (by kernel_rfl) (by intro s kc ke env; kernel_rfl) (.cons (L := ⟨[(1, .box false (.pair (.num .i64) (.pair (.num .i64) (.pair (.num .i64) (.slice (.pair (.num .i64) (.pair (.num .i64) (.num .i64)))))))), (4, .own (.slice (.slice (.num .i64)))), (5, .own (.slice (.num .i64))), (6, .own (.slice (.slice (.num .i64)))), (7, .ro none (.num .i64)), (17, .ro none (.num .i64)), (18, .ro none (.num .i64)), (22, .ro none (.num .i64)), (23, .ro none (.num .i64))], r_impl_response_L2 c_impl_LaplacianOf c_impl_inner c_impl_det N⟩) (by kernel_rfl) (by intro s kc ke env; kernel_rfl) .nil))
theorem There100 : There Go.Proofs.Try.prog 100 := ⟨_, Go.Proofs.Try.func100, by kernel_rfl, by kernel_rfl⟩
theorem C100 {A : Option (Nat × Obj)} {c_impl_LaplacianOf : ((Int × Int × Int × List (Int × Int × Int)) × Unit → Option (List (List Int)))} {c_impl_inner : ((Int × Int × Int × List (Int × Int × Int)) × Unit → Option (List Int))} {c_impl_det : ((List (List Int)) × (List Int) × (List Int) × Unit → Option Int)} (h_c_impl_LaplacianOf : ContractA Go.Proofs.Try.prog A 24 ⟨[net], (.slice (.slice int)), c_impl_LaplacianOf⟩) (h_c_impl_inner : ContractA Go.Proofs.Try.prog A 129 ⟨[net], (.slice int), c_impl_inner⟩) (h_c_impl_det : ContractA Go.Proofs.Try.prog A 81 ⟨[(.slice (.slice int)), (.slice int), (.slice int)], int, c_impl_det⟩) {f : ((Int × Int × Int × List (Int × Int × Int)) × Unit → Option ((List (List Int)) × Int))} (h : ∀ a0 r, f (a0, ()) = some r → ∃ N, r_impl_response c_impl_LaplacianOf c_impl_inner c_impl_det N a0 = some r) : ContractA Go.Proofs.Try.prog A 100 ⟨[net], (.tup (.slice (.slice int)) int), f⟩ := by
  refine contract (E := (E100 c_impl_LaplacianOf c_impl_inner c_impl_det A)) (envOf table ⟨⟨h_c_impl_LaplacianOf, There24⟩, ⟨⟨h_c_impl_inner, There129⟩, ⟨⟨h_c_impl_det, There81⟩, trivial⟩⟩⟩ trivial trivial) mixed Go.Proofs.Try.func100 (c := Go.Proofs.Try.f100.body.getD .skip) (by kernel_rfl) (Nat.le_of_ble_eq_true (by kernel_rfl)) fun xs r hr => ?_
  obtain ⟨a0, _⟩ := xs
  obtain ⟨N, hN⟩ := h _ r hr
  exact ⟨N, A100 c_impl_LaplacianOf c_impl_inner c_impl_det N, L100 c_impl_LaplacianOf c_impl_inner c_impl_det A N, (K100 c_impl_LaplacianOf c_impl_inner c_impl_det A N a0).trans hN⟩
theorem X100 {A : Option (Nat × Obj)} : ContractA Go.Proofs.Try.prog A 100 ⟨[net], (.tup (.slice (.slice int)) int), e_impl_response⟩ := C100 X24 X129 X81 fun _ _ h => ⟨N0, h⟩
-- impl_circular
def E116 (c_impl_det : ((List (List Int)) × (List Int) × (List Int) × Unit → Option Int)) (A : Option (Nat × Obj)) : Env := ⟨tys, [], [(81, ⟨[(.slice (.slice int)), (.slice int), (.slice int)], int, c_impl_det⟩)], [], [], A, []⟩
def A116 (_c_impl_det : ((List (List Int)) × (List Int) × (List Int) × Unit → Option Int)) (_N : Nat) : List (Nat × Loop (Ty.den int)) := []
theorem K116 (c_impl_det : ((List (List Int)) × (List Int) × (List Int) × Unit → Option Int)) (A : Option (Nat × Obj)) (N : Nat) (a0 : (List (List Int))) (a1 : (List Int)) (a2 : (List Int)) : fnK N (E116 c_impl_det A) Go.Proofs.Try.f116 [(.slice (.slice int)), (.slice int), (.slice int)] int (A116 c_impl_det N) (a0, a1, a2, ()) = r_impl_circular c_impl_det N a0 a1 a2 := by kernel_rfl
theorem L116 (c_impl_det : ((List (List Int)) × (List Int) × (List Int) × Unit → Option Int)) (A : Option (Nat × Obj)) (N : Nat) : LoopsOk N (E116 c_impl_det A) (A116 c_impl_det N) Go.Proofs.Try.f116.ntmps (retOf (E116 c_impl_det A) Go.Proofs.Try.f116 int) (loopsOf (Go.Proofs.Try.f116.body.getD .skip)) :=
  LoopsOk.of (l := []) (by kernel_rfl) .nil
theorem There116 : There Go.Proofs.Try.prog 116 := ⟨_, Go.Proofs.Try.func116, by kernel_rfl, by kernel_rfl⟩
theorem C116 {A : Option (Nat × Obj)} {c_impl_det : ((List (List Int)) × (List Int) × (List Int) × Unit → Option Int)} (h_c_impl_det : ContractA Go.Proofs.Try.prog A 81 ⟨[(.slice (.slice int)), (.slice int), (.slice int)], int, c_impl_det⟩) {f : ((List (List Int)) × (List Int) × (List Int) × Unit → Option Int)} (h : ∀ a0 a1 a2 r, f (a0, a1, a2, ()) = some r → ∃ N, r_impl_circular c_impl_det N a0 a1 a2 = some r) : ContractA Go.Proofs.Try.prog A 116 ⟨[(.slice (.slice int)), (.slice int), (.slice int)], int, f⟩ := by
  refine contract (E := (E116 c_impl_det A)) (envOf table ⟨⟨h_c_impl_det, There81⟩, trivial⟩ trivial trivial) mixed Go.Proofs.Try.func116 (c := Go.Proofs.Try.f116.body.getD .skip) (by kernel_rfl) (Nat.le_of_ble_eq_true (by kernel_rfl)) fun xs r hr => ?_
  obtain ⟨a0, a1, a2, _⟩ := xs
  obtain ⟨N, hN⟩ := h _ _ _ r hr
  exact ⟨N, A116 c_impl_det N, L116 c_impl_det A N, (K116 c_impl_det A N a0 a1 a2).trans hN⟩
theorem X116 {A : Option (Nat × Obj)} : ContractA Go.Proofs.Try.prog A 116 ⟨[(.slice (.slice int)), (.slice int), (.slice int)], int, e_impl_circular⟩ := C116 X81 fun _ _ _ _ h => ⟨N0, h⟩
-- impl_size
def E111 (A : Option (Nat × Obj)) : Env := ⟨tys, [], [], [], [], A, []⟩
def A111 (_N : Nat) : List (Nat × Loop (Ty.den (.num .u64))) := []
theorem K111 (A : Option (Nat × Obj)) (N : Nat) (a0 : Int) : fnK N (E111 A) Go.Proofs.Try.f111 [int] (.num .u64) (A111 N) (a0, ()) = r_impl_size N a0 := by kernel_rfl
theorem L111 (A : Option (Nat × Obj)) (N : Nat) : LoopsOk N (E111 A) (A111 N) Go.Proofs.Try.f111.ntmps (retOf (E111 A) Go.Proofs.Try.f111 (.num .u64)) (loopsOf (Go.Proofs.Try.f111.body.getD .skip)) :=
  LoopsOk.of (l := []) (by kernel_rfl) .nil
theorem There111 : There Go.Proofs.Try.prog 111 := ⟨_, Go.Proofs.Try.func111, by kernel_rfl, by kernel_rfl⟩
theorem C111 {A : Option (Nat × Obj)} {f : (Int × Unit → Option Int)} (h : ∀ a0 r, f (a0, ()) = some r → ∃ N, r_impl_size N a0 = some r) : ContractA Go.Proofs.Try.prog A 111 ⟨[int], (.num .u64), f⟩ := by
  refine contract (E := (E111 A)) (envOf table trivial trivial trivial) mixed Go.Proofs.Try.func111 (c := Go.Proofs.Try.f111.body.getD .skip) (by kernel_rfl) (Nat.le_of_ble_eq_true (by kernel_rfl)) fun xs r hr => ?_
  obtain ⟨a0, _⟩ := xs
  obtain ⟨N, hN⟩ := h _ r hr
  exact ⟨N, A111 N, L111 A N, (K111 A N a0).trans hN⟩
theorem X111 {A : Option (Nat × Obj)} : ContractA Go.Proofs.Try.prog A 111 ⟨[int], (.num .u64), e_impl_size⟩ := C111 fun _ _ h => ⟨N0, h⟩
-- impl_common
def E110 (A : Option (Nat × Obj)) : Env := ⟨tys, [], [], [], [], A, []⟩
def A110 (N : Nat) : List (Nat × Loop (Ty.den (.num .u64))) := [(0, ⟨[(0, .ro none (.num .u64)), (1, .ro none (.num .u64))], r_impl_common_L0 N⟩)]
theorem K110 (A : Option (Nat × Obj)) (N : Nat) (a0 : Int) (a1 : Int) : fnK N (E110 A) Go.Proofs.Try.f110 [(.num .u64), (.num .u64)] (.num .u64) (A110 N) (a0, a1, ()) = r_impl_common N a0 a1 := by kernel_rfl
theorem L110 (A : Option (Nat × Obj)) (N : Nat) : LoopsOk N (E110 A) (A110 N) Go.Proofs.Try.f110.ntmps (retOf (E110 A) Go.Proofs.Try.f110 (.num .u64)) (loopsOf (Go.Proofs.Try.f110.body.getD .skip)) :=
  LoopsOk.of (l := [(0, lb Go.Proofs.Try.f110 0)]) (by kernel_rfl) (.cons (L := ⟨[(0, .ro none (.num .u64)), (1, .ro none (.num .u64))], r_impl_common_L0 N⟩) (by kernel_rfl) (by intro s kc ke env; kernel_rfl) .nil)
theorem There110 : There Go.Proofs.Try.prog 110 := ⟨_, Go.Proofs.Try.func110, by kernel_rfl, by kernel_rfl⟩
theorem C110 {A : Option (Nat × Obj)} {f : (Int × Int × Unit → Option Int)} (h : ∀ a0 a1 r, f (a0, a1, ()) = some r → ∃ N, r_impl_common N a0 a1 = some r) : ContractA Go.Proofs.Try.prog A 110 ⟨[(.num .u64), (.num .u64)], (.num .u64), f⟩ := by
  refine contract (E := (E110 A)) (envOf table trivial trivial trivial) mixed Go.Proofs.Try.func110 (c := Go.Proofs.Try.f110.body.getD .skip) (by kernel_rfl) (Nat.le_of_ble_eq_true (by kernel_rfl)) fun xs r hr => ?_
  obtain ⟨a0, a1, _⟩ := xs
  obtain ⟨N, hN⟩ := h _ _ r hr
  exact ⟨N, A110 N, L110 A N, (K110 A N a0 a1).trans hN⟩
theorem X110 {A : Option (Nat × Obj)} : ContractA Go.Proofs.Try.prog A 110 ⟨[(.num .u64), (.num .u64)], (.num .u64), e_impl_common⟩ := C110 fun _ _ _ h => ⟨N0, h⟩
-- impl_RatioOf
def E61 (c_impl_size : (Int × Unit → Option Int)) (c_impl_common : (Int × Int × Unit → Option Int)) (A : Option (Nat × Obj)) : Env := ⟨tys, [], [(111, ⟨[int], (.num .u64), c_impl_size⟩), (110, ⟨[(.num .u64), (.num .u64)], (.num .u64), c_impl_common⟩)], [], [], A, []⟩
def A61 (_c_impl_size : (Int × Unit → Option Int)) (_c_impl_common : (Int × Int × Unit → Option Int)) (_N : Nat) : List (Nat × Loop (Ty.den ratio)) := []
theorem K61 (c_impl_size : (Int × Unit → Option Int)) (c_impl_common : (Int × Int × Unit → Option Int)) (A : Option (Nat × Obj)) (N : Nat) (a0 : Int) (a1 : Int) : fnK N (E61 c_impl_size c_impl_common A) Go.Proofs.Try.f61 [int, int] ratio (A61 c_impl_size c_impl_common N) (a0, a1, ()) = r_impl_RatioOf c_impl_size c_impl_common N a0 a1 := by kernel_rfl
theorem L61 (c_impl_size : (Int × Unit → Option Int)) (c_impl_common : (Int × Int × Unit → Option Int)) (A : Option (Nat × Obj)) (N : Nat) : LoopsOk N (E61 c_impl_size c_impl_common A) (A61 c_impl_size c_impl_common N) Go.Proofs.Try.f61.ntmps (retOf (E61 c_impl_size c_impl_common A) Go.Proofs.Try.f61 ratio) (loopsOf (Go.Proofs.Try.f61.body.getD .skip)) :=
  LoopsOk.of (l := []) (by kernel_rfl) .nil
theorem There61 : There Go.Proofs.Try.prog 61 := ⟨_, Go.Proofs.Try.func61, by kernel_rfl, by kernel_rfl⟩
theorem C61 {A : Option (Nat × Obj)} {c_impl_size : (Int × Unit → Option Int)} {c_impl_common : (Int × Int × Unit → Option Int)} (h_c_impl_size : ContractA Go.Proofs.Try.prog A 111 ⟨[int], (.num .u64), c_impl_size⟩) (h_c_impl_common : ContractA Go.Proofs.Try.prog A 110 ⟨[(.num .u64), (.num .u64)], (.num .u64), c_impl_common⟩) {f : (Int × Int × Unit → Option (Int × Int))} (h : ∀ a0 a1 r, f (a0, a1, ()) = some r → ∃ N, r_impl_RatioOf c_impl_size c_impl_common N a0 a1 = some r) : ContractA Go.Proofs.Try.prog A 61 ⟨[int, int], ratio, f⟩ := by
  refine contract (E := (E61 c_impl_size c_impl_common A)) (envOf table ⟨⟨h_c_impl_size, There111⟩, ⟨⟨h_c_impl_common, There110⟩, trivial⟩⟩ trivial trivial) mixed Go.Proofs.Try.func61 (c := Go.Proofs.Try.f61.body.getD .skip) (by kernel_rfl) (Nat.le_of_ble_eq_true (by kernel_rfl)) fun xs r hr => ?_
  obtain ⟨a0, a1, _⟩ := xs
  obtain ⟨N, hN⟩ := h _ _ r hr
  exact ⟨N, A61 c_impl_size c_impl_common N, L61 c_impl_size c_impl_common A N, (K61 c_impl_size c_impl_common A N a0 a1).trans hN⟩
theorem X61 {A : Option (Nat × Obj)} : ContractA Go.Proofs.Try.prog A 61 ⟨[int, int], ratio, e_impl_RatioOf⟩ := C61 X111 X110 fun _ _ _ h => ⟨N0, h⟩
-- impl_CircularMinor
def E65 (c_impl_NetOk : ((Int × Int × Int × List (Int × Int × Int)) × Unit → Option Bool)) (c_impl_IsCircular : (Int × (List Int) × (List Int) × Unit → Option Bool)) (c_impl_response : ((Int × Int × Int × List (Int × Int × Int)) × Unit → Option ((List (List Int)) × Int))) (c_impl_circular : ((List (List Int)) × (List Int) × (List Int) × Unit → Option Int)) (c_impl_RatioOf : (Int × Int × Unit → Option (Int × Int))) (A : Option (Nat × Obj)) : Env := ⟨tys, [], [(35, ⟨[net], .bool, c_impl_NetOk⟩), (64, ⟨[int, (.slice int), (.slice int)], .bool, c_impl_IsCircular⟩), (100, ⟨[net], (.tup (.slice (.slice int)) int), c_impl_response⟩), (116, ⟨[(.slice (.slice int)), (.slice int), (.slice int)], int, c_impl_circular⟩), (61, ⟨[int, int], ratio, c_impl_RatioOf⟩)], [], [], A, []⟩
def A65 (c_impl_NetOk : ((Int × Int × Int × List (Int × Int × Int)) × Unit → Option Bool)) (c_impl_IsCircular : (Int × (List Int) × (List Int) × Unit → Option Bool)) (c_impl_response : ((Int × Int × Int × List (Int × Int × Int)) × Unit → Option ((List (List Int)) × Int))) (c_impl_circular : ((List (List Int)) × (List Int) × (List Int) × Unit → Option Int)) (c_impl_RatioOf : (Int × Int × Unit → Option (Int × Int))) (N : Nat) : List (Nat × Loop (Ty.den (.tup ratio .bool))) := [(0, ⟨[(1, .ro none (.slice (.num .i64))), (2, .ro none (.slice (.num .i64))), (6, .box true (.pair (.num .i64) (.num .i64))), (8, .own (.slice (.slice (.num .i64)))), (9, .ro none (.num .i64)), (10, .ro none (.num .i64)), (29, .ro none (.num .i64)), (30, .ro none (.num .i64))], r_impl_CircularMinor_L0 c_impl_NetOk c_impl_IsCircular c_impl_response c_impl_circular c_impl_RatioOf N⟩)]
theorem K65 (c_impl_NetOk : ((Int × Int × Int × List (Int × Int × Int)) × Unit → Option Bool)) (c_impl_IsCircular : (Int × (List Int) × (List Int) × Unit → Option Bool)) (c_impl_response : ((Int × Int × Int × List (Int × Int × Int)) × Unit → Option ((List (List Int)) × Int))) (c_impl_circular : ((List (List Int)) × (List Int) × (List Int) × Unit → Option Int)) (c_impl_RatioOf : (Int × Int × Unit → Option (Int × Int))) (A : Option (Nat × Obj)) (N : Nat) (a0 : (Int × Int × Int × List (Int × Int × Int))) (a1 : (List Int)) (a2 : (List Int)) : fnK N (E65 c_impl_NetOk c_impl_IsCircular c_impl_response c_impl_circular c_impl_RatioOf A) Go.Proofs.Try.f65 [net, (.slice int), (.slice int)] (.tup ratio .bool) (A65 c_impl_NetOk c_impl_IsCircular c_impl_response c_impl_circular c_impl_RatioOf N) (a0, a1, a2, ()) = r_impl_CircularMinor c_impl_NetOk c_impl_IsCircular c_impl_response c_impl_circular c_impl_RatioOf N a0 a1 a2 := by kernel_rfl
theorem L65 (c_impl_NetOk : ((Int × Int × Int × List (Int × Int × Int)) × Unit → Option Bool)) (c_impl_IsCircular : (Int × (List Int) × (List Int) × Unit → Option Bool)) (c_impl_response : ((Int × Int × Int × List (Int × Int × Int)) × Unit → Option ((List (List Int)) × Int))) (c_impl_circular : ((List (List Int)) × (List Int) × (List Int) × Unit → Option Int)) (c_impl_RatioOf : (Int × Int × Unit → Option (Int × Int))) (A : Option (Nat × Obj)) (N : Nat) : LoopsOk N (E65 c_impl_NetOk c_impl_IsCircular c_impl_response c_impl_circular c_impl_RatioOf A) (A65 c_impl_NetOk c_impl_IsCircular c_impl_response c_impl_circular c_impl_RatioOf N) Go.Proofs.Try.f65.ntmps (retOf (E65 c_impl_NetOk c_impl_IsCircular c_impl_response c_impl_circular c_impl_RatioOf A) Go.Proofs.Try.f65 (.tup ratio .bool)) (loopsOf (Go.Proofs.Try.f65.body.getD .skip)) :=
  LoopsOk.of (l := [(0, lb Go.Proofs.Try.f65 0)]) (by kernel_rfl) (.cons (L := ⟨[(1, .ro none (.slice (.num .i64))), (2, .ro none (.slice (.num .i64))), (6, .box true (.pair (.num .i64) (.num .i64))), (8, .own (.slice (.slice (.num .i64)))), (9, .ro none (.num .i64)), (10, .ro none (.num .i64)), (29, .ro none (.num .i64)), (30, .ro none (.num .i64))], r_impl_CircularMinor_L0 c_impl_NetOk c_impl_IsCircular c_impl_response c_impl_circular c_impl_RatioOf N⟩) (by kernel_rfl) (by intro s kc ke env; kernel_rfl) .nil)
theorem There65 : There Go.Proofs.Try.prog 65 := ⟨_, Go.Proofs.Try.func65, by kernel_rfl, by kernel_rfl⟩
theorem C65 {A : Option (Nat × Obj)} {c_impl_NetOk : ((Int × Int × Int × List (Int × Int × Int)) × Unit → Option Bool)} {c_impl_IsCircular : (Int × (List Int) × (List Int) × Unit → Option Bool)} {c_impl_response : ((Int × Int × Int × List (Int × Int × Int)) × Unit → Option ((List (List Int)) × Int))} {c_impl_circular : ((List (List Int)) × (List Int) × (List Int) × Unit → Option Int)} {c_impl_RatioOf : (Int × Int × Unit → Option (Int × Int))} (h_c_impl_NetOk : ContractA Go.Proofs.Try.prog A 35 ⟨[net], .bool, c_impl_NetOk⟩) (h_c_impl_IsCircular : ContractA Go.Proofs.Try.prog A 64 ⟨[int, (.slice int), (.slice int)], .bool, c_impl_IsCircular⟩) (h_c_impl_response : ContractA Go.Proofs.Try.prog A 100 ⟨[net], (.tup (.slice (.slice int)) int), c_impl_response⟩) (h_c_impl_circular : ContractA Go.Proofs.Try.prog A 116 ⟨[(.slice (.slice int)), (.slice int), (.slice int)], int, c_impl_circular⟩) (h_c_impl_RatioOf : ContractA Go.Proofs.Try.prog A 61 ⟨[int, int], ratio, c_impl_RatioOf⟩) {f : ((Int × Int × Int × List (Int × Int × Int)) × (List Int) × (List Int) × Unit → Option ((Int × Int) × Bool))} (h : ∀ a0 a1 a2 r, f (a0, a1, a2, ()) = some r → ∃ N, r_impl_CircularMinor c_impl_NetOk c_impl_IsCircular c_impl_response c_impl_circular c_impl_RatioOf N a0 a1 a2 = some r) : ContractA Go.Proofs.Try.prog A 65 ⟨[net, (.slice int), (.slice int)], (.tup ratio .bool), f⟩ := by
  refine contract (E := (E65 c_impl_NetOk c_impl_IsCircular c_impl_response c_impl_circular c_impl_RatioOf A)) (envOf table ⟨⟨h_c_impl_NetOk, There35⟩, ⟨⟨h_c_impl_IsCircular, There64⟩, ⟨⟨h_c_impl_response, There100⟩, ⟨⟨h_c_impl_circular, There116⟩, ⟨⟨h_c_impl_RatioOf, There61⟩, trivial⟩⟩⟩⟩⟩ trivial trivial) mixed Go.Proofs.Try.func65 (c := Go.Proofs.Try.f65.body.getD .skip) (by kernel_rfl) (Nat.le_of_ble_eq_true (by kernel_rfl)) fun xs r hr => ?_
  obtain ⟨a0, a1, a2, _⟩ := xs
  obtain ⟨N, hN⟩ := h _ _ _ r hr
  exact ⟨N, A65 c_impl_NetOk c_impl_IsCircular c_impl_response c_impl_circular c_impl_RatioOf N, L65 c_impl_NetOk c_impl_IsCircular c_impl_response c_impl_circular c_impl_RatioOf A N, (K65 c_impl_NetOk c_impl_IsCircular c_impl_response c_impl_circular c_impl_RatioOf A N a0 a1 a2).trans hN⟩
theorem X65 {A : Option (Nat × Obj)} : ContractA Go.Proofs.Try.prog A 65 ⟨[net, (.slice int), (.slice int)], (.tup ratio .bool), e_impl_CircularMinor⟩ := C65 X35 X64 X100 X116 X61 fun _ _ _ _ h => ⟨N0, h⟩
-- laws_FnDisks
def E13 (c_spec_MakeDisk : (Value × Unit → Option (Int × Int × Int × List (Int × Int × Int)))) (c_impl_CircularPairs : (Int × Unit → Option (List (List (List Int))))) (c_impl_IsCircular : (Int × (List Int) × (List Int) × Unit → Option Bool)) (c_impl_CircularMinor : ((Int × Int × Int × List (Int × Int × Int)) × (List Int) × (List Int) × Unit → Option ((Int × Int) × Bool))) (A : Option (Nat × Obj)) : Env := ⟨tys, [], [(62, ⟨[.raw], net, c_spec_MakeDisk⟩), (63, ⟨[int], (.slice (.slice (.slice int))), c_impl_CircularPairs⟩), (64, ⟨[int, (.slice int), (.slice int)], .bool, c_impl_IsCircular⟩), (65, ⟨[net, (.slice int), (.slice int)], (.tup ratio .bool), c_impl_CircularMinor⟩)], [], [], A, []⟩
def A13 (c_spec_MakeDisk : (Value × Unit → Option (Int × Int × Int × List (Int × Int × Int)))) (c_impl_CircularPairs : (Int × Unit → Option (List (List (List Int))))) (c_impl_IsCircular : (Int × (List Int) × (List Int) × Unit → Option Bool)) (c_impl_CircularMinor : ((Int × Int × Int × List (Int × Int × Int)) × (List Int) × (List Int) × Unit → Option ((Int × Int) × Bool))) (N : Nat) : List (Nat × Loop (Ty.den .bool)) := [(0, ⟨[(3, .box true (.pair (.num .i64) (.pair (.num .i64) (.pair (.num .i64) (.slice (.pair (.num .i64) (.pair (.num .i64) (.num .i64)))))))), (20, .ro (some 4) (.slice (.slice (.slice (.num .i64))))), (21, .ro none (.num .i64)), (22, .ro none (.num .i64))], r_laws_FnDisks_L0 c_spec_MakeDisk c_impl_CircularPairs c_impl_IsCircular c_impl_CircularMinor N⟩)]
theorem K13 (c_spec_MakeDisk : (Value × Unit → Option (Int × Int × Int × List (Int × Int × Int)))) (c_impl_CircularPairs : (Int × Unit → Option (List (List (List Int))))) (c_impl_IsCircular : (Int × (List Int) × (List Int) × Unit → Option Bool)) (c_impl_CircularMinor : ((Int × Int × Int × List (Int × Int × Int)) × (List Int) × (List Int) × Unit → Option ((Int × Int) × Bool))) (A : Option (Nat × Obj)) (N : Nat) (a0 : Value) : fnK N (E13 c_spec_MakeDisk c_impl_CircularPairs c_impl_IsCircular c_impl_CircularMinor A) Go.Proofs.Try.f13 [.raw] .bool (A13 c_spec_MakeDisk c_impl_CircularPairs c_impl_IsCircular c_impl_CircularMinor N) (a0, ()) = r_laws_FnDisks c_spec_MakeDisk c_impl_CircularPairs c_impl_IsCircular c_impl_CircularMinor N a0 := by kernel_rfl
theorem L13 (c_spec_MakeDisk : (Value × Unit → Option (Int × Int × Int × List (Int × Int × Int)))) (c_impl_CircularPairs : (Int × Unit → Option (List (List (List Int))))) (c_impl_IsCircular : (Int × (List Int) × (List Int) × Unit → Option Bool)) (c_impl_CircularMinor : ((Int × Int × Int × List (Int × Int × Int)) × (List Int) × (List Int) × Unit → Option ((Int × Int) × Bool))) (A : Option (Nat × Obj)) (N : Nat) : LoopsOk N (E13 c_spec_MakeDisk c_impl_CircularPairs c_impl_IsCircular c_impl_CircularMinor A) (A13 c_spec_MakeDisk c_impl_CircularPairs c_impl_IsCircular c_impl_CircularMinor N) Go.Proofs.Try.f13.ntmps (retOf (E13 c_spec_MakeDisk c_impl_CircularPairs c_impl_IsCircular c_impl_CircularMinor A) Go.Proofs.Try.f13 .bool) (loopsOf (Go.Proofs.Try.f13.body.getD .skip)) :=
  LoopsOk.of (l := [(0, lb Go.Proofs.Try.f13 0)]) (by kernel_rfl) (.cons (L := ⟨[(3, .box true (.pair (.num .i64) (.pair (.num .i64) (.pair (.num .i64) (.slice (.pair (.num .i64) (.pair (.num .i64) (.num .i64)))))))), (20, .ro (some 4) (.slice (.slice (.slice (.num .i64))))), (21, .ro none (.num .i64)), (22, .ro none (.num .i64))], r_laws_FnDisks_L0 c_spec_MakeDisk c_impl_CircularPairs c_impl_IsCircular c_impl_CircularMinor N⟩) (by kernel_rfl) (by intro s kc ke env; kernel_rfl) .nil)
theorem There13 : There Go.Proofs.Try.prog 13 := ⟨_, Go.Proofs.Try.func13, by kernel_rfl, by kernel_rfl⟩
theorem C13 {A : Option (Nat × Obj)} {c_spec_MakeDisk : (Value × Unit → Option (Int × Int × Int × List (Int × Int × Int)))} {c_impl_CircularPairs : (Int × Unit → Option (List (List (List Int))))} {c_impl_IsCircular : (Int × (List Int) × (List Int) × Unit → Option Bool)} {c_impl_CircularMinor : ((Int × Int × Int × List (Int × Int × Int)) × (List Int) × (List Int) × Unit → Option ((Int × Int) × Bool))} (h_c_spec_MakeDisk : ContractA Go.Proofs.Try.prog A 62 ⟨[.raw], net, c_spec_MakeDisk⟩) (h_c_impl_CircularPairs : ContractA Go.Proofs.Try.prog A 63 ⟨[int], (.slice (.slice (.slice int))), c_impl_CircularPairs⟩) (h_c_impl_IsCircular : ContractA Go.Proofs.Try.prog A 64 ⟨[int, (.slice int), (.slice int)], .bool, c_impl_IsCircular⟩) (h_c_impl_CircularMinor : ContractA Go.Proofs.Try.prog A 65 ⟨[net, (.slice int), (.slice int)], (.tup ratio .bool), c_impl_CircularMinor⟩) {f : (Value × Unit → Option Bool)} (h : ∀ a0 r, f (a0, ()) = some r → ∃ N, r_laws_FnDisks c_spec_MakeDisk c_impl_CircularPairs c_impl_IsCircular c_impl_CircularMinor N a0 = some r) : ContractA Go.Proofs.Try.prog A 13 ⟨[.raw], .bool, f⟩ := by
  refine contract (E := (E13 c_spec_MakeDisk c_impl_CircularPairs c_impl_IsCircular c_impl_CircularMinor A)) (envOf table ⟨⟨h_c_spec_MakeDisk, There62⟩, ⟨⟨h_c_impl_CircularPairs, There63⟩, ⟨⟨h_c_impl_IsCircular, There64⟩, ⟨⟨h_c_impl_CircularMinor, There65⟩, trivial⟩⟩⟩⟩ trivial trivial) mixed Go.Proofs.Try.func13 (c := Go.Proofs.Try.f13.body.getD .skip) (by kernel_rfl) (Nat.le_of_ble_eq_true (by kernel_rfl)) fun xs r hr => ?_
  obtain ⟨a0, _⟩ := xs
  obtain ⟨N, hN⟩ := h _ r hr
  exact ⟨N, A13 c_spec_MakeDisk c_impl_CircularPairs c_impl_IsCircular c_impl_CircularMinor N, L13 c_spec_MakeDisk c_impl_CircularPairs c_impl_IsCircular c_impl_CircularMinor A N, (K13 c_spec_MakeDisk c_impl_CircularPairs c_impl_IsCircular c_impl_CircularMinor A N a0).trans hN⟩
theorem X13 {A : Option (Nat × Obj)} : ContractA Go.Proofs.Try.prog A 13 ⟨[.raw], .bool, e_laws_FnDisks A⟩ := C13 X62 (X63).amb X64 X65 fun _ _ h => ⟨N0, h⟩
end Go.Sx.S
