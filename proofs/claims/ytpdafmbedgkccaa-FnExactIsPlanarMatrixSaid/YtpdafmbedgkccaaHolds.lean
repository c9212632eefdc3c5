/- The statements hold: the laws say true of all arguments. Conditions: none. -/
import Derived.Test.YtpdafmbedgkccaaSeat
import Derived.Test.YtpdafmbedgkccaaLaw
import Derived.Test.YtpdafmbedgkccaaRows
import Derived.ProofKit
namespace Go.Proofs.Ytpdafmbedgkccaa
open Go.ChangeShapes Go.WideShapes Go.ChangeAt Go.RowKit

set_option maxRecDepth 100000 in
theorem fnExactIsPlanarMatrix_lifted (os : Os) (started : os.Started) (H : Type) (enc : TypeId × Value → H) :
    ReturnsInHanded {} Try.checked os 11 .any (Rows.fnExactIsPlanarMatrixSpec.pre6 enc Try.prog Try.f11 Rows.fnExactIsPlanarMatrixRow.domain Rows.fnExactIsPlanarMatrixRow.apart) (Rows.fnExactIsPlanarMatrixSpec.post enc Try.prog Try.f11 Rows.fnExactIsPlanarMatrixRow.apart Rows.fnExactIsPlanarMatrixRow.fresh Rows.fnExactIsPlanarMatrixRow.handsOn Rows.fnExactIsPlanarMatrixRow.again) :=
  Go.Sx.lifted_of (C := Try.checked) started (E := ⟨Go.Sx.S.tys, [], [], []⟩) (tb := 4) (ts := [(.slice (.slice Go.Sx.S.int))]) (f := Go.Sx.R.e_laws_FnExactIsPlanarMatrix)
    (by kernel_rfl) (by kernel_rfl) Try.func11
    (ChangeSpec.witness6 (enc := enc) (C := Try.checked) false ⟨#[], #[.slice .none 0 0], []⟩ 8 (by kernel_rfl) (by kernel_rfl) (by kernel_rfl) (by kernel_rfl))
    (Go.Sx.envOf Go.Sx.S.table trivial trivial) rfl (by kernel_rfl) (by kernel_rfl) (by kernel_rfl) rfl
    (fun ds hl => match ds, hl with | [_], _ => rfl) (by kernel_rfl) (by kernel_rfl) (by kernel_rfl) Go.Sx.S.X11
    (fun xs h => Go.Sx.R.law_IsPlanarMatrix xs.1 (Go.Sx.ok_intSS _ h.1))

theorem fnExactIsPlanarMatrix_holds : Rows.FnExactIsPlanarMatrixSaid :=
  OpenClaim.holds_of_wide 11 Try.f11 rfl rfl rfl rfl rfl rfl rfl ⟨rfl, rfl, rfl, rfl, rfl⟩ rfl rfl rfl rfl rfl (by kernel_rfl) Try.func11 (by kernel_rfl)
    (of_decide_eq_true (by kernel_rfl)) (by unfold Func.isWrapper; first | (rw [if_pos (by decide +kernel)]; kernel_rfl) | (rw [if_neg (by decide +kernel)]; exact ⟨rfl, rfl⟩))
    (fun os started H enc _ => fnExactIsPlanarMatrix_lifted os started H enc)
#print axioms fnExactIsPlanarMatrix_holds

end Go.Proofs.Ytpdafmbedgkccaa

