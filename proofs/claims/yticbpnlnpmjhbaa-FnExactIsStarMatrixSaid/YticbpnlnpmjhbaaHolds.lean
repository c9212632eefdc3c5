/- The statements hold: the laws say true of all arguments. Conditions: none. -/
import Derived.Test.YticbpnlnpmjhbaaSeat
import Derived.Test.YticbpnlnpmjhbaaLaw
import Derived.Test.YticbpnlnpmjhbaaRows
import Derived.ProofKit
namespace Go.Proofs.Yticbpnlnpmjhbaa
open Go.ChangeShapes Go.WideShapes Go.ChangeAt Go.RowKit

set_option maxRecDepth 100000 in
theorem fnExactIsStarMatrix_lifted (os : Os) (started : os.Started) (H : Type) (enc : TypeId × Value → H) :
    ReturnsInHanded {} Try.checked os 4 .any (Rows.fnExactIsStarMatrixSpec.pre6 enc Try.prog Try.f4 Rows.fnExactIsStarMatrixRow.domain Rows.fnExactIsStarMatrixRow.apart) (Rows.fnExactIsStarMatrixSpec.post enc Try.prog Try.f4 Rows.fnExactIsStarMatrixRow.apart Rows.fnExactIsStarMatrixRow.fresh Rows.fnExactIsStarMatrixRow.handsOn Rows.fnExactIsStarMatrixRow.again) :=
  Go.Sx.lifted_of (C := Try.checked) started (E := ⟨Go.Sx.S.tys, [], [], []⟩) (tb := 4) (ts := [(.slice (.slice Go.Sx.S.ratio))]) (f := Go.Sx.R.e_laws_FnExactIsStarMatrix)
    (by kernel_rfl) (by kernel_rfl) Try.func4
    (ChangeSpec.witness6 (enc := enc) (C := Try.checked) false ⟨#[], #[.slice .none 0 0], []⟩ 8 (by kernel_rfl) (by kernel_rfl) (by kernel_rfl) (by kernel_rfl))
    (Go.Sx.envOf Go.Sx.S.table trivial trivial) rfl (by kernel_rfl) (by kernel_rfl) (by kernel_rfl) rfl
    (fun ds hl => match ds, hl with | [_], _ => rfl) (by kernel_rfl) (by kernel_rfl) (by kernel_rfl) Go.Sx.S.X4
    (fun xs h => Go.Sx.R.law_IsStarMatrix xs.1 (Go.Sx.ok_ratioSS _ h.1))

theorem fnExactIsStarMatrix_holds : Rows.FnExactIsStarMatrixSaid :=
  OpenClaim.holds_of_wide 4 Try.f4 rfl rfl rfl rfl rfl rfl rfl ⟨rfl, rfl, rfl, rfl, rfl⟩ rfl rfl rfl rfl rfl (by kernel_rfl) Try.func4 (by kernel_rfl)
    (of_decide_eq_true (by kernel_rfl)) (by unfold Func.isWrapper; first | (rw [if_pos (by decide +kernel)]; kernel_rfl) | (rw [if_neg (by decide +kernel)]; exact ⟨rfl, rfl⟩))
    (fun os started H enc _ => fnExactIsStarMatrix_lifted os started H enc)
#print axioms fnExactIsStarMatrix_holds

end Go.Proofs.Yticbpnlnpmjhbaa

