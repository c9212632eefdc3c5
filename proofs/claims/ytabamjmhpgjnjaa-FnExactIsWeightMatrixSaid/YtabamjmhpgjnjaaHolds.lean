/- The statements hold: the laws say true of all arguments. Conditions: none. -/
import Derived.Test.YtabamjmhpgjnjaaSeat
import Derived.Test.YtabamjmhpgjnjaaLaw
import Derived.Test.YtabamjmhpgjnjaaRows
import Derived.ProofKit
namespace Go.Proofs.Ytabamjmhpgjnjaa
open Go.ChangeShapes Go.WideShapes Go.ChangeAt Go.RowKit

set_option maxRecDepth 100000 in
theorem fnExactIsWeightMatrix_lifted (os : Os) (started : os.Started) (H : Type) (enc : TypeId × Value → H) :
    ReturnsInHanded {} Try.checked os 4 .any (Rows.fnExactIsWeightMatrixSpec.pre6 enc Try.prog Try.f4 Rows.fnExactIsWeightMatrixRow.domain Rows.fnExactIsWeightMatrixRow.apart) (Rows.fnExactIsWeightMatrixSpec.post enc Try.prog Try.f4 Rows.fnExactIsWeightMatrixRow.apart Rows.fnExactIsWeightMatrixRow.fresh Rows.fnExactIsWeightMatrixRow.handsOn Rows.fnExactIsWeightMatrixRow.again) :=
  Go.Sx.lifted_of (C := Try.checked) started (E := ⟨Go.Sx.S.tys, [], []⟩) (tb := 4) (ts := [(.slice (.slice Go.Sx.S.int))]) (f := Go.Sx.R.e_laws_FnExactIsWeightMatrix)
    (by kernel_rfl) (by kernel_rfl) Try.func4
    (ChangeSpec.witness6 (enc := enc) (C := Try.checked) false ⟨#[], #[.slice .none 0 0], []⟩ 8 (by kernel_rfl) (by kernel_rfl) (by kernel_rfl) (by kernel_rfl))
    (Go.Sx.envOf Go.Sx.S.table trivial) rfl (by kernel_rfl) (by kernel_rfl) (by kernel_rfl) rfl
    (fun ds hl => match ds, hl with | [_], _ => rfl) (by kernel_rfl) (by kernel_rfl) (by kernel_rfl) Go.Sx.S.X4
    (fun xs h => Go.Sx.R.law_IsWeightMatrix xs.1 (Go.Sx.ok_intSS _ h.1))

theorem fnExactIsWeightMatrix_holds : Rows.FnExactIsWeightMatrixSaid :=
  OpenClaim.holds_of_wide 4 Try.f4 rfl rfl rfl rfl rfl rfl rfl ⟨rfl, rfl, rfl, rfl, rfl⟩ rfl rfl rfl rfl rfl (by kernel_rfl) Try.func4 (by kernel_rfl)
    (of_decide_eq_true (by kernel_rfl)) (by unfold Func.isWrapper; first | (rw [if_pos (by decide +kernel)]; kernel_rfl) | (rw [if_neg (by decide +kernel)]; exact ⟨rfl, rfl⟩))
    (fun os started H enc _ => fnExactIsWeightMatrix_lifted os started H enc)
#print axioms fnExactIsWeightMatrix_holds

end Go.Proofs.Ytabamjmhpgjnjaa

