/- The statements hold: the laws say true of all arguments. Conditions: none. -/
import Derived.Test.YticbpnlnpmjhbaaSeat
import Derived.Test.YticbpnlnpmjhbaaLaw
import Derived.Test.YticbpnlnpmjhbaaRows
import Derived.ProofKit
namespace Go.Proofs.Yticbpnlnpmjhbaa
open Go.ChangeShapes Go.WideShapes Go.ChangeAt Go.RowKit

set_option maxRecDepth 100000 in
theorem fnExactStarWeights_lifted (os : Os) (started : os.Started) (H : Type) (enc : TypeId × Value → H) :
    ReturnsInHanded {} Try.checked os 3 .any (Rows.fnExactStarWeightsSpec.pre6 enc Try.prog Try.f3 Rows.fnExactStarWeightsRow.domain Rows.fnExactStarWeightsRow.apart) (Rows.fnExactStarWeightsSpec.post enc Try.prog Try.f3 Rows.fnExactStarWeightsRow.apart Rows.fnExactStarWeightsRow.fresh Rows.fnExactStarWeightsRow.handsOn Rows.fnExactStarWeightsRow.again) :=
  Go.Sx.lifted_of (C := Try.checked) started (E := ⟨Go.Sx.S.tys, [], [], []⟩) (tb := 4) (ts := [(.slice (.slice Go.Sx.S.ratio))]) (f := Go.Sx.R.e_laws_FnExactStarWeights)
    (by kernel_rfl) (by kernel_rfl) Try.func3
    (ChangeSpec.witness6 (enc := enc) (C := Try.checked) false ⟨#[], #[.slice .none 0 0], []⟩ 8 (by kernel_rfl) (by kernel_rfl) (by kernel_rfl) (by kernel_rfl))
    (Go.Sx.envOf Go.Sx.S.table trivial trivial) rfl (by kernel_rfl) (by kernel_rfl) (by kernel_rfl) rfl
    (fun ds hl => match ds, hl with | [_], _ => rfl) (by kernel_rfl) (by kernel_rfl) (by kernel_rfl) Go.Sx.S.X3
    (fun xs h => Go.Sx.R.law_StarWeights xs.1 (Go.Sx.ok_ratioSS _ h.1))

theorem fnExactStarWeights_holds : Rows.FnExactStarWeightsSaid :=
  OpenClaim.holds_of_wide 3 Try.f3 rfl rfl rfl rfl rfl rfl rfl ⟨rfl, rfl, rfl, rfl, rfl⟩ rfl rfl rfl rfl rfl (by kernel_rfl) Try.func3 (by kernel_rfl)
    (of_decide_eq_true (by kernel_rfl)) (by unfold Func.isWrapper; first | (rw [if_pos (by decide +kernel)]; kernel_rfl) | (rw [if_neg (by decide +kernel)]; exact ⟨rfl, rfl⟩))
    (fun os started H enc _ => fnExactStarWeights_lifted os started H enc)
#print axioms fnExactStarWeights_holds

end Go.Proofs.Yticbpnlnpmjhbaa

