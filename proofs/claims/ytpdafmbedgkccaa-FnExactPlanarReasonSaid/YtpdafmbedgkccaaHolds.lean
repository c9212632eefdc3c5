/- The statements hold: the laws say true of all arguments. Conditions: none. -/
import Derived.Test.YtpdafmbedgkccaaSeat
import Derived.Test.YtpdafmbedgkccaaLaw
import Derived.Test.YtpdafmbedgkccaaRows
import Derived.ProofKit
namespace Go.Proofs.Ytpdafmbedgkccaa
open Go.ChangeShapes Go.WideShapes Go.ChangeAt Go.RowKit

set_option maxRecDepth 100000 in
theorem fnExactPlanarReason_lifted (os : Os) (started : os.Started) (H : Type) (enc : TypeId × Value → H) :
    ReturnsInHanded {} Try.checked os 12 .any (Rows.fnExactPlanarReasonSpec.pre6 enc Try.prog Try.f12 Rows.fnExactPlanarReasonRow.domain Rows.fnExactPlanarReasonRow.apart) (Rows.fnExactPlanarReasonSpec.post enc Try.prog Try.f12 Rows.fnExactPlanarReasonRow.apart Rows.fnExactPlanarReasonRow.fresh Rows.fnExactPlanarReasonRow.handsOn Rows.fnExactPlanarReasonRow.again) :=
  Go.Sx.lifted_of (C := Try.checked) started (E := ⟨Go.Sx.S.tys, [], [], []⟩) (tb := 4) (ts := [(.slice (.slice Go.Sx.S.int))]) (f := Go.Sx.R.e_laws_FnExactPlanarReason)
    (by kernel_rfl) (by kernel_rfl) Try.func12
    (ChangeSpec.witness6 (enc := enc) (C := Try.checked) false ⟨#[], #[.slice .none 0 0], []⟩ 8 (by kernel_rfl) (by kernel_rfl) (by kernel_rfl) (by kernel_rfl))
    (Go.Sx.envOf Go.Sx.S.table trivial trivial) rfl (by kernel_rfl) (by kernel_rfl) (by kernel_rfl) rfl
    (fun ds hl => match ds, hl with | [_], _ => rfl) (by kernel_rfl) (by kernel_rfl) (by kernel_rfl) Go.Sx.S.X12
    (fun xs h => Go.Sx.R.law_PlanarReason xs.1 (Go.Sx.ok_intSS _ h.1))

theorem fnExactPlanarReason_holds : Rows.FnExactPlanarReasonSaid :=
  OpenClaim.holds_of_wide 12 Try.f12 rfl rfl rfl rfl rfl rfl rfl ⟨rfl, rfl, rfl, rfl, rfl⟩ rfl rfl rfl rfl rfl (by kernel_rfl) Try.func12 (by kernel_rfl)
    (of_decide_eq_true (by kernel_rfl)) (by unfold Func.isWrapper; first | (rw [if_pos (by decide +kernel)]; kernel_rfl) | (rw [if_neg (by decide +kernel)]; exact ⟨rfl, rfl⟩))
    (fun os started H enc _ => fnExactPlanarReason_lifted os started H enc)
#print axioms fnExactPlanarReason_holds

end Go.Proofs.Ytpdafmbedgkccaa

