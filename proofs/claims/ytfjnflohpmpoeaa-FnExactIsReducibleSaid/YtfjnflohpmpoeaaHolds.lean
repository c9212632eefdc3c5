/- The statements hold: the laws say true of all arguments. Conditions: none. -/
import Derived.Test.YtfjnflohpmpoeaaSeat
import Derived.Test.YtfjnflohpmpoeaaLaw
import Derived.Test.YtfjnflohpmpoeaaRows
import Derived.ProofKit
namespace Go.Proofs.Ytfjnflohpmpoeaa
open Go.ChangeShapes Go.WideShapes Go.ChangeAt Go.RowKit

set_option maxRecDepth 100000 in
theorem fnExactIsReducible_lifted (os : Os) (started : os.Started) (H : Type) (enc : TypeId × Value → H) :
    ReturnsInHanded {} Try.checked os 10 .any (Rows.fnExactIsReducibleSpec.pre6 enc Try.prog Try.f10 Rows.fnExactIsReducibleRow.domain Rows.fnExactIsReducibleRow.apart) (Rows.fnExactIsReducibleSpec.post enc Try.prog Try.f10 Rows.fnExactIsReducibleRow.apart Rows.fnExactIsReducibleRow.fresh Rows.fnExactIsReducibleRow.handsOn Rows.fnExactIsReducibleRow.again) :=
  Go.Sx.lifted_of (C := Try.checked) started (E := ⟨Go.Sx.S.tys, [], [], []⟩) (tb := 4) (ts := [Go.Sx.S.net]) (f := Go.Sx.R.e_laws_FnExactIsReducible)
    (by kernel_rfl) (by kernel_rfl) Try.func10
    (ChangeSpec.witness6 (enc := enc) (C := Try.checked) false ⟨#[], #[.agg #[.int .i64 0, .int .i64 0, .int .i64 0, .slice .none 0 0]], []⟩ 8 (by kernel_rfl) (by kernel_rfl) (by kernel_rfl) (by kernel_rfl))
    (Go.Sx.envOf Go.Sx.S.table trivial trivial) rfl (by kernel_rfl) (by kernel_rfl) (by kernel_rfl) rfl
    (fun ds hl => match ds, hl with | [_], _ => rfl) (by kernel_rfl) (by kernel_rfl) (by kernel_rfl) Go.Sx.S.X10
    (fun xs h => Go.Sx.R.law_IsReducible xs.1 (Go.Sx.ok_net _ h.1))

theorem fnExactIsReducible_holds : Rows.FnExactIsReducibleSaid :=
  OpenClaim.holds_of_wide 10 Try.f10 rfl rfl rfl rfl rfl rfl rfl ⟨rfl, rfl, rfl, rfl, rfl⟩ rfl rfl rfl rfl rfl (by kernel_rfl) Try.func10 (by kernel_rfl)
    (of_decide_eq_true (by kernel_rfl)) (by unfold Func.isWrapper; first | (rw [if_pos (by decide +kernel)]; kernel_rfl) | (rw [if_neg (by decide +kernel)]; exact ⟨rfl, rfl⟩))
    (fun os started H enc _ => fnExactIsReducible_lifted os started H enc)
#print axioms fnExactIsReducible_holds

end Go.Proofs.Ytfjnflohpmpoeaa

