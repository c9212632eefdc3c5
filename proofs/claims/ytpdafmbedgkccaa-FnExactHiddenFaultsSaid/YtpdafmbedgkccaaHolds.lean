/- The statements hold: the laws say true of all arguments. Conditions: none. -/
import Derived.Test.YtpdafmbedgkccaaSeat
import Derived.Test.YtpdafmbedgkccaaLaw
import Derived.Test.YtpdafmbedgkccaaRows
import Derived.ProofKit
namespace Go.Proofs.Ytpdafmbedgkccaa
open Go.ChangeShapes Go.WideShapes Go.ChangeAt Go.RowKit

set_option maxRecDepth 100000 in
theorem fnExactHiddenFaults_lifted (os : Os) (started : os.Started) (H : Type) (enc : TypeId × Value → H) :
    ReturnsInHanded {} Try.checked os 8 .any (Rows.fnExactHiddenFaultsSpec.pre6 enc Try.prog Try.f8 Rows.fnExactHiddenFaultsRow.domain Rows.fnExactHiddenFaultsRow.apart) (Rows.fnExactHiddenFaultsSpec.post enc Try.prog Try.f8 Rows.fnExactHiddenFaultsRow.apart Rows.fnExactHiddenFaultsRow.fresh Rows.fnExactHiddenFaultsRow.handsOn Rows.fnExactHiddenFaultsRow.again) :=
  Go.Sx.lifted_of (C := Try.checked) started (E := ⟨Go.Sx.S.tys, [], [], []⟩) (tb := 4) (ts := [Go.Sx.S.net]) (f := Go.Sx.R.e_laws_FnExactHiddenFaults)
    (by kernel_rfl) (by kernel_rfl) Try.func8
    (ChangeSpec.witness6 (enc := enc) (C := Try.checked) false ⟨#[], #[.agg #[.int .i64 0, .int .i64 0, .int .i64 0, .slice .none 0 0]], []⟩ 8 (by kernel_rfl) (by kernel_rfl) (by kernel_rfl) (by kernel_rfl))
    (Go.Sx.envOf Go.Sx.S.table trivial trivial) rfl (by kernel_rfl) (by kernel_rfl) (by kernel_rfl) rfl
    (fun ds hl => match ds, hl with | [_], _ => rfl) (by kernel_rfl) (by kernel_rfl) (by kernel_rfl) Go.Sx.S.X8
    (fun xs h => Go.Sx.R.law_HiddenFaults xs.1 (Go.Sx.ok_net _ h.1))

theorem fnExactHiddenFaults_holds : Rows.FnExactHiddenFaultsSaid :=
  OpenClaim.holds_of_wide 8 Try.f8 rfl rfl rfl rfl rfl rfl rfl ⟨rfl, rfl, rfl, rfl, rfl⟩ rfl rfl rfl rfl rfl (by kernel_rfl) Try.func8 (by kernel_rfl)
    (of_decide_eq_true (by kernel_rfl)) (by unfold Func.isWrapper; first | (rw [if_pos (by decide +kernel)]; kernel_rfl) | (rw [if_neg (by decide +kernel)]; exact ⟨rfl, rfl⟩))
    (fun os started H enc _ => fnExactHiddenFaults_lifted os started H enc)
#print axioms fnExactHiddenFaults_holds

end Go.Proofs.Ytpdafmbedgkccaa

