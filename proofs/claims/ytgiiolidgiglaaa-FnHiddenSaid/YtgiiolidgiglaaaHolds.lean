/- The statement holds: the law says true of all codes. Conditions: none. -/
import Derived.Test.YtgiiolidgiglaaaSeat
import Derived.Test.YtgiiolidgiglaaaLaw
import Derived.Test.YtgiiolidgiglaaaRows
import Derived.ProofKit
namespace Go.Proofs.Ytgiiolidgiglaaa
open Go.ChangeShapes Go.WideShapes Go.ChangeAt Go.RowKit

set_option maxRecDepth 100000 in
theorem fnHidden_lifted (os : Os) (started : os.Started) (H : Type) (enc : TypeId × Value → H) :
    ReturnsInHanded {} Try.checked os 5 .any (Rows.fnHiddenSpec.pre6 enc Try.prog Try.f5 Rows.fnHiddenRow.domain Rows.fnHiddenRow.apart) (Rows.fnHiddenSpec.post enc Try.prog Try.f5 Rows.fnHiddenRow.apart Rows.fnHiddenRow.fresh Rows.fnHiddenRow.handsOn Rows.fnHiddenRow.again) :=
  Go.Sx.lifted_code (C := Try.checked) started (E := ⟨Go.Sx.S.tysC, [], [], [], [], none, []⟩) (tb := 4) (f := fun A => Go.Sx.R.e_laws_FnHidden A)
    (by kernel_rfl) (by kernel_rfl) Try.func5
    (ChangeSpec.witness6 (enc := enc) (C := Try.checked) false ⟨#[], #[.slice .none 0 0], []⟩ 8 (by kernel_rfl) (by kernel_rfl) (by kernel_rfl) (by kernel_rfl))
    (Go.Sx.envOf Go.Sx.S.tableC trivial trivial trivial) rfl (by kernel_rfl) (by kernel_rfl) (by kernel_rfl) rfl
    (fun ds hl => match ds, hl with | [_], _ => rfl) (by kernel_rfl) (by kernel_rfl) (by kernel_rfl) (fun _ => Go.Sx.S.X5)
    (fun A v h => Go.Sx.R.law_FnHidden A v h)

theorem fnHidden_holds : Rows.FnHiddenSaid :=
  OpenClaim.holds_of_wide 5 Try.f5 rfl rfl rfl rfl rfl rfl rfl ⟨rfl, rfl, rfl, rfl, rfl⟩ rfl rfl rfl rfl rfl (by kernel_rfl) Try.func5 (by kernel_rfl)
    (of_decide_eq_true (by kernel_rfl)) (by unfold Func.isWrapper; first | (rw [if_pos (by decide +kernel)]; kernel_rfl) | (rw [if_neg (by decide +kernel)]; exact ⟨rfl, rfl⟩))
    (fun os started H enc _ => fnHidden_lifted os started H enc)
#print axioms fnHidden_holds
end Go.Proofs.Ytgiiolidgiglaaa
