/- The statement holds: the law says true of all codes. Conditions: none. -/
import Derived.Test.YtjjhhgieolobjaaSeat
import Derived.Test.YtjjhhgieolobjaaLaw
import Derived.Test.YtjjhhgieolobjaaRows
import Derived.ProofKit
namespace Go.Proofs.Ytjjhhgieolobjaa
open Go.ChangeShapes Go.WideShapes Go.ChangeAt Go.RowKit

set_option maxRecDepth 100000 in
theorem fnAlike_lifted (os : Os) (started : os.Started) (H : Type) (enc : TypeId × Value → H) :
    ReturnsInHanded {} Try.checked os 8 .any (Rows.fnAlikeSpec.pre6 enc Try.prog Try.f8 Rows.fnAlikeRow.domain Rows.fnAlikeRow.apart) (Rows.fnAlikeSpec.post enc Try.prog Try.f8 Rows.fnAlikeRow.apart Rows.fnAlikeRow.fresh Rows.fnAlikeRow.handsOn Rows.fnAlikeRow.again) :=
  Go.Sx.lifted_code (C := Try.checked) started (E := ⟨Go.Sx.S.tysC, [], [], [], [], none, []⟩) (tb := 4) (f := fun A => Go.Sx.R.e_laws_FnAlike A)
    (by kernel_rfl) (by kernel_rfl) Try.func8
    (ChangeSpec.witness6 (enc := enc) (C := Try.checked) false ⟨#[], #[.slice .none 0 0], []⟩ 8 (by kernel_rfl) (by kernel_rfl) (by kernel_rfl) (by kernel_rfl))
    (Go.Sx.envOf Go.Sx.S.tableC trivial trivial trivial) rfl (by kernel_rfl) (by kernel_rfl) (by kernel_rfl) rfl
    (fun ds hl => match ds, hl with | [_], _ => rfl) (by kernel_rfl) (by kernel_rfl) (by kernel_rfl) (fun _ => Go.Sx.S.X8)
    (fun A v h => Go.Sx.R.law_FnAlike A v h)

theorem fnAlike_holds : Rows.FnAlikeSaid :=
  OpenClaim.holds_of_wide 8 Try.f8 rfl rfl rfl rfl rfl rfl rfl ⟨rfl, rfl, rfl, rfl, rfl⟩ rfl rfl rfl rfl rfl (by kernel_rfl) Try.func8 (by kernel_rfl)
    (of_decide_eq_true (by kernel_rfl)) (by unfold Func.isWrapper; first | (rw [if_pos (by decide +kernel)]; kernel_rfl) | (rw [if_neg (by decide +kernel)]; exact ⟨rfl, rfl⟩))
    (fun os started H enc _ => fnAlike_lifted os started H enc)
#print axioms fnAlike_holds
end Go.Proofs.Ytjjhhgieolobjaa
