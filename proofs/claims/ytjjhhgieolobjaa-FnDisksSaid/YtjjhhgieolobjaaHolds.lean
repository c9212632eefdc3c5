/- The statement holds: the law says true of all codes. Conditions: none. -/
import Derived.Test.YtjjhhgieolobjaaSeat
import Derived.Test.YtjjhhgieolobjaaLaw
import Derived.Test.YtjjhhgieolobjaaRows
import Derived.ProofKit
namespace Go.Proofs.Ytjjhhgieolobjaa
open Go.ChangeShapes Go.WideShapes Go.ChangeAt Go.RowKit

set_option maxRecDepth 100000 in
theorem fnDisks_lifted (os : Os) (started : os.Started) (H : Type) (enc : TypeId × Value → H) :
    ReturnsInHanded {} Try.checked os 13 .any (Rows.fnDisksSpec.pre6 enc Try.prog Try.f13 Rows.fnDisksRow.domain Rows.fnDisksRow.apart) (Rows.fnDisksSpec.post enc Try.prog Try.f13 Rows.fnDisksRow.apart Rows.fnDisksRow.fresh Rows.fnDisksRow.handsOn Rows.fnDisksRow.again) :=
  Go.Sx.lifted_code (C := Try.checked) started (E := ⟨Go.Sx.S.tysC, [], [], [], [], none, []⟩) (tb := 4) (f := fun A => Go.Sx.R.e_laws_FnDisks A)
    (by kernel_rfl) (by kernel_rfl) Try.func13
    (ChangeSpec.witness6 (enc := enc) (C := Try.checked) false ⟨#[], #[.slice .none 0 0], []⟩ 8 (by kernel_rfl) (by kernel_rfl) (by kernel_rfl) (by kernel_rfl))
    (Go.Sx.envOf Go.Sx.S.tableC trivial trivial trivial) rfl (by kernel_rfl) (by kernel_rfl) (by kernel_rfl) rfl
    (fun ds hl => match ds, hl with | [_], _ => rfl) (by kernel_rfl) (by kernel_rfl) (by kernel_rfl) (fun _ => Go.Sx.S.X13)
    (fun A v h => Go.Sx.R.law_FnDisks A v h)

theorem fnDisks_holds : Rows.FnDisksSaid :=
  OpenClaim.holds_of_wide 13 Try.f13 rfl rfl rfl rfl rfl rfl rfl ⟨rfl, rfl, rfl, rfl, rfl⟩ rfl rfl rfl rfl rfl (by kernel_rfl) Try.func13 (by kernel_rfl)
    (of_decide_eq_true (by kernel_rfl)) (by unfold Func.isWrapper; first | (rw [if_pos (by decide +kernel)]; kernel_rfl) | (rw [if_neg (by decide +kernel)]; exact ⟨rfl, rfl⟩))
    (fun os started H enc _ => fnDisks_lifted os started H enc)
#print axioms fnDisks_holds
end Go.Proofs.Ytjjhhgieolobjaa
