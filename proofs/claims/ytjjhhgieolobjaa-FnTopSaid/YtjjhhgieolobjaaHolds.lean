/- The statement holds: the law says true of all codes. Conditions: none. -/
import Derived.Test.YtjjhhgieolobjaaSeat
import Derived.Test.YtjjhhgieolobjaaLaw
import Derived.Test.YtjjhhgieolobjaaRows
import Derived.ProofKit
namespace Go.Proofs.Ytjjhhgieolobjaa
open Go.ChangeShapes Go.WideShapes Go.ChangeAt Go.RowKit
set_option maxRecDepth 100000 in
theorem fnTop_lifted (os : Os) (started : os.Started) (H : Type) (enc : TypeId × Value → H) :
    ReturnsInHanded {} Try.checked os 9 .any (Rows.fnTopSpec.pre6 enc Try.prog Try.f9 Rows.fnTopRow.domain Rows.fnTopRow.apart) (Rows.fnTopSpec.post enc Try.prog Try.f9 Rows.fnTopRow.apart Rows.fnTopRow.fresh Rows.fnTopRow.handsOn Rows.fnTopRow.again) :=
  Go.Sx.lifted_code (C := Try.checked) started (E := ⟨Go.Sx.S.tysC, [], [], [], [], none, []⟩) (tb := 4) (f := fun A => Go.Sx.R.e_laws_FnTop A)
    (by kernel_rfl) (by kernel_rfl) Try.func9
    (ChangeSpec.witness6 (enc := enc) (C := Try.checked) false ⟨#[], #[.slice .none 0 0], []⟩ 8 (by kernel_rfl) (by kernel_rfl) (by kernel_rfl) (by kernel_rfl))
    (Go.Sx.envOf Go.Sx.S.tableC trivial trivial trivial) rfl (by kernel_rfl) (by kernel_rfl) (by kernel_rfl) rfl
    (fun ds hl => match ds, hl with | [_], _ => rfl) (by kernel_rfl) (by kernel_rfl) (by kernel_rfl) (fun _ => Go.Sx.S.X9)
    (fun A v h => Go.Sx.R.law_FnTop A v h)
theorem fnTop_holds : Rows.FnTopSaid :=
  OpenClaim.holds_of_wide 9 Try.f9 rfl rfl rfl rfl rfl rfl rfl ⟨rfl, rfl, rfl, rfl, rfl⟩ rfl rfl rfl rfl rfl (by kernel_rfl) Try.func9 (by kernel_rfl)
    (of_decide_eq_true (by kernel_rfl)) (by unfold Func.isWrapper; first | (rw [if_pos (by decide +kernel)]; kernel_rfl) | (rw [if_neg (by decide +kernel)]; exact ⟨rfl, rfl⟩))
    (fun os started H enc _ => fnTop_lifted os started H enc)
#print axioms fnTop_holds
end Go.Proofs.Ytjjhhgieolobjaa
