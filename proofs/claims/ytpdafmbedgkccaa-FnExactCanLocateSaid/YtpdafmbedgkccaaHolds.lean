/- The statements hold: the laws say true of all arguments. Conditions: none. -/
import Derived.Test.YtpdafmbedgkccaaSeat
import Derived.Test.YtpdafmbedgkccaaLaw
import Derived.Test.YtpdafmbedgkccaaRows
import Derived.ProofKit
namespace Go.Proofs.Ytpdafmbedgkccaa
open Go.ChangeShapes Go.WideShapes Go.ChangeAt Go.RowKit

set_option maxRecDepth 100000 in
theorem fnExactCanLocate_lifted (os : Os) (started : os.Started) (H : Type) (enc : TypeId × Value → H) :
    ReturnsInHanded {} Try.checked os 10 .any (Rows.fnExactCanLocateSpec.pre6 enc Try.prog Try.f10 Rows.fnExactCanLocateRow.domain Rows.fnExactCanLocateRow.apart) (Rows.fnExactCanLocateSpec.post enc Try.prog Try.f10 Rows.fnExactCanLocateRow.apart Rows.fnExactCanLocateRow.fresh Rows.fnExactCanLocateRow.handsOn Rows.fnExactCanLocateRow.again) :=
  Go.Sx.lifted_of (C := Try.checked) started (E := ⟨Go.Sx.S.tys, [], [], []⟩) (tb := 4) (ts := [Go.Sx.S.net, Go.Sx.S.int]) (f := Go.Sx.R.e_laws_FnExactCanLocate)
    (by kernel_rfl) (by kernel_rfl) Try.func10
    (ChangeSpec.witness6 (enc := enc) (C := Try.checked) false ⟨#[], #[.agg #[.int .i64 0, .int .i64 0, .int .i64 0, .slice .none 0 0], .int .i64 0], []⟩ 8 (by kernel_rfl) (by kernel_rfl) (by kernel_rfl) (by kernel_rfl))
    (Go.Sx.envOf Go.Sx.S.table trivial trivial) rfl (by kernel_rfl) (by kernel_rfl) (by kernel_rfl) rfl
    (fun ds hl => match ds, hl with | [_, _], _ => rfl) (by kernel_rfl) (by kernel_rfl) (by kernel_rfl) Go.Sx.S.X10
    (fun xs h => Go.Sx.R.law_CanLocate xs.1 xs.2.1 (Go.Sx.ok_net _ h.1) (Go.Sx.ok_int _ h.2.1))

theorem fnExactCanLocate_holds : Rows.FnExactCanLocateSaid :=
  OpenClaim.holds_of_wide 10 Try.f10 rfl rfl rfl rfl rfl rfl rfl ⟨rfl, rfl, rfl, rfl, rfl⟩ rfl rfl rfl rfl rfl (by kernel_rfl) Try.func10 (by kernel_rfl)
    (of_decide_eq_true (by kernel_rfl)) (by unfold Func.isWrapper; first | (rw [if_pos (by decide +kernel)]; kernel_rfl) | (rw [if_neg (by decide +kernel)]; exact ⟨rfl, rfl⟩))
    (fun os started H enc _ => fnExactCanLocate_lifted os started H enc)
#print axioms fnExactCanLocate_holds

end Go.Proofs.Ytpdafmbedgkccaa

