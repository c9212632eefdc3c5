/- The statements hold: the laws say true of all arguments. Conditions: none. -/
import Derived.Test.YtfjnflohpmpoeaaSeat
import Derived.Test.YtfjnflohpmpoeaaLaw
import Derived.Test.YtfjnflohpmpoeaaRows
import Derived.ProofKit
namespace Go.Proofs.Ytfjnflohpmpoeaa
open Go.ChangeShapes Go.WideShapes Go.ChangeAt Go.RowKit

set_option maxRecDepth 100000 in
theorem fnExactDropNode_lifted (os : Os) (started : os.Started) (H : Type) (enc : TypeId × Value → H) :
    ReturnsInHanded {} Try.checked os 7 .any (Rows.fnExactDropNodeSpec.pre6 enc Try.prog Try.f7 Rows.fnExactDropNodeRow.domain Rows.fnExactDropNodeRow.apart) (Rows.fnExactDropNodeSpec.post enc Try.prog Try.f7 Rows.fnExactDropNodeRow.apart Rows.fnExactDropNodeRow.fresh Rows.fnExactDropNodeRow.handsOn Rows.fnExactDropNodeRow.again) :=
  Go.Sx.lifted_of (C := Try.checked) started (E := ⟨Go.Sx.S.tys, [], [], []⟩) (tb := 4) (ts := [Go.Sx.S.net, Go.Sx.S.int]) (f := Go.Sx.R.e_laws_FnExactDropNode)
    (by kernel_rfl) (by kernel_rfl) Try.func7
    (ChangeSpec.witness6 (enc := enc) (C := Try.checked) false ⟨#[], #[.agg #[.int .i64 0, .int .i64 0, .int .i64 0, .slice .none 0 0], .int .i64 0], []⟩ 8 (by kernel_rfl) (by kernel_rfl) (by kernel_rfl) (by kernel_rfl))
    (Go.Sx.envOf Go.Sx.S.table trivial trivial) rfl (by kernel_rfl) (by kernel_rfl) (by kernel_rfl) rfl
    (fun ds hl => match ds, hl with | [_, _], _ => rfl) (by kernel_rfl) (by kernel_rfl) (by kernel_rfl) Go.Sx.S.X7
    (fun xs h => Go.Sx.R.law_DropNode xs.1 xs.2.1 (Go.Sx.ok_net _ h.1) (Go.Sx.ok_int _ h.2.1))

theorem fnExactDropNode_holds : Rows.FnExactDropNodeSaid :=
  OpenClaim.holds_of_wide 7 Try.f7 rfl rfl rfl rfl rfl rfl rfl ⟨rfl, rfl, rfl, rfl, rfl⟩ rfl rfl rfl rfl rfl (by kernel_rfl) Try.func7 (by kernel_rfl)
    (of_decide_eq_true (by kernel_rfl)) (by unfold Func.isWrapper; first | (rw [if_pos (by decide +kernel)]; kernel_rfl) | (rw [if_neg (by decide +kernel)]; exact ⟨rfl, rfl⟩))
    (fun os started H enc _ => fnExactDropNode_lifted os started H enc)
#print axioms fnExactDropNode_holds

end Go.Proofs.Ytfjnflohpmpoeaa

