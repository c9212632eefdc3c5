/- The statements hold: the laws say true of all arguments. Conditions: none. -/
import Derived.Test.YtpdafmbedgkccaaSeat
import Derived.Test.YtpdafmbedgkccaaLaw
import Derived.Test.YtpdafmbedgkccaaRows
import Derived.ProofKit
namespace Go.Proofs.Ytpdafmbedgkccaa
open Go.ChangeShapes Go.WideShapes Go.ChangeAt Go.RowKit

set_option maxRecDepth 100000 in
theorem fnExactTwinFault_lifted (os : Os) (started : os.Started) (H : Type) (enc : TypeId × Value → H) :
    ReturnsInHanded {} Try.checked os 9 .any (Rows.fnExactTwinFaultSpec.pre6 enc Try.prog Try.f9 Rows.fnExactTwinFaultRow.domain Rows.fnExactTwinFaultRow.apart) (Rows.fnExactTwinFaultSpec.post enc Try.prog Try.f9 Rows.fnExactTwinFaultRow.apart Rows.fnExactTwinFaultRow.fresh Rows.fnExactTwinFaultRow.handsOn Rows.fnExactTwinFaultRow.again) :=
  Go.Sx.lifted_of (C := Try.checked) started (E := ⟨Go.Sx.S.tys, [], [], []⟩) (tb := 4) (ts := [Go.Sx.S.net, Go.Sx.S.fault]) (f := Go.Sx.R.e_laws_FnExactTwinFault)
    (by kernel_rfl) (by kernel_rfl) Try.func9
    (ChangeSpec.witness6 (enc := enc) (C := Try.checked) false ⟨#[], #[.agg #[.int .i64 0, .int .i64 0, .int .i64 0, .slice .none 0 0], .agg #[.int .i64 0, .int .i64 0]], []⟩ 8 (by kernel_rfl) (by kernel_rfl) (by kernel_rfl) (by kernel_rfl))
    (Go.Sx.envOf Go.Sx.S.table trivial trivial) rfl (by kernel_rfl) (by kernel_rfl) (by kernel_rfl) rfl
    (fun ds hl => match ds, hl with | [_, _], _ => rfl) (by kernel_rfl) (by kernel_rfl) (by kernel_rfl) Go.Sx.S.X9
    (fun xs h => Go.Sx.R.law_TwinFault xs.1 xs.2.1 (Go.Sx.ok_net _ h.1) (Go.Sx.ok_ratio _ h.2.1))

theorem fnExactTwinFault_holds : Rows.FnExactTwinFaultSaid :=
  OpenClaim.holds_of_wide 9 Try.f9 rfl rfl rfl rfl rfl rfl rfl ⟨rfl, rfl, rfl, rfl, rfl⟩ rfl rfl rfl rfl rfl (by kernel_rfl) Try.func9 (by kernel_rfl)
    (of_decide_eq_true (by kernel_rfl)) (by unfold Func.isWrapper; first | (rw [if_pos (by decide +kernel)]; kernel_rfl) | (rw [if_neg (by decide +kernel)]; exact ⟨rfl, rfl⟩))
    (fun os started H enc _ => fnExactTwinFault_lifted os started H enc)
#print axioms fnExactTwinFault_holds

end Go.Proofs.Ytpdafmbedgkccaa

