/- The statements hold: the laws say true of all arguments. Conditions: none. -/
import Derived.Test.YtgiiolidgiglaaaSeat
import Derived.Test.YtgiiolidgiglaaaLaw
import Derived.Test.YtgiiolidgiglaaaRows
import Derived.ProofKit
namespace Go.Proofs.Ytgiiolidgiglaaa
open Go.ChangeShapes Go.WideShapes Go.ChangeAt Go.RowKit

set_option maxRecDepth 100000 in
theorem fnExactBlindWires_lifted (os : Os) (started : os.Started) (H : Type) (enc : TypeId × Value → H) :
    ReturnsInHanded {} Try.checked os 3 .any (Rows.fnExactBlindWiresSpec.pre6 enc Try.prog Try.f3 Rows.fnExactBlindWiresRow.domain Rows.fnExactBlindWiresRow.apart) (Rows.fnExactBlindWiresSpec.post enc Try.prog Try.f3 Rows.fnExactBlindWiresRow.apart Rows.fnExactBlindWiresRow.fresh Rows.fnExactBlindWiresRow.handsOn Rows.fnExactBlindWiresRow.again) :=
  Go.Sx.lifted_of (C := Try.checked) started (E := ⟨Go.Sx.S.tys, [], [], [], [], none, []⟩) (tb := 4) (ts := [Go.Sx.S.net]) (f := Go.Sx.R.e_laws_FnExactBlindWires)
    (by kernel_rfl) (by kernel_rfl) Try.func3
    (ChangeSpec.witness6 (enc := enc) (C := Try.checked) false ⟨#[], #[.agg #[.int .i64 0, .int .i64 0, .int .i64 0, .slice .none 0 0]], []⟩ 8 (by kernel_rfl) (by kernel_rfl) (by kernel_rfl) (by kernel_rfl))
    (Go.Sx.envOf Go.Sx.S.table trivial trivial trivial) rfl (by kernel_rfl) (by kernel_rfl) (by kernel_rfl) rfl
    (fun ds hl => match ds, hl with | [_], _ => rfl) (by kernel_rfl) (by kernel_rfl) (by kernel_rfl) (Go.Sx.S.X3 (A := none))
    (fun xs h => Go.Sx.R.law_BlindWires xs.1 (Go.Sx.ok_net _ h.1))

theorem fnExactBlindWires_holds : Rows.FnExactBlindWiresSaid :=
  OpenClaim.holds_of_wide 3 Try.f3 rfl rfl rfl rfl rfl rfl rfl ⟨rfl, rfl, rfl, rfl, rfl⟩ rfl rfl rfl rfl rfl (by kernel_rfl) Try.func3 (by kernel_rfl)
    (of_decide_eq_true (by kernel_rfl)) (by unfold Func.isWrapper; first | (rw [if_pos (by decide +kernel)]; kernel_rfl) | (rw [if_neg (by decide +kernel)]; exact ⟨rfl, rfl⟩))
    (fun os started H enc _ => fnExactBlindWires_lifted os started H enc)
#print axioms fnExactBlindWires_holds

end Go.Proofs.Ytgiiolidgiglaaa
