/- The statements hold: the laws say true of all arguments. Conditions: none. -/
import Derived.Test.YtabamjmhpgjnjaaSeat
import Derived.Test.YtabamjmhpgjnjaaLaw
import Derived.Test.YtabamjmhpgjnjaaRows
import Derived.ProofKit
namespace Go.Proofs.Ytabamjmhpgjnjaa
open Go.ChangeShapes Go.WideShapes Go.ChangeAt Go.RowKit

set_option maxRecDepth 100000 in
theorem fnExactSeriesOf_lifted (os : Os) (started : os.Started) (H : Type) (enc : TypeId × Value → H) :
    ReturnsInHanded {} Try.checked os 8 .any (Rows.fnExactSeriesOfSpec.pre6 enc Try.prog Try.f8 Rows.fnExactSeriesOfRow.domain Rows.fnExactSeriesOfRow.apart) (Rows.fnExactSeriesOfSpec.post enc Try.prog Try.f8 Rows.fnExactSeriesOfRow.apart Rows.fnExactSeriesOfRow.fresh Rows.fnExactSeriesOfRow.handsOn Rows.fnExactSeriesOfRow.again) :=
  Go.Sx.lifted_of (C := Try.checked) started (E := ⟨Go.Sx.S.tys, [], []⟩) (tb := 4) (ts := [Go.Sx.S.net]) (f := Go.Sx.R.e_laws_FnExactSeriesOf)
    (by kernel_rfl) (by kernel_rfl) Try.func8
    (ChangeSpec.witness6 (enc := enc) (C := Try.checked) false ⟨#[], #[.agg #[.int .i64 0, .int .i64 0, .int .i64 0, .slice .none 0 0]], []⟩ 8 (by kernel_rfl) (by kernel_rfl) (by kernel_rfl) (by kernel_rfl))
    (Go.Sx.envOf Go.Sx.S.table trivial) rfl (by kernel_rfl) (by kernel_rfl) (by kernel_rfl) rfl
    (fun ds hl => match ds, hl with | [_], _ => rfl) (by kernel_rfl) (by kernel_rfl) (by kernel_rfl) Go.Sx.S.X8
    (fun xs h => Go.Sx.R.law_SeriesOf xs.1 (Go.Sx.ok_net _ h.1))

theorem fnExactSeriesOf_holds : Rows.FnExactSeriesOfSaid :=
  OpenClaim.holds_of_wide 8 Try.f8 rfl rfl rfl rfl rfl rfl rfl ⟨rfl, rfl, rfl, rfl, rfl⟩ rfl rfl rfl rfl rfl (by kernel_rfl) Try.func8 (by kernel_rfl)
    (of_decide_eq_true (by kernel_rfl)) (by unfold Func.isWrapper; first | (rw [if_pos (by decide +kernel)]; kernel_rfl) | (rw [if_neg (by decide +kernel)]; exact ⟨rfl, rfl⟩))
    (fun os started H enc _ => fnExactSeriesOf_lifted os started H enc)
#print axioms fnExactSeriesOf_holds

end Go.Proofs.Ytabamjmhpgjnjaa

