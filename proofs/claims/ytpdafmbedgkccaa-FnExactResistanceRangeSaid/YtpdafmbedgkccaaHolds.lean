/- The statements hold: the laws say true of all arguments. Conditions: none. -/
import Derived.Test.YtpdafmbedgkccaaSeat
import Derived.Test.YtpdafmbedgkccaaLaw
import Derived.Test.YtpdafmbedgkccaaRows
import Derived.ProofKit
namespace Go.Proofs.Ytpdafmbedgkccaa
open Go.ChangeShapes Go.WideShapes Go.ChangeAt Go.RowKit

set_option maxRecDepth 100000 in
theorem fnExactResistanceRange_lifted (os : Os) (started : os.Started) (H : Type) (enc : TypeId × Value → H) :
    ReturnsInHanded {} Try.checked os 5 .any (Rows.fnExactResistanceRangeSpec.pre6 enc Try.prog Try.f5 Rows.fnExactResistanceRangeRow.domain Rows.fnExactResistanceRangeRow.apart) (Rows.fnExactResistanceRangeSpec.post enc Try.prog Try.f5 Rows.fnExactResistanceRangeRow.apart Rows.fnExactResistanceRangeRow.fresh Rows.fnExactResistanceRangeRow.handsOn Rows.fnExactResistanceRangeRow.again) :=
  Go.Sx.lifted_of (C := Try.checked) started (E := ⟨Go.Sx.S.tys, [], [], []⟩) (tb := 4) (ts := [Go.Sx.S.net, (.slice Go.Sx.S.int), (.slice Go.Sx.S.int), Go.Sx.S.int, Go.Sx.S.int]) (f := Go.Sx.R.e_laws_FnExactResistanceRange)
    (by kernel_rfl) (by kernel_rfl) Try.func5
    (ChangeSpec.witness6 (enc := enc) (C := Try.checked) false ⟨#[], #[.agg #[.int .i64 0, .int .i64 0, .int .i64 0, .slice .none 0 0], .slice .none 0 0, .slice .none 0 0, .int .i64 0, .int .i64 0], []⟩ 8 (by kernel_rfl) (by kernel_rfl) (by kernel_rfl) (by kernel_rfl))
    (Go.Sx.envOf Go.Sx.S.table trivial trivial) rfl (by kernel_rfl) (by kernel_rfl) (by kernel_rfl) rfl
    (fun ds hl => match ds, hl with | [_, _, _, _, _], _ => rfl) (by kernel_rfl) (by kernel_rfl) (by kernel_rfl) Go.Sx.S.X5
    (fun xs h => Go.Sx.R.law_ResistanceRange xs.1 xs.2.1 xs.2.2.1 xs.2.2.2.1 xs.2.2.2.2.1 (Go.Sx.ok_net _ h.1) (Go.Sx.ok_intS _ h.2.1) (Go.Sx.ok_intS _ h.2.2.1) (Go.Sx.ok_int _ h.2.2.2.1) (Go.Sx.ok_int _ h.2.2.2.2.1))

theorem fnExactResistanceRange_holds : Rows.FnExactResistanceRangeSaid :=
  OpenClaim.holds_of_wide 5 Try.f5 rfl rfl rfl rfl rfl rfl rfl ⟨rfl, rfl, rfl, rfl, rfl⟩ rfl rfl rfl rfl rfl (by kernel_rfl) Try.func5 (by kernel_rfl)
    (of_decide_eq_true (by kernel_rfl)) (by unfold Func.isWrapper; first | (rw [if_pos (by decide +kernel)]; kernel_rfl) | (rw [if_neg (by decide +kernel)]; exact ⟨rfl, rfl⟩))
    (fun os started H enc _ => fnExactResistanceRange_lifted os started H enc)
#print axioms fnExactResistanceRange_holds

end Go.Proofs.Ytpdafmbedgkccaa

