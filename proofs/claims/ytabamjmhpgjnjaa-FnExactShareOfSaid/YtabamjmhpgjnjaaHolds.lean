/- The statements hold: the laws say true of all arguments. Conditions: none. -/
import Derived.Test.YtabamjmhpgjnjaaSeat
import Derived.Test.YtabamjmhpgjnjaaLaw
import Derived.Test.YtabamjmhpgjnjaaRows
import Derived.ProofKit
namespace Go.Proofs.Ytabamjmhpgjnjaa
open Go.ChangeShapes Go.WideShapes Go.ChangeAt Go.RowKit

set_option maxRecDepth 100000 in
theorem fnExactShareOf_lifted (os : Os) (started : os.Started) (H : Type) (enc : TypeId × Value → H) :
    ReturnsInHanded {} Try.checked os 12 .any (Rows.fnExactShareOfSpec.pre6 enc Try.prog Try.f12 Rows.fnExactShareOfRow.domain Rows.fnExactShareOfRow.apart) (Rows.fnExactShareOfSpec.post enc Try.prog Try.f12 Rows.fnExactShareOfRow.apart Rows.fnExactShareOfRow.fresh Rows.fnExactShareOfRow.handsOn Rows.fnExactShareOfRow.again) :=
  Go.Sx.lifted_of (C := Try.checked) started (E := ⟨Go.Sx.S.tys, [], [], []⟩) (tb := 4) (ts := [Go.Sx.S.net, Go.Sx.S.int]) (f := Go.Sx.R.e_laws_FnExactShareOf)
    (by kernel_rfl) (by kernel_rfl) Try.func12
    (ChangeSpec.witness6 (enc := enc) (C := Try.checked) false ⟨#[], #[.agg #[.int .i64 0, .int .i64 0, .int .i64 0, .slice .none 0 0], .int .i64 0], []⟩ 8 (by kernel_rfl) (by kernel_rfl) (by kernel_rfl) (by kernel_rfl))
    (Go.Sx.envOf Go.Sx.S.table trivial trivial) rfl (by kernel_rfl) (by kernel_rfl) (by kernel_rfl) rfl
    (fun ds hl => match ds, hl with | [_, _], _ => rfl) (by kernel_rfl) (by kernel_rfl) (by kernel_rfl) Go.Sx.S.X12
    (fun xs h => Go.Sx.R.law_ShareOf xs.1 xs.2.1 (Go.Sx.ok_net _ h.1) (Go.Sx.ok_int _ h.2.1))

theorem fnExactShareOf_holds : Rows.FnExactShareOfSaid :=
  OpenClaim.holds_of_wide 12 Try.f12 rfl rfl rfl rfl rfl rfl rfl ⟨rfl, rfl, rfl, rfl, rfl⟩ rfl rfl rfl rfl rfl (by kernel_rfl) Try.func12 (by kernel_rfl)
    (of_decide_eq_true (by kernel_rfl)) (by unfold Func.isWrapper; first | (rw [if_pos (by decide +kernel)]; kernel_rfl) | (rw [if_neg (by decide +kernel)]; exact ⟨rfl, rfl⟩))
    (fun os started H enc _ => fnExactShareOf_lifted os started H enc)
#print axioms fnExactShareOf_holds

end Go.Proofs.Ytabamjmhpgjnjaa

