/- The statements hold: the laws say true of all arguments. Conditions: none. -/
import Derived.Test.YtfjnflohpmpoeaaSeat
import Derived.Test.YtfjnflohpmpoeaaLaw
import Derived.Test.YtfjnflohpmpoeaaRows
import Derived.ProofKit
namespace Go.Proofs.Ytfjnflohpmpoeaa
open Go.ChangeShapes Go.WideShapes Go.ChangeAt Go.RowKit

set_option maxRecDepth 100000 in
theorem fnExactTriangleStar_lifted (os : Os) (started : os.Started) (H : Type) (enc : TypeId × Value → H) :
    ReturnsInHanded {} Try.checked os 5 .any (Rows.fnExactTriangleStarSpec.pre6 enc Try.prog Try.f5 Rows.fnExactTriangleStarRow.domain Rows.fnExactTriangleStarRow.apart) (Rows.fnExactTriangleStarSpec.post enc Try.prog Try.f5 Rows.fnExactTriangleStarRow.apart Rows.fnExactTriangleStarRow.fresh Rows.fnExactTriangleStarRow.handsOn Rows.fnExactTriangleStarRow.again) :=
  Go.Sx.lifted_of (C := Try.checked) started (E := ⟨Go.Sx.S.tys, [], [], []⟩) (tb := 4) (ts := [Go.Sx.S.net, Go.Sx.S.int, Go.Sx.S.int, Go.Sx.S.int]) (f := Go.Sx.R.e_laws_FnExactTriangleStar)
    (by kernel_rfl) (by kernel_rfl) Try.func5
    (ChangeSpec.witness6 (enc := enc) (C := Try.checked) false ⟨#[], #[.agg #[.int .i64 0, .int .i64 0, .int .i64 0, .slice .none 0 0], .int .i64 0, .int .i64 0, .int .i64 0], []⟩ 8 (by kernel_rfl) (by kernel_rfl) (by kernel_rfl) (by kernel_rfl))
    (Go.Sx.envOf Go.Sx.S.table trivial trivial) rfl (by kernel_rfl) (by kernel_rfl) (by kernel_rfl) rfl
    (fun ds hl => match ds, hl with | [_, _, _, _], _ => rfl) (by kernel_rfl) (by kernel_rfl) (by kernel_rfl) Go.Sx.S.X5
    (fun xs h => Go.Sx.R.law_TriangleStar xs.1 xs.2.1 xs.2.2.1 xs.2.2.2.1 (Go.Sx.ok_net _ h.1) (Go.Sx.ok_int _ h.2.1) (Go.Sx.ok_int _ h.2.2.1) (Go.Sx.ok_int _ h.2.2.2.1))

theorem fnExactTriangleStar_holds : Rows.FnExactTriangleStarSaid :=
  OpenClaim.holds_of_wide 5 Try.f5 rfl rfl rfl rfl rfl rfl rfl ⟨rfl, rfl, rfl, rfl, rfl⟩ rfl rfl rfl rfl rfl (by kernel_rfl) Try.func5 (by kernel_rfl)
    (of_decide_eq_true (by kernel_rfl)) (by unfold Func.isWrapper; first | (rw [if_pos (by decide +kernel)]; kernel_rfl) | (rw [if_neg (by decide +kernel)]; exact ⟨rfl, rfl⟩))
    (fun os started H enc _ => fnExactTriangleStar_lifted os started H enc)
#print axioms fnExactTriangleStar_holds

end Go.Proofs.Ytfjnflohpmpoeaa

