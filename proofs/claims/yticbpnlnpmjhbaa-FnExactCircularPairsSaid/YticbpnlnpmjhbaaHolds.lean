/- The statements hold: the laws say true of all arguments. Conditions: none. -/
import Derived.Test.YticbpnlnpmjhbaaSeat
import Derived.Test.YticbpnlnpmjhbaaLaw
import Derived.Test.YticbpnlnpmjhbaaRows
import Derived.ProofKit
namespace Go.Proofs.Yticbpnlnpmjhbaa
open Go.ChangeShapes Go.WideShapes Go.ChangeAt Go.RowKit

set_option maxRecDepth 100000 in
theorem fnExactCircularPairs_lifted (os : Os) (started : os.Started) (H : Type) (enc : TypeId × Value → H) :
    ReturnsInHanded {} Try.checked os 6 .any (Rows.fnExactCircularPairsSpec.pre6 enc Try.prog Try.f6 Rows.fnExactCircularPairsRow.domain Rows.fnExactCircularPairsRow.apart) (Rows.fnExactCircularPairsSpec.post enc Try.prog Try.f6 Rows.fnExactCircularPairsRow.apart Rows.fnExactCircularPairsRow.fresh Rows.fnExactCircularPairsRow.handsOn Rows.fnExactCircularPairsRow.again) :=
  Go.Sx.lifted_of (C := Try.checked) started (E := ⟨Go.Sx.S.tys, [], [], []⟩) (tb := 4) (ts := [Go.Sx.S.int]) (f := Go.Sx.R.e_laws_FnExactCircularPairs)
    (by kernel_rfl) (by kernel_rfl) Try.func6
    (ChangeSpec.witness6 (enc := enc) (C := Try.checked) false ⟨#[], #[.int .i64 0], []⟩ 8 (by kernel_rfl) (by kernel_rfl) (by kernel_rfl) (by kernel_rfl))
    (Go.Sx.envOf Go.Sx.S.table trivial trivial) rfl (by kernel_rfl) (by kernel_rfl) (by kernel_rfl) rfl
    (fun ds hl => match ds, hl with | [_], _ => rfl) (by kernel_rfl) (by kernel_rfl) (by kernel_rfl) Go.Sx.S.X6
    (fun xs h => Go.Sx.R.law_CircularPairs xs.1 (Go.Sx.ok_int _ h.1))

theorem fnExactCircularPairs_holds : Rows.FnExactCircularPairsSaid :=
  OpenClaim.holds_of_wide 6 Try.f6 rfl rfl rfl rfl rfl rfl rfl ⟨rfl, rfl, rfl, rfl, rfl⟩ rfl rfl rfl rfl rfl (by kernel_rfl) Try.func6 (by kernel_rfl)
    (of_decide_eq_true (by kernel_rfl)) (by unfold Func.isWrapper; first | (rw [if_pos (by decide +kernel)]; kernel_rfl) | (rw [if_neg (by decide +kernel)]; exact ⟨rfl, rfl⟩))
    (fun os started H enc _ => fnExactCircularPairs_lifted os started H enc)
#print axioms fnExactCircularPairs_holds

end Go.Proofs.Yticbpnlnpmjhbaa

