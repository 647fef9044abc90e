/- FnExactPairOf: for every input the law answers true, and its arguments read as before. -/
import Derived.Test.YtpibalgbkhpcbaaGreatRows
import Derived.Test.YtpibalgbkhpcbaaGreatPairOfP1
import Derived.WalkKit
import Derived.ProofKit
import Derived.OpenShut
import Derived.SizedLaws
namespace Go.Proofs.YtpibalgbkhpcbaaGreat
open Go Go.Vm
set_option linter.unusedVariables false
set_option linter.unusedSimpArgs false
theorem laid_out : laidOutB Go.Proofs.Tryz.prog = true := by kernel_rfl
theorem own_none : ownKnob Go.Proofs.Tryz.prog.godebug = none := by kernel_rfl
set_option maxRecDepth 100000 in
theorem fnExactPairOf_lifted (os : Os) (started : os.Started) (H : Type) (enc : TypeId × Value → H) :
    ReturnsInHanded {} Go.Proofs.Tryz.checked os 5 .any (Rows.fnExactPairOfSpec.pre6 enc Go.Proofs.Tryz.prog Go.Proofs.Tryz.f5 Rows.fnExactPairOfRow.domain false) (Rows.fnExactPairOfSpec.post enc Go.Proofs.Tryz.prog Go.Proofs.Tryz.f5 false true false false) := by
  refine returnsInHanded_of_change_sized (C := Go.Proofs.Tryz.checked) own_none started (by kernel_rfl) Go.Proofs.Tryz.func5
    (ChangeSpec.witness6 (enc := enc) (C := Go.Proofs.Tryz.checked) false ⟨#[], #[.agg #[.slice none 0 0, .int .i64 0, .slice none 0 0, .slice none 0 0], .int .i64 0, .slice none 0 0, .slice none 0 0], []⟩ 8 (by kernel_rfl) (by kernel_rfl) (by kernel_rfl) (by kernel_rfl)) ?_
  intro W base args ds gs before hval hW _ _ _
  exact law_calls laid_out (tab_ok tab_good) tab_open laws_FnExactPairOf.S laws_FnExactPairOf.pure (fn := Go.Proofs.Tryz.f5) (Ts := [28, 2, 25, 25]) (by kernel_rfl) (by kernel_rfl) (by kernel_rfl) (rt := 4) (by kernel_rfl) Go.Proofs.Tryz.underlying4 Rows.fnExactPairOfSpec rfl (fun ds h => by match ds, h with | [d0, d1, d2, d3], _ => rfl) W base args ds gs before hval hW
set_option maxRecDepth 100000 in
theorem fnExactPairOf_over : Rows.fnExactPairOfRow.holds Tryz.pinned (OpenSpec.ofChange Rows.fnExactPairOfSpec) :=
  OpenClaim.holds_of_wide 5 Go.Proofs.Tryz.f5 rfl rfl rfl rfl rfl rfl rfl ⟨rfl, rfl, rfl, rfl, rfl⟩ rfl rfl rfl rfl rfl (by kernel_rfl) Go.Proofs.Tryz.func5 (by kernel_rfl)
    (of_decide_eq_true (by kernel_rfl)) (by unfold Func.isWrapper; first | (rw [if_pos (by decide +kernel)]; kernel_rfl) | (rw [if_neg (by decide +kernel)]; exact ⟨rfl, rfl⟩))
    (fun os started H enc _ => fnExactPairOf_lifted os started H enc)
/-- The row, under a short name, for the claim. -/
theorem fnExactPairOf_holds : Rows.FnExactPairOfSaid := fnExactPairOf_over

end Go.Proofs.YtpibalgbkhpcbaaGreat
