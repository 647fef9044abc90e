/- FnExactValidCosheaf: for every input the law answers true, and its arguments read as before. -/
import Derived.Test.YtpibalgbkhpcbaaRows
import Derived.Test.YtpibalgbkhpcbaaValidCosheafP1
import Derived.WalkKit
import Derived.ProofKit
import Derived.OpenShut
import Derived.SizedLaws
namespace Go.Proofs.Ytpibalgbkhpcbaa
open Go Go.Vm
set_option linter.unusedVariables false
set_option linter.unusedSimpArgs false
theorem laid_out : laidOutB Go.Proofs.Try.prog = true := by kernel_rfl
theorem own_none : ownKnob Go.Proofs.Try.prog.godebug = none := by kernel_rfl
set_option maxRecDepth 100000 in
theorem fnExactValidCosheaf_lifted (os : Os) (started : os.Started) (H : Type) (enc : TypeId × Value → H) :
    ReturnsInHanded {} Go.Proofs.Try.checked os 7 .any (Rows.fnExactValidCosheafSpec.pre6 enc Go.Proofs.Try.prog Go.Proofs.Try.f7 Rows.fnExactValidCosheafRow.domain false) (Rows.fnExactValidCosheafSpec.post enc Go.Proofs.Try.prog Go.Proofs.Try.f7 false true false false) := by
  refine returnsInHanded_of_change_sized (C := Go.Proofs.Try.checked) own_none started (by kernel_rfl) Go.Proofs.Try.func7
    (ChangeSpec.witness6 (enc := enc) (C := Go.Proofs.Try.checked) false ⟨#[], #[.agg #[.slice none 0 0, .int .i64 0, .slice none 0 0, .slice none 0 0]], []⟩ 8 (by kernel_rfl) (by kernel_rfl) (by kernel_rfl) (by kernel_rfl)) ?_
  intro W base args ds gs before hval hW _ _ _
  exact law_calls laid_out (tab_ok tab_good) tab_open laws_FnExactValidCosheaf.S laws_FnExactValidCosheaf.pure (fn := Go.Proofs.Try.f7) (Ts := [42]) (by kernel_rfl) (by kernel_rfl) (by kernel_rfl) (rt := 4) (by kernel_rfl) Go.Proofs.Try.underlying4 Rows.fnExactValidCosheafSpec rfl (fun ds h => by match ds, h with | [d0], _ => rfl) W base args ds gs before hval hW
set_option maxRecDepth 100000 in
theorem fnExactValidCosheaf_over : Rows.fnExactValidCosheafRow.holds Try.pinned (OpenSpec.ofChange Rows.fnExactValidCosheafSpec) :=
  OpenClaim.holds_of_wide 7 Go.Proofs.Try.f7 rfl rfl rfl rfl rfl rfl rfl ⟨rfl, rfl, rfl, rfl, rfl⟩ rfl rfl rfl rfl rfl (by kernel_rfl) Go.Proofs.Try.func7 (by kernel_rfl)
    (of_decide_eq_true (by kernel_rfl)) (by unfold Func.isWrapper; first | (rw [if_pos (by decide +kernel)]; kernel_rfl) | (rw [if_neg (by decide +kernel)]; exact ⟨rfl, rfl⟩))
    (fun os started H enc _ => fnExactValidCosheaf_lifted os started H enc)
/-- The row, under a short name, for the claim. -/
theorem fnExactValidCosheaf_holds : Rows.FnExactValidCosheafSaid := fnExactValidCosheaf_over

end Go.Proofs.Ytpibalgbkhpcbaa
