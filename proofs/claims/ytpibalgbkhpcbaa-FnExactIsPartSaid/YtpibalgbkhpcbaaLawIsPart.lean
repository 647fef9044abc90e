/- FnExactIsPart: for every input the law answers true, and its arguments read as before. -/
import Derived.Test.YtpibalgbkhpcbaaRows
import Derived.Test.YtpibalgbkhpcbaaIsPartP1
import Derived.WalkKit
import Derived.ProofKit
import Derived.OpenShut
import Derived.SizedLaws
namespace Go.Proofs.Ytpibalgbkhpcbaa
open Go Go.Vm
set_option linter.unusedVariables false
set_option linter.unusedSimpArgs false
theorem laid_out : laidOutB Go.Proofs.Try.prog = true := by kernel_rfl
theorem own_none : ownKnob Go.Proofs.Try.prog.godebug = none := by kernel_rfl
set_option maxRecDepth 100000 in
theorem fnExactIsPart_lifted (os : Os) (started : os.Started) (H : Type) (enc : TypeId × Value → H) :
    ReturnsInHanded {} Go.Proofs.Try.checked os 6 .any (Rows.fnExactIsPartSpec.pre6 enc Go.Proofs.Try.prog Go.Proofs.Try.f6 Rows.fnExactIsPartRow.domain false) (Rows.fnExactIsPartSpec.post enc Go.Proofs.Try.prog Go.Proofs.Try.f6 false true false false) := by
  refine returnsInHanded_of_change_sized (C := Go.Proofs.Try.checked) own_none started (by kernel_rfl) Go.Proofs.Try.func6
    (ChangeSpec.witness6 (enc := enc) (C := Go.Proofs.Try.checked) false ⟨#[], #[.agg #[.slice none 0 0], .agg #[.slice none 0 0]], []⟩ 8 (by kernel_rfl) (by kernel_rfl) (by kernel_rfl) (by kernel_rfl)) ?_
  intro W base args ds gs before hval hW _ _ _
  exact law_calls laid_out (tab_ok tab_good) tab_open laws_FnExactIsPart.S laws_FnExactIsPart.pure (fn := Go.Proofs.Try.f6) (Ts := [39, 39]) (by kernel_rfl) (by kernel_rfl) (by kernel_rfl) (rt := 4) (by kernel_rfl) Go.Proofs.Try.underlying4 Rows.fnExactIsPartSpec rfl (fun ds h => by match ds, h with | [d0, d1], _ => rfl) W base args ds gs before hval hW
set_option maxRecDepth 100000 in
theorem fnExactIsPart_over : Rows.fnExactIsPartRow.holds Try.pinned (OpenSpec.ofChange Rows.fnExactIsPartSpec) :=
  OpenClaim.holds_of_wide 6 Go.Proofs.Try.f6 rfl rfl rfl rfl rfl rfl rfl ⟨rfl, rfl, rfl, rfl, rfl⟩ rfl rfl rfl rfl rfl (by kernel_rfl) Go.Proofs.Try.func6 (by kernel_rfl)
    (of_decide_eq_true (by kernel_rfl)) (by unfold Func.isWrapper; first | (rw [if_pos (by decide +kernel)]; kernel_rfl) | (rw [if_neg (by decide +kernel)]; exact ⟨rfl, rfl⟩))
    (fun os started H enc _ => fnExactIsPart_lifted os started H enc)
/-- The row, under a short name, for the claim. -/
theorem fnExactIsPart_holds : Rows.FnExactIsPartSaid := fnExactIsPart_over

end Go.Proofs.Ytpibalgbkhpcbaa
