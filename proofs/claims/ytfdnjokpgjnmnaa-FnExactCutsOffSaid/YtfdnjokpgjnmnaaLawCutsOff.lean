/- FnExactCutsOff: for every input the law answers true, and its arguments read as before. -/
import Derived.Test.YtfdnjokpgjnmnaaRows
import Derived.Test.YtfdnjokpgjnmnaaCutsOffP1
import Derived.WalkKit
import Derived.ProofKit
import Derived.OpenShut
import Derived.SizedLaws
namespace Go.Proofs.Ytfdnjokpgjnmnaa
open Go Go.Vm
set_option linter.unusedVariables false
set_option linter.unusedSimpArgs false
theorem laid_out : laidOutB Go.Proofs.Try.prog = true := by kernel_rfl
theorem own_none : ownKnob Go.Proofs.Try.prog.godebug = none := by kernel_rfl
set_option maxHeartbeats 40000000 in
set_option maxRecDepth 100000 in
theorem fnExactCutsOff_lifted (os : Os) (started : os.Started) (H : Type) (enc : TypeId × Value → H) :
    ReturnsInHanded {} Go.Proofs.Try.checked os 4 .any (Rows.fnExactCutsOffSpec.pre6 enc Go.Proofs.Try.prog Go.Proofs.Try.f4 Rows.fnExactCutsOffRow.domain false) (Rows.fnExactCutsOffSpec.post enc Go.Proofs.Try.prog Go.Proofs.Try.f4 false true false false) := by
  refine returnsInHanded_of_change_sized (C := Go.Proofs.Try.checked) own_none started (by as_aux_lemma => kernel_rfl) Go.Proofs.Try.func4
    (ChangeSpec.witness6 (enc := enc) (C := Go.Proofs.Try.checked) false ⟨#[], #[.agg #[.slice none 0 0], .slice none 0 0], []⟩ 8 (by as_aux_lemma => kernel_rfl) (by as_aux_lemma => kernel_rfl) (by as_aux_lemma => kernel_rfl) (by as_aux_lemma => kernel_rfl)) ?_
  intro W base args ds gs before hval hW _ _ _
  exact law_calls laid_out (tab_ok tab_good) tab_open Ae3.S Ae3.pure (fn := Go.Proofs.Try.f4) (Ts := [40, 26]) (by as_aux_lemma => kernel_rfl) (by as_aux_lemma => kernel_rfl) (by as_aux_lemma => kernel_rfl) (rt := 4) (by as_aux_lemma => kernel_rfl) Go.Proofs.Try.underlying4 Rows.fnExactCutsOffSpec rfl (fun ds h => by match ds, h with | [d0, d1], _ => rfl) W base args ds gs before hval hW
theorem bAnd {a b : Bool} (h : a = true) (k : b = true) : (a && b) = true := by rw [h, k]; rfl
set_option maxHeartbeats 40000000 in
set_option maxRecDepth 100000 in
theorem fnExactCutsOff_closed : joinedFacts Try.pinned.checked.prog 4 Go.Proofs.Try.f4 Rows.fnExactCutsOffSpec Rows.fnExactCutsOffRow = true := by
  unfold joinedFacts
  with_reducible refine bAnd (bAnd (bAnd (bAnd (bAnd (bAnd (bAnd (bAnd (bAnd (bAnd (bAnd (bAnd (bAnd (bAnd (bAnd (bAnd (bAnd (bAnd (bAnd (bAnd (bAnd (bAnd (bAnd (bAnd (bAnd (bAnd (bAnd (bAnd (bAnd (bAnd (bAnd (?_) ?_) ?_) ?_) ?_) ?_) ?_) ?_) ?_) ?_) ?_) ?_) ?_) ?_) ?_) ?_) ?_) ?_) ?_) ?_) ?_) ?_) ?_) ?_) ?_) ?_) ?_) ?_) ?_) ?_) ?_) ?_
  all_goals (as_aux_lemma => kernel_rfl)
set_option maxHeartbeats 40000000 in
set_option maxRecDepth 100000 in
theorem fnExactCutsOff_over : Rows.fnExactCutsOffRow.holds Try.pinned (OpenSpec.ofChange Rows.fnExactCutsOffSpec) :=
  OpenClaim.holds_of_wide 4 Go.Proofs.Try.f4 rfl rfl rfl rfl rfl rfl rfl ⟨rfl, rfl, rfl, rfl, rfl⟩ rfl rfl rfl rfl rfl (by as_aux_lemma => kernel_rfl) Go.Proofs.Try.func4 fnExactCutsOff_closed
    (of_decide_eq_true (by as_aux_lemma => kernel_rfl)) (by unfold Func.isWrapper; first | (rw [if_pos (by decide +kernel)]; kernel_rfl) | (rw [if_neg (by decide +kernel)]; exact ⟨rfl, rfl⟩))
    (fun os started H enc _ => fnExactCutsOff_lifted os started H enc)
/-- The row, under a short name, for the claim. -/
theorem fnExactCutsOff_holds : Rows.FnExactCutsOffSaid := fnExactCutsOff_over

end Go.Proofs.Ytfdnjokpgjnmnaa
