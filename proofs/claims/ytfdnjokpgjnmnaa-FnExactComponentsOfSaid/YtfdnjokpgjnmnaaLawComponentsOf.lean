/- FnExactComponentsOf: for every input the law answers true, and its arguments read as before. -/
import Derived.Test.YtfdnjokpgjnmnaaRows
import Derived.Test.YtfdnjokpgjnmnaaComponentsOfP1
import Derived.WalkKit
import Derived.ProofKit
import Derived.OpenShut
import Derived.SizedLaws
namespace Go.Proofs.Ytfdnjokpgjnmnaa
open Go Go.Vm
set_option linter.unusedVariables false
set_option linter.unusedSimpArgs false
theorem laid_out : laidOutB Go.Proofs.Try.prog = true := by kernel_rfl
theorem own_none : ownKnob Go.Proofs.Try.prog.godebug = none := by kernel_rfl
set_option maxHeartbeats 40000000 in
set_option maxRecDepth 100000 in
theorem fnExactComponentsOf_lifted (os : Os) (started : os.Started) (H : Type) (enc : TypeId × Value → H) :
    ReturnsInHanded {} Go.Proofs.Try.checked os 3 .any (Rows.fnExactComponentsOfSpec.pre6 enc Go.Proofs.Try.prog Go.Proofs.Try.f3 Rows.fnExactComponentsOfRow.domain false) (Rows.fnExactComponentsOfSpec.post enc Go.Proofs.Try.prog Go.Proofs.Try.f3 false true false false) := by
  refine returnsInHanded_of_change_sized (C := Go.Proofs.Try.checked) own_none started (by as_aux_lemma => kernel_rfl) Go.Proofs.Try.func3
    (ChangeSpec.witness6 (enc := enc) (C := Go.Proofs.Try.checked) false ⟨#[], #[.agg #[.int .i64 0, .slice none 0 0]], []⟩ 8 (by as_aux_lemma => kernel_rfl) (by as_aux_lemma => kernel_rfl) (by as_aux_lemma => kernel_rfl) (by as_aux_lemma => kernel_rfl)) ?_
  intro W base args ds gs before hval hW _ _ _
  exact law_calls laid_out (tab_ok tab_good) tab_open Ac6.S Ac6.pure (fn := Go.Proofs.Try.f3) (Ts := [24]) (by as_aux_lemma => kernel_rfl) (by as_aux_lemma => kernel_rfl) (by as_aux_lemma => kernel_rfl) (rt := 4) (by as_aux_lemma => kernel_rfl) Go.Proofs.Try.underlying4 Rows.fnExactComponentsOfSpec rfl (fun ds h => by match ds, h with | [d0], _ => rfl) W base args ds gs before hval hW
theorem bAnd {a b : Bool} (h : a = true) (k : b = true) : (a && b) = true := by rw [h, k]; rfl
set_option maxHeartbeats 40000000 in
set_option maxRecDepth 100000 in
theorem fnExactComponentsOf_closed : joinedFacts Try.pinned.checked.prog 3 Go.Proofs.Try.f3 Rows.fnExactComponentsOfSpec Rows.fnExactComponentsOfRow = true := by
  unfold joinedFacts
  with_reducible refine bAnd (bAnd (bAnd (bAnd (bAnd (bAnd (bAnd (bAnd (bAnd (bAnd (bAnd (bAnd (bAnd (bAnd (bAnd (bAnd (bAnd (bAnd (bAnd (bAnd (bAnd (bAnd (bAnd (bAnd (bAnd (bAnd (bAnd (bAnd (bAnd (bAnd (bAnd (?_) ?_) ?_) ?_) ?_) ?_) ?_) ?_) ?_) ?_) ?_) ?_) ?_) ?_) ?_) ?_) ?_) ?_) ?_) ?_) ?_) ?_) ?_) ?_) ?_) ?_) ?_) ?_) ?_) ?_) ?_) ?_
  all_goals (as_aux_lemma => kernel_rfl)
set_option maxHeartbeats 40000000 in
set_option maxRecDepth 100000 in
theorem fnExactComponentsOf_over : Rows.fnExactComponentsOfRow.holds Try.pinned (OpenSpec.ofChange Rows.fnExactComponentsOfSpec) :=
  OpenClaim.holds_of_wide 3 Go.Proofs.Try.f3 rfl rfl rfl rfl rfl rfl rfl ⟨rfl, rfl, rfl, rfl, rfl⟩ rfl rfl rfl rfl rfl (by as_aux_lemma => kernel_rfl) Go.Proofs.Try.func3 fnExactComponentsOf_closed
    (of_decide_eq_true (by as_aux_lemma => kernel_rfl)) (by unfold Func.isWrapper; first | (rw [if_pos (by decide +kernel)]; kernel_rfl) | (rw [if_neg (by decide +kernel)]; exact ⟨rfl, rfl⟩))
    (fun os started H enc _ => fnExactComponentsOf_lifted os started H enc)
/-- The row, under a short name, for the claim. -/
theorem fnExactComponentsOf_holds : Rows.FnExactComponentsOfSaid := fnExactComponentsOf_over

end Go.Proofs.Ytfdnjokpgjnmnaa
