/- FnExactUnionComplex: for every input the law answers true, and its arguments read as before. -/
import Derived.Test.YtahkpjebkelmfaaRows
import Derived.Test.YtahkpjebkelmfaaUnionComplexP1
import Derived.WalkKit
import Derived.ProofKit
import Derived.OpenShut
import Derived.SizedLaws
namespace Go.Proofs.Ytahkpjebkelmfaa
open Go Go.Vm
set_option linter.unusedVariables false
set_option linter.unusedSimpArgs false
theorem laid_out : laidOutB Go.Proofs.Try.prog = true := by kernel_rfl
theorem own_none : ownKnob Go.Proofs.Try.prog.godebug = none := by kernel_rfl
set_option maxHeartbeats 40000000 in
set_option maxRecDepth 100000 in
theorem fnExactUnionComplex_lifted (os : Os) (started : os.Started) (H : Type) (enc : TypeId × Value → H) :
    ReturnsInHanded {} Go.Proofs.Try.checked os 6 .any (Rows.fnExactUnionComplexSpec.pre6 enc Go.Proofs.Try.prog Go.Proofs.Try.f6 Rows.fnExactUnionComplexRow.domain false) (Rows.fnExactUnionComplexSpec.post enc Go.Proofs.Try.prog Go.Proofs.Try.f6 false true false false) := by
  refine returnsInHanded_of_change_sized (C := Go.Proofs.Try.checked) own_none started (by as_aux_lemma => kernel_rfl) Go.Proofs.Try.func6
    (ChangeSpec.witness6 (enc := enc) (C := Go.Proofs.Try.checked) false ⟨#[], #[.agg #[.slice none 0 0], .agg #[.slice none 0 0]], []⟩ 8 (by as_aux_lemma => kernel_rfl) (by as_aux_lemma => kernel_rfl) (by as_aux_lemma => kernel_rfl) (by as_aux_lemma => kernel_rfl)) ?_
  intro W base args ds gs before hval hW _ _ _
  exact law_calls laid_out (tab_ok tab_good) tab_open Af4.S Af4.pure (fn := Go.Proofs.Try.f6) (Ts := [24, 24]) (by as_aux_lemma => kernel_rfl) (by as_aux_lemma => kernel_rfl) (by as_aux_lemma => kernel_rfl) (rt := 4) (by as_aux_lemma => kernel_rfl) Go.Proofs.Try.underlying4 Rows.fnExactUnionComplexSpec rfl (fun ds h => by match ds, h with | [d0, d1], _ => rfl) W base args ds gs before hval hW
theorem bAnd {a b : Bool} (h : a = true) (k : b = true) : (a && b) = true := by rw [h, k]; rfl
set_option maxHeartbeats 40000000 in
set_option maxRecDepth 100000 in
theorem fnExactUnionComplex_closed : joinedFacts Try.pinned.checked.prog 6 Go.Proofs.Try.f6 Rows.fnExactUnionComplexSpec Rows.fnExactUnionComplexRow = true := by
  unfold joinedFacts
  with_reducible refine bAnd (bAnd (bAnd (bAnd (bAnd (bAnd (bAnd (bAnd (bAnd (bAnd (bAnd (bAnd (bAnd (bAnd (bAnd (bAnd (bAnd (bAnd (bAnd (bAnd (bAnd (bAnd (bAnd (bAnd (bAnd (bAnd (bAnd (bAnd (bAnd (bAnd (bAnd (?_) ?_) ?_) ?_) ?_) ?_) ?_) ?_) ?_) ?_) ?_) ?_) ?_) ?_) ?_) ?_) ?_) ?_) ?_) ?_) ?_) ?_) ?_) ?_) ?_) ?_) ?_) ?_) ?_) ?_) ?_) ?_
  all_goals (as_aux_lemma => kernel_rfl)
set_option maxHeartbeats 40000000 in
set_option maxRecDepth 100000 in
theorem fnExactUnionComplex_over : Rows.fnExactUnionComplexRow.holds Try.pinned (OpenSpec.ofChange Rows.fnExactUnionComplexSpec) :=
  OpenClaim.holds_of_wide 6 Go.Proofs.Try.f6 rfl rfl rfl rfl rfl rfl rfl ⟨rfl, rfl, rfl, rfl, rfl⟩ rfl rfl rfl rfl rfl (by as_aux_lemma => kernel_rfl) Go.Proofs.Try.func6 fnExactUnionComplex_closed
    (of_decide_eq_true (by as_aux_lemma => kernel_rfl)) (by unfold Func.isWrapper; first | (rw [if_pos (by decide +kernel)]; kernel_rfl) | (rw [if_neg (by decide +kernel)]; exact ⟨rfl, rfl⟩))
    (fun os started H enc _ => fnExactUnionComplex_lifted os started H enc)
/-- The row, under a short name, for the claim. -/
theorem fnExactUnionComplex_holds : Rows.FnExactUnionComplexSaid := fnExactUnionComplex_over

end Go.Proofs.Ytahkpjebkelmfaa
