/- FnExactSplitSection: for every input the law answers true, and its arguments read as before. -/
import Derived.Test.YtpdlhcgmejadnaaGreatRows
import Derived.Test.YtpdlhcgmejadnaaGreatSplitSectionP2
import Derived.WalkKit
import Derived.ProofKit
import Derived.OpenShut
import Derived.SizedLaws
namespace Go.Proofs.YtpdlhcgmejadnaaGreat
open Go Go.Vm
set_option linter.unusedVariables false
set_option linter.unusedSimpArgs false
theorem laid_out:laidOutB Go.Proofs.Tryz.prog=true:=by kernel_rfl
theorem own_none:ownKnob Go.Proofs.Tryz.prog.godebug=none:=by kernel_rfl
set_option maxHeartbeats 40000000 in
set_option maxRecDepth 100000 in
theorem fnExactSplitSection_lifted (os:Os) (started:os.Started) (H:Type) (enc:TypeId×Value→H) :
    ReturnsInHanded {} Go.Proofs.Tryz.checked os 4 .any (Rows.fnExactSplitSectionSpec.pre6 enc Go.Proofs.Tryz.prog Go.Proofs.Tryz.f4 Rows.fnExactSplitSectionRow.domain false) (Rows.fnExactSplitSectionSpec.post enc Go.Proofs.Tryz.prog Go.Proofs.Tryz.f4 false true false false):=by
  refine returnsInHanded_of_change_sized (C:=Go.Proofs.Tryz.checked) own_none started (by as_aux_lemma=>kernel_rfl) Go.Proofs.Tryz.func4
    (ChangeSpec.witness6 (enc:=enc) (C:=Go.Proofs.Tryz.checked) false ⟨#[],#[.agg #[.slice none 0 0,.int .i64 0,.slice none 0 0,.slice none 0 0],.agg #[.slice none 0 0],.agg #[.slice none 0 0],.slice none 0 0],[]⟩ 8 (by as_aux_lemma=>kernel_rfl) (by as_aux_lemma=>kernel_rfl) (by as_aux_lemma=>kernel_rfl) (by as_aux_lemma=>kernel_rfl)) ?_
  intro W base args ds gs before hval hW _ _ _
  exact law_calls laid_out (tab_ok tab_good) tab_open An8.S An8.pure (fn:=Go.Proofs.Tryz.f4) (Ts:=[28,24,24,25]) (by as_aux_lemma=>kernel_rfl) (by as_aux_lemma=>kernel_rfl) (by as_aux_lemma=>kernel_rfl) (rt:=4) (by as_aux_lemma=>kernel_rfl) Go.Proofs.Tryz.underlying4 Rows.fnExactSplitSectionSpec rfl (fun ds h=>by match ds,h with|[d0,d1,d2,d3],_=>rfl) W base args ds gs before hval hW
theorem bAnd {a b:Bool} (h:a=true) (k:b=true):(a&&b)=true:=by rw[h,k];rfl
set_option maxHeartbeats 40000000 in
set_option maxRecDepth 100000 in
theorem fnExactSplitSection_closed:joinedFacts Tryz.pinned.checked.prog 4 Go.Proofs.Tryz.f4 Rows.fnExactSplitSectionSpec Rows.fnExactSplitSectionRow=true:=by
  unfold joinedFacts
  with_reducible refine bAnd (bAnd (bAnd (bAnd (bAnd (bAnd (bAnd (bAnd (bAnd (bAnd (bAnd (bAnd (bAnd (bAnd (bAnd (bAnd (bAnd (bAnd (bAnd (bAnd (bAnd (bAnd (bAnd (bAnd (bAnd (bAnd (bAnd (bAnd (bAnd (bAnd (bAnd (?_) ?_) ?_) ?_) ?_) ?_) ?_) ?_) ?_) ?_) ?_) ?_) ?_) ?_) ?_) ?_) ?_) ?_) ?_) ?_) ?_) ?_) ?_) ?_) ?_) ?_) ?_) ?_) ?_) ?_) ?_) ?_
  all_goals (as_aux_lemma=>kernel_rfl)
set_option maxHeartbeats 40000000 in
set_option maxRecDepth 100000 in
theorem fnExactSplitSection_over:Rows.fnExactSplitSectionRow.holds Tryz.pinned (OpenSpec.ofChange Rows.fnExactSplitSectionSpec) :=
  OpenClaim.holds_of_wide 4 Go.Proofs.Tryz.f4 rfl rfl rfl rfl rfl rfl rfl ⟨rfl,rfl,rfl,rfl,rfl⟩ rfl rfl rfl rfl rfl (by as_aux_lemma=>kernel_rfl) Go.Proofs.Tryz.func4 fnExactSplitSection_closed
    (of_decide_eq_true (by as_aux_lemma=>kernel_rfl)) (by unfold Func.isWrapper;first|(rw[if_pos (by decide +kernel)];kernel_rfl)|(rw[if_neg (by decide +kernel)];exact⟨rfl,rfl⟩))
    (fun os started H enc _=>fnExactSplitSection_lifted os started H enc)
/-- The row, under a short name, for the claim. -/
theorem fnExactSplitSection_holds:Rows.FnExactSplitSectionSaid:=fnExactSplitSection_over

end Go.Proofs.YtpdlhcgmejadnaaGreat
