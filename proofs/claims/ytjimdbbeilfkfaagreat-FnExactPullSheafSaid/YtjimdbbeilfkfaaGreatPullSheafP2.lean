/- What the functions answer. -/
import Derived.Test.YtjimdbbeilfkfaaGreatPullSheafP1
namespace Go.Proofs.YtjimdbbeilfkfaaGreat
open Go Go.Vm
set_option linter.unusedVariables false
set_option linter.unusedSimpArgs false
theorem laws_FnExactPullSheaf.pure (d : Ins laws_FnExactPullSheaf.sig.ps) (h : wfIns laws_FnExactPullSheaf.sig.ps d) : ∃ mu, laws_FnExactPullSheaf.F d = some ((true, ()), mu) := by
  obtain ⟨a, c, im, ⟨⟩⟩ := d
  obtain ⟨hwa, hwc, _, _⟩ := h
  obtain ⟨w1, w2, w3, w4, w5⟩ := shf_wf hwa
  obtain ⟨u1, u2⟩ := cpx_wf hwc
  refine ⟨(), ?_⟩
  have hT : laws_FnExactPullSheaf.F (a, c, im, ()) = laws_FnExactPullSheaf.T a.1 a.2.1 a.2.2.1 a.2.2.2 c im := laws_FnExactPullSheaf.eq _ _ _ _ _ _
  rw [hT, laws_FnExactPullSheaf.T]
  by_cases hil : im.length ≤ 1048576
  · rw [if_neg (by simp; omega)]
    obtain ⟨r1, e1, k1⟩ := laws_szSheaf.val a 1048576 (by omega) (by omega) w1 w2 w3 w4 w5
    have e1 : laws_szSheaf.F ((a.1, (a.2.1, (a.2.2.1, a.2.2.2))), 1048576, ()) = _ := e1
    rw [e1]
    simp only [Option.bind_some]
    rcases k1 with rfl | ⟨a1, b1, c1⟩
    · rw [if_pos (by simp)]
    rw [if_neg (by simp; omega)]
    obtain ⟨r2, e2, k2⟩ := laws_szComplex.val c r1 a1 b1 u1 u2
    rw [e2]
    simp only [Option.bind_some]
    rcases k2 with rfl | ⟨a2, b2, c2⟩
    · rw [if_pos (by simp)]
    rw [if_neg (by simp; omega)]
    have t1 : laws_toSheaf.F ((a.1, (a.2.1, (a.2.2.1, a.2.2.2))), ()) = _ := laws_toSheaf.val a c1
    have t2 := laws_toComplex.val c c2
    have t3 := laws_toInt64S.val im (by omega)
    have hs := pullShV_small a c im
    obtain ⟨f1, g1, g1'⟩ := laws_eqSheaf.same a a c1
    obtain ⟨f2, g2, g2'⟩ := laws_eqComplex.same c c c2
    obtain ⟨f4, g4, g4'⟩ := laws_eqSheaf.same (pullShV a c im).1 (pullShV a c im).1 hs
    obtain rfl : f1 = true := g1'.2 rfl
    obtain rfl : f2 = true := g2'.2 rfl
    obtain rfl : f4 = true := g4'.2 rfl
    have g3 := laws_eqInt64S.refl im (by omega)
    obtain ⟨v1, s1, m1, m1', m1''⟩ := laws_markSheaf.some a 1 c1 (by omega) (by omega)
    obtain ⟨v2, s2, m2, m2', m2''⟩ := laws_markComplex.some c v1 c2 (by omega) (by omega)
    obtain ⟨v3, s3, m3, m3', m3''⟩ := laws_markInt64S.some im v2 hil (by omega) (by omega)
    obtain ⟨ys, v, n1, n2, n3⟩ := markSheaf_both (pullShV a c im).1 hs
    have q1 : ¬ v3 < 0 := by omega
    have q2 : ¬ v < 0 := by omega
    simp [t1, t2, t3, spec_PullSheaf.val a c im c1 c2 hil, impl_PullSheaf.val a c im c1 c2 hil, g1, g2, g3, g4, m1, m2, m3, n1, n2, q1, q2]
  · rw [if_pos (by simp; omega)]
end Go.Proofs.YtjimdbbeilfkfaaGreat
