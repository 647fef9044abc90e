/- What the functions answer. -/
import Derived.Test.YtanmmcfiogamfaaGreatRestrictSheafP1
namespace Go.Proofs.YtanmmcfiogamfaaGreat
open Go Go.Vm
set_option linter.unusedVariables false
set_option linter.unusedSimpArgs false
theorem markSheaf_both (s : ShfV) (h : SmSh s) : ∃ (ys : ShfV) (v : Int), laws_markSheaf.F (s, 1, ()) = some ((v, ()), (ys, ())) ∧ laws_heldSheaf.F (ys, 1, ()) = some ((v, ()), ()) ∧ 0 ≤ v := by
  obtain ⟨c, p, st, ms⟩ := s
  obtain ⟨hc, hst, hms⟩ := h
  have hst : st.length ≤ 1048576 := hst
  have hml : ms.length ≤ 1048576 := hms.1
  have b : offM ms ms.length ≤ 1048579 * 1048576 := offM_bd hms
  have hc : SmL c := hc
  have b2 := offs_bd hc
  obtain ⟨y1, e1, f1⟩ := markComplex_val c 1 hc (by omega) (by omega)
  obtain ⟨y2, e2, l2, k2⟩ := laws_markInt64S.val st (1 + offs c c.length) (by omega) (by omega)
  obtain ⟨y3, e3, l3, k3⟩ := laws_markMatrixS.val ms (1 + offs c c.length + st.length) (by omega) (by omega) (by omega)
  have f2 := laws_heldInt64S.val y2 (1 + offs c c.length) (by omega) (by omega) k2
  rw [l2] at f2
  have f3 := laws_heldMatrixS.val ms y3 (1 + offs c c.length + st.length) (by omega) (by omega) (by omega) l3 k3
  refine ⟨(y1, p, y2, y3), 1 + offs c c.length + st.length + offM ms ms.length, ?_, ?_, by omega⟩
  · rw [laws_markSheaf.eq, laws_markSheaf.T, e1]
    simp only [Option.bind_some, e2, e3]
  · rw [laws_heldSheaf.eq, laws_heldSheaf.T, f1]
    simp only [Option.bind_some]
    rw [if_neg (by simp; omega), f2]
    simp only [Option.bind_some]
    rw [if_neg (by simp; omega), f3]
    simp only [Option.bind_some]
    rw [if_neg (by simp; omega)]
theorem cpx_wf {s : List (List Int)} (h : wfT (.sl (.sl (.int .i64))) s) : s.length ≤ maxLen ∧ ∀ x ∈ s, x.length ≤ maxLen := ⟨h.1, fun x hx => (h.2 x hx).1⟩
theorem laws_FnExactRestrictSheaf.pure (d : Ins laws_FnExactRestrictSheaf.sig.ps) (h : wfIns laws_FnExactRestrictSheaf.sig.ps d) : ∃ mu, laws_FnExactRestrictSheaf.F d = some ((true, ()), mu) := by
  obtain ⟨a, c, ⟨⟩⟩ := d
  obtain ⟨hwa, hwc, _⟩ := h
  obtain ⟨w1, w2, w3, w4, w5⟩ := shf_wf hwa
  obtain ⟨u1, u2⟩ := cpx_wf hwc
  refine ⟨(), ?_⟩
  have hT : laws_FnExactRestrictSheaf.F (a, c, ()) = laws_FnExactRestrictSheaf.T a.1 a.2.1 a.2.2.1 a.2.2.2 c := laws_FnExactRestrictSheaf.eq _ _ _ _ _
  rw [hT, laws_FnExactRestrictSheaf.T]
  obtain ⟨r1, e1, k1⟩ := laws_szSheaf.val a 1048576 (by omega) (by omega) w1 w2 w3 w4 w5
  have e1 : laws_szSheaf.F ((a.1, (a.2.1, (a.2.2.1, a.2.2.2))), 1048576, ()) = _ := e1
  rw [e1]
  simp only [Option.bind_some]
  rcases k1 with rfl | ⟨a1, b1, c1⟩
  · rw [if_pos (by simp)]
  rw [if_neg (by simp; omega)]
  obtain ⟨r2, e2, k2⟩ := laws_szComplex.val c r1 a1 b1 u1 u2
  rw [e2]
  simp only [Option.bind_some]
  rcases k2 with rfl | ⟨a2, b2, c2⟩
  · rw [if_pos (by simp)]
  rw [if_neg (by simp; omega)]
  have t1 : laws_toSheaf.F ((a.1, (a.2.1, (a.2.2.1, a.2.2.2))), ()) = _ := laws_toSheaf.val a c1
  have t2 := laws_toComplex.val c c2
  obtain ⟨f1, g1, g1'⟩ := laws_eqSheaf.same a a c1
  obtain ⟨f2, g2, g2'⟩ := laws_eqComplex.same c c c2
  obtain ⟨f4, g4, g4'⟩ := laws_eqSheaf.same (rstV a c) (rstV a c) (rst_small a c)
  obtain rfl : f1 = true := g1'.2 rfl
  obtain rfl : f2 = true := g2'.2 rfl
  obtain rfl : f4 = true := g4'.2 rfl
  obtain ⟨v1, s1, m1, m1', m1''⟩ := laws_markSheaf.some a 1 c1 (by omega) (by omega)
  obtain ⟨v2, s2, m2, m2', m2''⟩ := laws_markComplex.some c v1 c2 (by omega) (by omega)
  obtain ⟨ys, v, n1, n2, n3⟩ := markSheaf_both (rstV a c) (rst_small a c)
  have q1 : ¬ v2 < 0 := by omega
  have q2 : ¬ v < 0 := by omega
  simp [t1, t2, spec_RestrictSheaf.val a c c1 c2, impl_RestrictSheaf.val a c c1 c2, g1, g2, g4, m1, m2, n1, n2, q1, q2]
end Go.Proofs.YtanmmcfiogamfaaGreat
