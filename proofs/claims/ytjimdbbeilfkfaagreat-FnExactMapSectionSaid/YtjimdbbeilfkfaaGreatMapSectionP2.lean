/- What the functions answer. -/
import Derived.Test.YtjimdbbeilfkfaaGreatMapSectionP1
namespace Go.Proofs.YtjimdbbeilfkfaaGreat
open Go Go.Vm
set_option linter.unusedVariables false
set_option linter.unusedSimpArgs false
theorem laws_toMatrixS.val (xs : List MatV) (h : SmMs xs) : laws_toMatrixS.F (xs, ()) = some ((xs, ()), ()) := by
  have hl := h.1
  refine laws_toMatrixS.of xs ?_
  have := Goes.fill (L := fun k i ys => laws_toMatrixS.l3 k xs (i : Int) ys) xs (0, 0, 0, []) (fun k i ys hi hy => by
    rw [laws_toMatrixS.l3_eq, if_pos (ltI.2 hi), if_pos (idxI.2 hi)]
    simp only [Int.toNat_natCast, laws_toMatrix.val _ (h.2 _ (getD_mem (0, 0, 0, []) hi)), Option.bind_some]
    rw [if_pos (by omega), wrapN (by omega)]) (List.replicate xs.length (0, 0, 0, [])) (by simp)
  refine Ev.of_eq (this _ ((Ev.const _).succ fun k => ?_)) fun k => ?_
  · rw [laws_toMatrixS.l3_eq, if_neg (by simp)]
  · rw [laws_toMatrixS.T, if_pos (by simp only [bigN]; omega)]; rfl
theorem laws_eqMatrix.same (m n : MatV) (h : SmM m) : ∃ b, laws_eqMatrix.F (m, n, ()) = some ((b, ()), ()) ∧ (b = true ↔ m = n) := by
  obtain ⟨a, b, c, xs⟩ := m
  obtain ⟨a', b', c', ys⟩ := n
  have hs : xs.length ≤ 1048576 := h
  obtain ⟨e, he, he'⟩ := laws_eqInt64S.val xs ys (by omega)
  rw [laws_eqMatrix.eq, laws_eqMatrix.T, he]
  simp only [Option.bind_some, Prod.mk.injEq]
  by_cases h1 : a = a'
  · by_cases h2 : b = b'
    · by_cases h3 : c = c'
      · rw [if_neg (by simp [h1]), if_neg (by simp [h2]), if_neg (by simp [h3])]
        exact ⟨e, by cases e <;> rfl, by simp [h1, h2, h3, he']⟩
      · exact ⟨false, by rw [if_neg (by simp [h1]), if_neg (by simp [h2]), if_pos (by simp [h3])], by simp [h3]⟩
    · exact ⟨false, by rw [if_neg (by simp [h1]), if_pos (by simp [h2])], by simp [h2]⟩
  · exact ⟨false, by rw [if_pos (by simp [h1])], by simp [h1]⟩
theorem laws_eqMatrixS.same (xs ys : List MatV) (h : SmMs xs) : ∃ b, laws_eqMatrixS.F (xs, ys, ()) = some ((b, ()), ()) ∧ (b = true ↔ xs = ys) := by
  have hn := h.1
  by_cases hl : xs.length = ys.length
  · obtain ⟨b, hb, hb'⟩ := same_loop (fun k i => laws_eqMatrixS.l4 k xs ys (i : Int)) xs ys (0, 0, 0, []) hl (fun i hi => by
      obtain ⟨c, hc, hc'⟩ := laws_eqMatrix.same (xs.getD i (0, 0, 0, [])) (ys.getD i (0, 0, 0, [])) (h.2 _ (getD_mem _ hi))
      exact ⟨c, hc', fun k => by rw [laws_eqMatrixS.l4_eq, if_pos (ltI.2 hi), if_pos (idxI.2 hi), if_pos (idx2 (hl ▸ hi))]; simp only [Int.toNat_natCast, hc, Option.bind_some]; rw [wrapN (by omega)]⟩) (fun k => by rw [laws_eqMatrixS.l4_eq, if_neg (by simp)])
    exact ⟨b, laws_eqMatrixS.of _ _ (hb.of_eq fun k => by rw [laws_eqMatrixS.T, if_neg (by simp [hl])]; rfl), hb'⟩
  · exact ⟨false, laws_eqMatrixS.of _ _ ((Ev.const _).of_eq fun k => by rw [laws_eqMatrixS.T, if_pos (by simp; omega)]), by simp; intro e; exact hl (by rw [e])⟩
theorem shf_wf {s : ShfV} (h : wfT (.pair (.sl (.sl (.int .i64))) (.pair (.int .i64) (.pair (.sl (.int .i64)) (.sl (.pair (.int .i64) (.pair (.int .i64) (.pair (.int .i64) (.sl (.int .i64))))))))) s) : s.1.length ≤ maxLen ∧ (∀ x ∈ s.1, x.length ≤ maxLen) ∧ s.2.2.1.length ≤ maxLen ∧ s.2.2.2.length ≤ maxLen ∧ ∀ x ∈ s.2.2.2, x.2.2.2.length ≤ maxLen := by
  obtain ⟨a, p, b, c⟩ := s
  obtain ⟨⟨h1, h2⟩, _, ⟨h3, _⟩, h4, h5⟩ := h
  exact ⟨h1, fun x hx => (h2 x hx).1, h3, h4, fun x hx => (h5 x hx).2.2.2.1⟩
theorem laws_szSheaf.val (s : ShfV) (l : Int) (h0 : 0 ≤ l) (h1 : l ≤ 1048576) (w1 : s.1.length ≤ maxLen) (w2 : ∀ x ∈ s.1, x.length ≤ maxLen) (w3 : s.2.2.1.length ≤ maxLen) (w4 : s.2.2.2.length ≤ maxLen) (w5 : ∀ x ∈ s.2.2.2, x.2.2.2.length ≤ maxLen) : ∃ r, laws_szSheaf.F (s, l, ()) = some ((r, ()), ()) ∧ (r = -1 ∨ 0 ≤ r ∧ r ≤ l ∧ SmSh s) := by
  obtain ⟨a, p, b, c⟩ := s
  obtain ⟨r1, e1, k1⟩ := laws_szComplex.val a l h0 h1 w1 w2
  rw [laws_szSheaf.eq, laws_szSheaf.T, e1]
  simp only [Option.bind_some]
  rcases k1 with rfl | ⟨a1, b1, c1⟩
  · exact ⟨-1, by rw [if_pos (by simp)], .inl rfl⟩
  rw [if_neg (by simp; omega)]
  obtain ⟨r2, e2, k2⟩ := laws_szInt64S.val b r1 a1 (by omega) w3
  rw [e2]
  simp only [Option.bind_some]
  rcases k2 with rfl | ⟨a2, b2, c2⟩
  · exact ⟨-1, by rw [if_pos (by simp)], .inl rfl⟩
  rw [if_neg (by simp; omega)]
  obtain ⟨r3, e3, k3⟩ := laws_szMatrixS.val c r2 a2 (by omega) w4 w5
  rw [e3]
  simp only [Option.bind_some]
  rcases k3 with rfl | ⟨a3, b3, c3⟩
  · exact ⟨-1, by rw [if_pos (by simp)], .inl rfl⟩
  exact ⟨r3, by rw [if_neg (by simp; omega)], .inr ⟨a3, by omega, c1, c2, c3⟩⟩
theorem laws_toSheaf.val (s : ShfV) (h : SmSh s) : laws_toSheaf.F (s, ()) = some ((s, ()), ()) := by
  obtain ⟨a, p, b, c⟩ := s
  obtain ⟨h1, h2, h3⟩ := h
  have h2' : b.length ≤ 1048576 := h2
  rw [laws_toSheaf.eq, laws_toSheaf.T, laws_toComplex.val a h1, laws_toInt64S.val b (by omega), laws_toMatrixS.val c h3]; rfl
theorem laws_eqSheaf.same (s t : ShfV) (h : SmSh s) : ∃ b, laws_eqSheaf.F (s, t, ()) = some ((b, ()), ()) ∧ (b = true ↔ s = t) := by
  obtain ⟨a, p, b, c⟩ := s
  obtain ⟨a', p', b', c'⟩ := t
  obtain ⟨h1, h2, h3⟩ := h
  have h2' : b.length ≤ 1048576 := h2
  obtain ⟨v1, e1, k1⟩ := laws_eqComplex.same a a' h1
  obtain ⟨v2, e2, k2⟩ := laws_eqInt64S.val b b' (by omega)
  obtain ⟨v3, e3, k3⟩ := laws_eqMatrixS.same c c' h3
  rw [laws_eqSheaf.eq, laws_eqSheaf.T, e1, e2, e3]
  simp only [Option.bind_some, Prod.mk.injEq]
  by_cases hp : p = p'
  · rw [show (p != p') = false by simp [hp]]
    refine ⟨v1 && v2 && v3, by cases v1 <;> cases v2 <;> cases v3 <;> rfl, ?_⟩
    simp only [Bool.and_eq_true, k1, k2, k3, hp, true_and, and_assoc]
  · rw [show (p != p') = true by simp [hp]]
    exact ⟨false, by cases v1 <;> rfl, by simp [hp]⟩
def Marked (ys : List Int) (k : Int) : Prop := ∀ j, j < ys.length → ys.getD j 0 = k + j
theorem laws_markInt64S.val (xs : List Int) (k0 : Int) (h0 : 0 ≤ k0) (h1 : k0 + xs.length ≤ 4611686018427387904) : ∃ ys, laws_markInt64S.F (xs, k0, ()) = some ((k0 + xs.length, ()), (ys, ())) ∧ ys.length = xs.length ∧ Marked ys k0 := by
  obtain ⟨⟨v, ys⟩, ⟨hv, hl, hm⟩, hg⟩ := Goes.loop (R := (Int × Unit) × (List Int × Unit)) (fun k i (s : Int × List Int) => laws_markInt64S.l2 k s.1 (i : Int) s.2) xs.length (fun i s => s.1 = k0 + i ∧ s.2.length = xs.length ∧ ∀ j, j < i → s.2.getD j 0 = k0 + j)
    (fun i s hi ⟨h2, h3, h4⟩ => ⟨(s.1 + 1, s.2.set i s.1), ⟨by simp only []; omega, by simp [h3], fun j hj => by
      simp only [List.getD_eq_getElem?_getD, List.getElem?_set]
      by_cases hij : i = j
      · subst hij; simp [h3, hi, h2]
      · have := h4 j (by omega)
        simp only [List.getD_eq_getElem?_getD] at this
        simp [hij, this]⟩, Goes.succ fun k => by
      rw [laws_markInt64S.l2_eq, if_pos (by simp; omega), if_pos (by omega), wrapI (by omega) (by omega), wrapN (by omega)]
      simp only [Int.toNat_natCast]⟩) 0 (k0, xs) (Nat.zero_le _) ⟨by simp, rfl, fun j hj => by omega⟩
  simp only [] at hv hl hm
  refine ⟨ys, laws_markInt64S.of _ _ ((hg _ ((Ev.const _).succ fun k => ?_)).of_eq fun k => rfl), hl, fun j hj => hm j (by omega)⟩
  rw [laws_markInt64S.l2_eq, if_neg (by simp; omega), hv]
theorem laws_heldInt64S.val (ys : List Int) (k0 : Int) (h0 : 0 ≤ k0) (h1 : k0 + ys.length ≤ 4611686018427387904) (hm : Marked ys k0) : laws_heldInt64S.F (ys, k0, ()) = some ((k0 + ys.length, ()), ()) := by
  obtain ⟨v, hv, hg⟩ := Goes.loop (R := (Int × Unit) × Unit) (fun k i (s : Int) => laws_heldInt64S.l2 k ys s (i : Int)) ys.length (fun i s => s = k0 + i)
    (fun i s hi h2 => ⟨s + 1, by omega, Goes.succ fun k => by
      rw [laws_heldInt64S.l2_eq, if_pos (ltI.2 hi), if_pos (idxI.2 hi), if_neg (by simp only [Int.toNat_natCast]; rw [hm i hi, h2]; simp), wrapI (by omega) (by omega), wrapN (by omega)]⟩) 0 k0 (Nat.zero_le _) (by simp)
  refine laws_heldInt64S.of _ _ ((hg _ ((Ev.const _).succ fun k => ?_)).of_eq fun k => rfl)
  rw [laws_heldInt64S.l2_eq, if_neg (by simp), hv]
theorem marks_both (xs : List Int) (h1 : xs.length ≤ 4611686018427387903) : ∃ ys v, laws_markInt64S.F (xs, 1, ()) = some ((v, ()), (ys, ())) ∧ laws_heldInt64S.F (ys, 1, ()) = some ((v, ()), ()) ∧ 0 ≤ v := by
  obtain ⟨ys, h2, h3, h4⟩ := laws_markInt64S.val xs 1 (by omega) (by omega)
  exact ⟨ys, _, h2, by rw [laws_heldInt64S.val ys 1 (by omega) (by omega) h4, h3], by omega⟩
def mkI (n : Nat) (k : Int) : List Int := (List.range n).map fun (j : Nat) => k + (j : Int)
theorem mkI_length (n : Nat) (k : Int) : (mkI n k).length = n := by simp [mkI]
theorem mkI_marked (n : Nat) (k : Int) : Marked (mkI n k) k := fun j hj => by
  rw [mkI_length] at hj
  simp [mkI, List.getD_eq_getElem?_getD, hj]
theorem mkI_of {ys : List Int} {k : Int} (h : Marked ys k) : ys = mkI ys.length k := by
  refine List.ext_getElem (by simp [mkI]) fun i h1 h2 => ?_
  rw [← getD_eq (d := 0) h1, ← getD_eq (d := 0) h2, h i h1, mkI_marked _ _ i h2]
def mkM (m : MatV) (k : Int) : MatV := (k, k + 1, k + 1 + 1, mkI m.2.2.2.length (k + 1 + 1 + 1))
def szM (m : MatV) : Nat := 3 + m.2.2.2.length
def offM (ms : List MatV) (i : Nat) : Nat := ((ms.take i).map szM).sum
theorem offM_succ {ms : List MatV} {i : Nat} (h : i < ms.length) : offM ms (i + 1) = offM ms i + szM (ms.getD i (0, 0, 0, [])) := by
  unfold offM
  rw [List.take_add_one, List.getElem?_eq_getElem h, Option.toList_some, List.map_append, List.sum_append, getD_eq h]
  simp
theorem offM_le {ms : List MatV} {i j : Nat} (h : i ≤ j) : offM ms i ≤ offM ms j := by
  induction h with
  | refl => exact Nat.le_refl _
  | @step m _ ih =>
    by_cases hm : m < ms.length
    · rw [Nat.succ_eq_add_one, offM_succ hm]; omega
    · have : offM ms (m + 1) = offM ms m := by unfold offM; rw [List.take_of_length_le (by omega), List.take_of_length_le (by omega)]
      rw [Nat.succ_eq_add_one, this]; exact ih
theorem offM_bd {ms : List MatV} (h : SmMs ms) : offM ms ms.length ≤ 1048579 * 1048576 := by
  have key : ∀ i, i ≤ ms.length → offM ms i ≤ 1048579 * i := by
    intro i
    induction i with
    | zero => intro _; simp [offM]
    | succ i ih =>
      intro hi
      have h1 := ih (by omega)
      have h2 : (ms.getD i (0, 0, 0, [])).2.2.2.length ≤ 1048576 := h.2 _ (getD_mem _ (by omega))
      rw [offM_succ (by omega), szM]; omega
  have := key ms.length (Nat.le_refl _)
  have := h.1
  omega
theorem set_same {α : Type} (l : List α) (i : Nat) (x y : α) : (l.set i x).set i y = l.set i y := by rw [List.set_set]
theorem getD_set_self {α : Type} (l : List α) (i : Nat) (x d : α) (h : i < l.length) : (l.set i x).getD i d = x := by simp [List.getD_eq_getElem?_getD, h]
theorem laws_markMatrixS.val (ms : List MatV) (k0 : Int) (h0 : 0 ≤ k0) (hx : ms.length < 4611686018427387904) (h1 : k0 + offM ms ms.length ≤ 4611686018427387904) :
    ∃ ys, laws_markMatrixS.F (ms, k0, ()) = some ((k0 + offM ms ms.length, ()), (ys, ())) ∧ ys.length = ms.length ∧ ∀ j, j < ms.length → ys.getD j (0, 0, 0, []) = mkM (ms.getD j (0, 0, 0, [])) (k0 + offM ms j) := by
  obtain ⟨⟨v, ys⟩, ⟨hv, hl, hm, -⟩, hg⟩ := Goes.loop (R := (Int × Unit) × (List MatV × Unit)) (fun k i (s : Int × List MatV) => laws_markMatrixS.l2 k s.1 (i : Int) s.2) ms.length
    (fun i s => s.1 = k0 + offM ms i ∧ s.2.length = ms.length ∧ (∀ j, j < i → s.2.getD j (0, 0, 0, []) = mkM (ms.getD j (0, 0, 0, [])) (k0 + offM ms j)) ∧ ∀ j, i ≤ j → s.2.getD j (0, 0, 0, []) = ms.getD j (0, 0, 0, []))
    (fun i s hi ⟨h2, h3, h4, h5⟩ => by
      have hle := offM_le (ms := ms) (show i + 1 ≤ ms.length by omega)
      rw [offM_succ hi, szM] at hle
      obtain ⟨m, hm⟩ : ∃ m, ms.getD i (0, 0, 0, []) = m := ⟨_, rfl⟩
      rw [hm] at hle
      obtain ⟨ys, e1, e2, e3⟩ := laws_markInt64S.val m.2.2.2 (s.1 + 1 + 1 + 1) (by omega) (by omega)
      have e4 : ys = mkI m.2.2.2.length (s.1 + 1 + 1 + 1) := by rw [← e2]; exact mkI_of e3
      have w1 : IntKind.i64.wrap (s.1 + 1) = s.1 + 1 := wrapI (by omega) (by omega)
      have w2 : IntKind.i64.wrap (s.1 + 1 + 1) = s.1 + 1 + 1 := wrapI (by omega) (by omega)
      have w3 : IntKind.i64.wrap (s.1 + 1 + 1 + 1) = s.1 + 1 + 1 + 1 := wrapI (by omega) (by omega)
      have hsi : s.2.getD i (0, 0, 0, []) = m := by rw [h5 i (Nat.le_refl _), hm]
      have hil : i < s.2.length := by omega
      refine ⟨(s.1 + 1 + 1 + 1 + m.2.2.2.length, s.2.set i (mkM m s.1)), ⟨by simp only []; rw [offM_succ hi, hm, szM]; omega, by simp [h3], fun j hj => ?_, fun j hj => ?_⟩, Goes.succ fun k => ?_⟩
      · by_cases hij : i = j
        · subst hij; simp only []; rw [getD_set_self _ _ _ _ hil, hm, h2]
        · have := h4 j (by omega)
          simp only [List.getD_eq_getElem?_getD, List.getElem?_set] at this ⊢
          rw [if_neg hij]; exact this
      · have := h5 j (by omega)
        simp only [List.getD_eq_getElem?_getD, List.getElem?_set] at this ⊢
        rw [if_neg (by omega)]; exact this
      · rw [laws_markMatrixS.l2_eq, if_pos (by simp; omega), if_pos (by omega)]
        simp only [Int.toNat_natCast, hsi, set_same, getD_set_self _ _ _ _ hil, List.length_set, w1, w2, w3]
        rw [if_pos (by omega), if_pos (by omega), if_pos (by omega), e1]
        simp only [Option.bind_some]
        rw [wrapN (by omega), e4]
        rfl) 0 (k0, ms) (Nat.zero_le _) ⟨by simp [offM], rfl, fun j hj => by omega, fun _ _ => rfl⟩
  simp only [] at hv hl hm
  refine ⟨ys, laws_markMatrixS.of _ _ ((hg _ ((Ev.const _).succ fun k => ?_)).of_eq fun k => rfl), hl, hm⟩
  rw [laws_markMatrixS.l2_eq, if_neg (by simp; omega), hv]
def offs (xs : List (List Int)) (i : Nat) : Nat := ((xs.take i).map List.length).sum
theorem offs_succ {xs : List (List Int)} {i : Nat} (h : i < xs.length) : offs xs (i + 1) = offs xs i + (xs.getD i []).length := by
  unfold offs
  rw [List.take_add_one, List.getElem?_eq_getElem h, Option.toList_some, List.map_append, List.sum_append, getD_eq h]
  simp
theorem offs_le {xs : List (List Int)} {i j : Nat} (h : i ≤ j) : offs xs i ≤ offs xs j := by
  induction h with
  | refl => exact Nat.le_refl _
  | @step m _ ih =>
    by_cases hm : m < xs.length
    · rw [Nat.succ_eq_add_one, offs_succ hm]; omega
    · have : offs xs (m + 1) = offs xs m := by unfold offs; rw [List.take_of_length_le (by omega), List.take_of_length_le (by omega)]
      rw [Nat.succ_eq_add_one, this]; exact ih
theorem laws_markInt64SS.val (xs : List (List Int)) (k0 : Int) (h0 : 0 ≤ k0) (hx : xs.length < 4611686018427387904) (h1 : k0 + offs xs xs.length ≤ 4611686018427387904) :
    ∃ ys, laws_markInt64SS.F (xs, k0, ()) = some ((k0 + offs xs xs.length, ()), (ys, ())) ∧ ys.length = xs.length ∧ ∀ j, j < xs.length → (ys.getD j []).length = (xs.getD j []).length ∧ Marked (ys.getD j []) (k0 + offs xs j) := by
  obtain ⟨⟨v, ys⟩, ⟨hv, hl, hm, -⟩, hg⟩ := Goes.loop (R := (Int × Unit) × (List (List Int) × Unit)) (fun k i (s : Int × List (List Int)) => laws_markInt64SS.l2 k s.1 (i : Int) s.2) xs.length
    (fun i s => s.1 = k0 + offs xs i ∧ s.2.length = xs.length ∧ (∀ j, j < i → (s.2.getD j []).length = (xs.getD j []).length ∧ Marked (s.2.getD j []) (k0 + offs xs j)) ∧ ∀ j, i ≤ j → s.2.getD j [] = xs.getD j [])
    (fun i s hi ⟨h2, h3, h4, h5⟩ => by
      have hle := offs_le (xs := xs) (show i + 1 ≤ xs.length by omega)
      rw [offs_succ hi] at hle
      obtain ⟨ys, e1, e2, e3⟩ := laws_markInt64S.val (s.2.getD i []) s.1 (by omega) (by rw [h5 i (Nat.le_refl _), h2]; omega)
      rw [h5 i (Nat.le_refl _)] at e1 e2
      refine ⟨(s.1 + (xs.getD i []).length, s.2.set i ys), ⟨by simp only []; rw [offs_succ hi]; omega, by simp [h3], fun j hj => ?_, fun j hj => ?_⟩, Goes.succ fun k => ?_⟩
      · simp only [List.getD_eq_getElem?_getD, List.getElem?_set]
        by_cases hij : i = j
        · subst hij
          simp only [h3, hi, if_true, Option.getD_some]
          exact ⟨by rw [e2, List.getD_eq_getElem?_getD], by rw [← h2]; exact e3⟩
        · have := h4 j (by omega)
          simp only [List.getD_eq_getElem?_getD] at this
          simpa [hij] using this
      · have := h5 j (by omega)
        simp only [List.getD_eq_getElem?_getD, List.getElem?_set] at this ⊢
        rw [if_neg (by omega)]; exact this
      · rw [laws_markInt64SS.l2_eq, if_pos (by simp; omega), if_pos (by omega)]
        simp only [Int.toNat_natCast, h5 i (Nat.le_refl _), e1, Option.bind_some]
        rw [wrapN (by omega)]) 0 (k0, xs) (Nat.zero_le _) ⟨by simp [offs], rfl, fun j hj => by omega, fun _ _ => rfl⟩
  simp only [] at hv hl hm
  refine ⟨ys, laws_markInt64SS.of _ _ ((hg _ ((Ev.const _).succ fun k => ?_)).of_eq fun k => rfl), hl, hm⟩
  rw [laws_markInt64SS.l2_eq, if_neg (by simp; omega), hv]
theorem offs_bd {xs : List (List Int)} (h : SmL xs) : offs xs xs.length ≤ 1048576 * 1048576 := by
  have key : ∀ i, i ≤ xs.length → offs xs i ≤ 1048576 * i := by
    intro i
    induction i with
    | zero => intro _; simp [offs]
    | succ i ih =>
      intro hi
      have h1 := ih (by omega)
      have h2 : (xs.getD i []).length ≤ 1048576 := h.2 _ (getD_mem _ (by omega))
      rw [offs_succ (by omega)]; omega
  have := key xs.length (Nat.le_refl _)
  have := h.1
  omega
theorem laws_markComplex.some (c : List (List Int)) (k0 : Int) (h : SmL c) (h0 : 0 ≤ k0) (h1 : k0 ≤ 1152921504606846976) : ∃ v ys, laws_markComplex.F (c, k0, ()) = some ((v, ()), (ys, ())) ∧ k0 ≤ v ∧ v ≤ k0 + 1099511627776 := by
  have b := offs_bd h
  have hl := h.1
  obtain ⟨ys, e, _⟩ := laws_markInt64SS.val c k0 h0 (by omega) (by omega)
  rw [laws_markComplex.eq, laws_markComplex.T, e]
  exact ⟨k0 + ((offs c c.length : Nat) : Int), _, rfl, by omega, by omega⟩
theorem laws_markSheaf.some (s : ShfV) (k0 : Int) (h : SmSh s) (h0 : 0 ≤ k0) (h1 : k0 ≤ 576460752303423488) : ∃ v ys, laws_markSheaf.F (s, k0, ()) = some ((v, ()), (ys, ())) ∧ k0 ≤ v ∧ v ≤ k0 + 8796093022208 := by
  obtain ⟨c, p, st, ms⟩ := s
  obtain ⟨hc, hst, hms⟩ := h
  have hst : st.length ≤ 1048576 := hst
  have hml := hms.1
  have b := offM_bd hms
  obtain ⟨v1, y1, e1, a1, b1⟩ := laws_markComplex.some c k0 hc h0 (by omega)
  obtain ⟨y2, e2, _⟩ := laws_markInt64S.val st v1 (by omega) (by omega)
  obtain ⟨y3, e3, _⟩ := laws_markMatrixS.val ms (v1 + st.length) (by omega) (by have : ms.length ≤ 1048576 := hml; omega) (by have : offM ms ms.length ≤ 1048579 * 1048576 := b; omega)
  rw [laws_markSheaf.eq, laws_markSheaf.T, e1]
  simp only [Option.bind_some, e2, e3]
  have : offM ms ms.length ≤ 1048579 * 1048576 := b
  exact ⟨_, _, rfl, by omega, by omega⟩
theorem laws_markInt64S.some (xs : List Int) (k0 : Int) (h : xs.length ≤ 1048576) (h0 : 0 ≤ k0) (h1 : k0 ≤ 1152921504606846976) : ∃ v ys, laws_markInt64S.F (xs, k0, ()) = some ((v, ()), (ys, ())) ∧ k0 ≤ v ∧ v ≤ k0 + 1048576 := by
  obtain ⟨ys, e, _⟩ := laws_markInt64S.val xs k0 h0 (by omega)
  exact ⟨_, _, e, by omega, by omega⟩
theorem laws_markMatrixS.some (ms : List MatV) (k0 : Int) (h : SmMs ms) (h0 : 0 ≤ k0) (h1 : k0 ≤ 1152921504606846976) : ∃ v ys, laws_markMatrixS.F (ms, k0, ()) = some ((v, ()), (ys, ())) ∧ k0 ≤ v ∧ v ≤ k0 + 2199023255552 := by
  have b : offM ms ms.length ≤ 1048579 * 1048576 := offM_bd h
  have hml : ms.length ≤ 1048576 := h.1
  obtain ⟨ys, e, _⟩ := laws_markMatrixS.val ms k0 h0 (by omega) (by omega)
  exact ⟨_, _, e, by omega, by omega⟩
theorem ofDim_all {c : List (List Int)} : ∀ n, (∀ j, j < n → (c.getD j []).length = 1) → ofDim c 0 n = (List.range n).map fun (j : Nat) => (j : Int) := by
  intro n
  induction n with
  | zero => intro _; rfl
  | succ n ih =>
    intro h
    rw [ofDim_succ, if_pos (by rw [beq_iff_eq]; have := h n (by omega); omega), ih fun j hj => h j (by omega), List.range_succ, List.map_append]; rfl
theorem ofDim_zero {c : List (List Int)} (h : CplxOk c) : ∀ n, n ≤ c.length → ∃ m, m ≤ n ∧ ofDim c 0 n = ((List.range m).map fun (j : Nat) => (j : Int)) ∧ ∀ j, j < m → (c.getD j []).length = 1 := by
  intro n
  induction n with
  | zero => intro _; exact ⟨0, by omega, rfl, fun j hj => by omega⟩
  | succ n ih =>
    intro hn
    by_cases h1 : (c.getD n []).length = 1
    · have hall : ∀ j, j < n + 1 → (c.getD j []).length = 1 := fun j hj => one_ahead h (show j ≤ n by omega) (by omega) h1
      exact ⟨n + 1, Nat.le_refl _, ofDim_all _ hall, hall⟩
    · obtain ⟨m, h2, h3, h4⟩ := ih (by omega)
      refine ⟨m, by omega, ?_, h4⟩
      rw [ofDim_succ, if_neg (by rw [beq_iff_eq]; omega), h3]
def pieceAt (s : ShfV) (x : List Int) (n : Nat) : List Int := cutL x (colAt s n) (colAt s n + s.2.2.1.getD n 0)
theorem part_val (s : ShfV) (x : List Int) (hs : SheafOk s) (n : Nat) (hn : n < s.1.length) (hx : colAt s n + s.2.2.1.getD n 0 ≤ x.length) (hxl : x.length ≤ 1048576) : impl_part.F (s, x, (n : Int), ()) = some ((pieceAt s x n, ()), ()) ∧ ((pieceAt s x n).length : Int) = s.2.2.1.getD n 0 := by
  have hT : impl_part.F (s, x, (n : Int), ()) = impl_part.T s.1 s.2.1 s.2.2.1 s.2.2.2 x (n : Int) := impl_part.eq _ _ _ _ _ _
  have hc : impl_firstColumn.F ((s.1, (s.2.1, (s.2.2.1, s.2.2.2))), (n : Int), ()) = _ := impl_firstColumn.val s hs n hn
  have hl := hs.2.2.1.1
  obtain ⟨c0, _⟩ := colAt_bd hs hn
  have s0 := stalk_nat' hs hn
  have hlen : ((pieceAt s x n).length : Int) = s.2.2.1.getD n 0 := by
    simp only [pieceAt, cutL, List.length_drop, List.length_take]; omega
  refine ⟨?_, hlen⟩
  rw [hT, impl_part.T, hc]
  simp only [Option.bind_some]
  rw [if_pos (by omega)]
  simp only [Int.toNat_natCast]
  rw [wrapI (by omega) (by omega), if_pos (by omega), slices_Clone_Lint64_int64.val _ (by have : (cutL x (colAt s n) (colAt s n + s.2.2.1.getD n 0)).length = (pieceAt s x n).length := rfl; omega)]
  rfl
def mapAtV (s : ShfV) (f : List MatV) (x : List Int) (i : Nat) : List Int := applyL (f.getD i (0, 0, 0, [])) (pieceAt s x i)
def mapL (s : ShfV) (f : List MatV) (x : List Int) : List Int := (List.range (ofDim s.1 0 s.1.length).length).flatMap (mapAtV s f x)
structure MapFit (a b : ShfV) (f : List MatV) (x : List Int) (i : Nat) : Prop where
  ok : MatOk (f.getD i (0, 0, 0, []))
  piece : AllIn 0 ((f.getD i (0, 0, 0, [])).1 - 1) (pieceAt a x i)
  cols : (f.getD i (0, 0, 0, [])).2.2.1 = ((pieceAt a x i).length : Int)
  il : i < a.1.length
  fl : i < f.length
  part : impl_part.F (a, x, (i : Int), ()) = some ((pieceAt a x i, ()), ())
  small : (mapAtV a f x i).length ≤ 3
  c0 : 0 ≤ colAt a i
  s0 : 0 ≤ a.2.2.1.getD i 0 ∧ a.2.2.1.getD i 0 ≤ 3
  c1 : colAt a i + a.2.2.1.getD i 0 ≤ x.length
  col : colAt a i = psum a.1 a.2.2.1 0 i
  nxt : psum a.1 a.2.2.1 0 (i + 1) = psum a.1 a.2.2.1 0 i + a.2.2.1.getD i 0
theorem mapFit {a b : ShfV} {f : List MatV} {x : List Int} (ha : SheafOk a) (hb : SheafOk b) (hr : Rel12 a b) (hm : PartsOk a b f) (hx : ChainIn a 0 x) (hxl : x.length ≤ 1048576) {i : Nat} (hi : i < a.1.length) (h1 : (a.1.getD i []).length = 1) : MapFit a b f x i := by
  obtain ⟨l1, l2, l3⟩ := rel_len ha hb hr
  have hfl : i < f.length := by rw [hm.1]; omega
  obtain ⟨p1, p2, p3, p4⟩ := hm.2 i hfl
  obtain ⟨c0, c1⟩ := colAt_bd ha hi
  rw [show ((a.1.getD i []).length : Int) - 1 = 0 by omega, ← hx.1] at c1
  obtain ⟨q1, q2⟩ := part_val a x ha i hi c1 hxl
  have s0 := stalk_nat' ha hi
  have sb := stalk_nat' hb (show i < b.1.length by rw [← hr.1]; exact hi)
  refine ⟨p1, fun z hz => ?_, by rw [p4, q2], hi, hfl, q1, ?_, c0, by omega, c1, by unfold colAt; rw [show ((a.1.getD i []).length : Int) - 1 = 0 by omega], by simp only [psum]; rw [if_pos (by omega)]⟩
  · rw [p2]
    exact hx.2 z (List.mem_of_mem_take (List.mem_of_mem_drop hz))
  · rw [mapAtV, applyL_length, p3]; omega
theorem flatM_le {f : Nat → List Int} : ∀ n, (∀ i, i < n → (f i).length ≤ 3) → ((List.range n).flatMap f).length ≤ 3 * n := by
  intro n
  induction n with
  | zero => intro _; simp
  | succ n ih =>
    intro h
    have h1 := ih fun i hi => h i (by omega)
    have h2 := h n (by omega)
    rw [flat_range_succ, List.length_append]; omega
noncomputable def mapC (a b : ShfV) (f : List MatV) (x : List Int) : Int := if askM a b f ≠ 0 then askM a b f else @ite _ (SecIs a x) (Classical.propDecidable _) 0 2
noncomputable def mapV (a b : ShfV) (f : List MatV) (x : List Int) : List Int × Int := if mapC a b f x ≠ 0 then ([], mapC a b f x) else (mapL a f x, 0)
theorem mapC_zero {a b : ShfV} {f : List MatV} {x : List Int} (h : mapC a b f x = 0) : ((ShfIs a ∧ ShfIs b ∧ Rel12 a b) ∧ IsMor a b f) ∧ SecIs a x := by
  unfold mapC at h
  by_cases h0 : askM a b f = 0
  · rw [if_neg (by simp [h0])] at h
    by_cases hm : SecIs a x
    · exact ⟨askM_zero h0, hm⟩
    · rw [if_neg hm] at h; omega
  · rw [if_pos h0] at h; exact absurd h h0
theorem map_all {a b : ShfV} {f : List MatV} {x : List Int} (h : mapC a b f x = 0) (hxl : x.length ≤ 1048576) : ∃ m, m ≤ 48 ∧ ofDim a.1 0 a.1.length = ((List.range m).map fun (j : Nat) => (j : Int)) ∧ ∀ i, i < m → MapFit a b f x i := by
  obtain ⟨⟨⟨ia, ib, r⟩, m1⟩, hs⟩ := mapC_zero h
  obtain ⟨m, h1, h2, h3⟩ := ofDim_zero ia.1.1 a.1.length (Nat.le_refl _)
  have := ia.1.1.1
  exact ⟨m, by omega, h2, fun i hi => mapFit ia.1 ib.1 r m1.1 hs.1 hxl (by omega) (h3 i hi)⟩
theorem mapV_small (a b : ShfV) (f : List MatV) (x : List Int) (hxl : x.length ≤ 1048576) : (mapV a b f x).1.length ≤ 144 := by
  unfold mapV
  by_cases h0 : mapC a b f x = 0
  · rw [if_neg (by simp [h0])]
    obtain ⟨m, h1, h2, h3⟩ := map_all h0 hxl
    have := flatM_le (f := mapAtV a f x) m fun i hi => (h3 i hi).small
    show (mapL a f x).length ≤ 144
    rw [mapL, h2, List.length_map, List.length_range]; omega
  · rw [if_pos h0]; simp
theorem impl_MapSection.val (a b : ShfV) (f : List MatV) (x : List Int) (ha : SmSh a) (hb : SmSh b) (hf : SmMs f) (hx : x.length ≤ 1048576) : impl_MapSection.F (a, b, f, x, ()) = some (((mapV a b f x).1, (mapV a b f x).2, ()), ()) := by
  refine impl_MapSection.of a.1 a.2.1 a.2.2.1 a.2.2.2 b.1 b.2.1 b.2.2.1 b.2.2.2 f x ?_
  have h1 : impl_withMorphism.F ((a.1, (a.2.1, (a.2.2.1, a.2.2.2))), (b.1, (b.2.1, (b.2.2.1, b.2.2.2))), f, ()) = _ := impl_withMorphism.val a b f ha hb hf
  unfold mapV
  by_cases h0 : askM a b f = 0
  · obtain ⟨⟨ia, ib, r⟩, m1⟩ := askM_zero h0
    obtain ⟨v, hv, hv'⟩ := impl_isSection.val a ia.1 x hx
    have hv : impl_isSection.F ((a.1, (a.2.1, (a.2.2.1, a.2.2.2))), x, ()) = _ := hv
    cases v with
    | false =>
      have hz : mapC a b f x = 2 := by unfold mapC; rw [if_neg (by simp [h0]), if_neg fun hh => absurd (hv'.2 hh) (by simp)]
      exact (Ev.const _).of_eq fun k => by rw [impl_MapSection.T, h1, hz]; simp only [Option.bind_some]; rw [if_neg (by simp [h0]), hv]; simp
    | true =>
      have hz : mapC a b f x = 0 := by unfold mapC; rw [if_neg (by simp [h0]), if_pos (hv'.1 rfl)]
      obtain ⟨m, hm, hD, hfit⟩ := map_all hz hx
      have hcl := ia.1.1.1
      obtain ⟨y, hy, hg⟩ := Goes.loop (R := ((List Int × Int × Unit) × Unit)) (fun k i (y : List Int) => impl_MapSection.l8 k f x (m : Int) (i : Int) a.1 a.2.1 a.2.2.1 a.2.2.2 y ((List.range m).map fun (j : Nat) => (j : Int))) m (fun i y => y = (List.range i).flatMap (mapAtV a f x)) (fun i y hi h2 => ⟨_, rfl, Goes.succ fun k => by
        have F := hfit i hi
        have hl := flatM_le (f := mapAtV a f x) i fun j hj => (hfit j (by omega)).small
        have hsm := F.small
        have hpt : impl_part.F ((a.1, (a.2.1, (a.2.2.1, a.2.2.2))), x, (i : Int), ()) = _ := F.part
        have hd : ((List.range m).map fun (j : Nat) => (j : Int)).getD i 0 = (i : Int) := getD_range _ _ hi
        rw [impl_MapSection.l8_eq, if_pos (ltI.2 hi), if_pos (idxI.2 (by simpa using hi))]
        simp only [Int.toNat_natCast, hd]
        rw [if_pos (idxI.2 F.fl), hpt]
        simp only [Option.bind_some, impl_apply.val _ _ F.ok F.piece F.cols]
        rw [if_pos (by rw [h2]; simp only [bigA]; have : (applyL (f.getD i (0, 0, 0, [])) (pieceAt a x i)).length = (mapAtV a f x i).length := rfl; omega), wrapN (by omega), h2, flat_range_succ]; rfl⟩) 0 [] (Nat.zero_le _) rfl
      refine Ev.of_eq (hg _ ((Ev.const _).succ fun k => ?_)) fun k => by rw [impl_MapSection.T, h1]; simp only [Option.bind_some]; rw [if_neg (by simp [h0]), hv]; simp only [Option.bind_some]; rw [if_neg (by simp), impl_simplicesOf.val a.1 0 (by omega) (by omega), hD]; simp only [Option.bind_some, List.length_map, List.length_range]; rfl
      rw [impl_MapSection.l8_eq, if_neg (by simp), if_neg (by simp [hz]), hy, mapL, hD, List.length_map, List.length_range]
  · have hz : mapC a b f x = askM a b f := by unfold mapC; rw [if_pos h0]
    exact (Ev.const _).of_eq fun k => by rw [impl_MapSection.T, h1, hz]; simp only [Option.bind_some]; rw [if_pos (by simp [h0]), if_pos h0]
theorem spec_MapSection.val (a b : ShfV) (f : List MatV) (x : List Int) (ha : SmSh a) (hb : SmSh b) (hf : SmMs f) (hx : x.length ≤ 1048576) : spec_MapSection.F (a, b, f, x, ()) = some (((mapV a b f x).1, (mapV a b f x).2, ()), ()) := by
  refine spec_MapSection.of a.1 a.2.1 a.2.2.1 a.2.2.2 b.1 b.2.1 b.2.2.1 b.2.2.2 f x ?_
  have h1 : spec_l12Ask.F ((a.1, (a.2.1, (a.2.2.1, a.2.2.2))), (b.1, (b.2.1, (b.2.2.1, b.2.2.2))), f, ()) = _ := spec_l12Ask.val a b f ha hb hf
  unfold mapV
  by_cases h0 : askM a b f = 0
  · obtain ⟨⟨ia, ib, r⟩, m1⟩ := askM_zero h0
    obtain ⟨v, hv, hv'⟩ := spec_l10Is.val a ia.1 x hx
    have hv : spec_l10Is.F ((a.1, (a.2.1, (a.2.2.1, a.2.2.2))), x, ()) = _ := hv
    cases v with
    | false =>
      have hz : mapC a b f x = 2 := by unfold mapC; rw [if_neg (by simp [h0]), if_neg fun hh => absurd (hv'.2 hh) (by simp)]
      exact (Ev.const _).of_eq fun k => by rw [spec_MapSection.T, h1, hz]; simp only [Option.bind_some]; rw [if_pos (by simp [h0]), hv]; simp
    | true =>
      have hz : mapC a b f x = 0 := by unfold mapC; rw [if_neg (by simp [h0]), if_pos (hv'.1 rfl)]
      obtain ⟨m, hm, hD, hfit⟩ := map_all hz hx
      have hcl := ia.1.1.1
      have hsl := ia.1.2.2.1.1
      have hof := spec_l05Of.val a.1 0 (by omega) (by omega)
      rw [hD] at hof
      obtain ⟨y, ⟨hy, _⟩, hg⟩ := Goes.loop (R := ((List Int × Int × Unit) × Unit)) (fun k i (y : Int × List Int) => spec_MapSection.l9 k f x y.1 (i : Int) a.1 a.2.1 a.2.2.1 a.2.2.2 y.2) m (fun i y => y.2 = (List.range i).flatMap (mapAtV a f x) ∧ y.1 = psum a.1 a.2.2.1 0 i) (fun i y hi h2 => ⟨(psum a.1 a.2.2.1 0 (i + 1), y.2 ++ mapAtV a f x i), ⟨by rw [h2.1, flat_range_succ], rfl⟩, Goes.succ fun k => by
        have F := hfit i hi
        have hl := flatM_le (f := mapAtV a f x) i fun j hj => (hfit j (by omega)).small
        have hsm := F.small
        have c0 := F.c0
        have c1 := F.c1
        have s0 := F.s0
        have il := F.il
        have e1 : y.1 = colAt a i := by rw [h2.2, F.col]
        have ecut : cutL x (colAt a i) (colAt a i + a.2.2.1.getD i 0) = pieceAt a x i := rfl
        rw [spec_MapSection.l9_eq, hof]
        simp only [Option.bind_some, List.length_map, List.length_range]
        rw [if_pos (ltI.2 hi), if_pos (idxI.2 F.fl), if_pos (idxI.2 (by omega))]
        simp only [Int.toNat_natCast, e1]
        rw [wrapI (x := colAt a i + a.2.2.1.getD i 0) (by omega) (by omega), if_pos (by omega), ecut]
        simp only [spec_l03Apply.val _ _ F.ok F.piece F.cols, Option.bind_some]
        rw [if_pos (by rw [h2.1]; simp only [bigA]; have : (applyL (f.getD i (0, 0, 0, [])) (pieceAt a x i)).length = (mapAtV a f x i).length := rfl; omega), if_pos (idxI.2 (by omega)), wrapN (by omega), F.nxt, ← F.col]; rfl⟩) 0 (0, []) (Nat.zero_le _) ⟨rfl, rfl⟩
      refine Ev.of_eq (hg _ ((Ev.const _).succ fun k => ?_)) fun k => by rw [spec_MapSection.T, h1]; simp only [Option.bind_some]; rw [if_pos (by simp [h0]), hv]; simp only [Option.bind_some]; rw [if_neg (by simp), if_neg (by simp [h0])]; rfl
      rw [spec_MapSection.l9_eq, hof]
      simp only [Option.bind_some, List.length_map, List.length_range]
      rw [if_neg (by simp), if_neg (by simp [hz]), hy, mapL, hD, List.length_map, List.length_range]
  · have hz : mapC a b f x = askM a b f := by unfold mapC; rw [if_pos h0]
    exact (Ev.const _).of_eq fun k => by rw [spec_MapSection.T, h1, hz]; simp only [Option.bind_some]; rw [if_neg (by simp [h0]), if_pos (by simp [h0]), if_pos h0]
theorem wf_ms {ms : List MatV} (h : wfT (.sl (.pair (.int .i64) (.pair (.int .i64) (.pair (.int .i64) (.sl (.int .i64)))))) ms) : ms.length ≤ maxLen ∧ ∀ x ∈ ms, x.2.2.2.length ≤ maxLen := ⟨h.1, fun x hx => (h.2 x hx).2.2.2.1⟩
theorem laws_FnExactMapSection.pure (d : Ins laws_FnExactMapSection.sig.ps) (h : wfIns laws_FnExactMapSection.sig.ps d) : ∃ mu, laws_FnExactMapSection.F d = some ((true, ()), mu) := by
  obtain ⟨a, b, f, x, ⟨⟩⟩ := d
  obtain ⟨hwa, hwb, hwf, hwx, _⟩ := h
  obtain ⟨w1, w2, w3, w4, w5⟩ := shf_wf hwa
  obtain ⟨x1, x2, x3, x4, x5⟩ := shf_wf hwb
  obtain ⟨y1, y2⟩ := wf_ms hwf
  refine ⟨(), ?_⟩
  have hT : laws_FnExactMapSection.F (a, b, f, x, ()) = laws_FnExactMapSection.T a.1 a.2.1 a.2.2.1 a.2.2.2 b.1 b.2.1 b.2.2.1 b.2.2.2 f x := laws_FnExactMapSection.eq _ _ _ _ _ _ _ _ _ _
  rw [hT, laws_FnExactMapSection.T]
  by_cases hx : x.length ≤ 1048576
  · rw [if_neg (by simp; omega)]
    obtain ⟨r1, e1, k1⟩ := laws_szSheaf.val a 1048576 (by omega) (by omega) w1 w2 w3 w4 w5
    have e1 : laws_szSheaf.F ((a.1, (a.2.1, (a.2.2.1, a.2.2.2))), 1048576, ()) = _ := e1
    rw [e1]
    simp only [Option.bind_some]
    rcases k1 with rfl | ⟨a1, b1, c1⟩
    · rw [if_pos (by simp)]
    obtain ⟨r2, e2, k2⟩ := laws_szSheaf.val b r1 a1 b1 x1 x2 x3 x4 x5
    have e2 : laws_szSheaf.F ((b.1, (b.2.1, (b.2.2.1, b.2.2.2))), r1, ()) = _ := e2
    rw [if_neg (by simp; omega), e2]
    simp only [Option.bind_some]
    rcases k2 with rfl | ⟨a2, b2, c2⟩
    · rw [if_pos (by simp)]
    obtain ⟨r4, e4, k4⟩ := laws_szMatrixS.val f r2 a2 (by omega) y1 y2
    rw [if_neg (by simp; omega), e4]
    simp only [Option.bind_some]
    rcases k4 with rfl | ⟨a4, b4, c4⟩
    · rw [if_pos (by simp)]
    rw [if_neg (by simp; omega)]
    have t1 : laws_toSheaf.F ((a.1, (a.2.1, (a.2.2.1, a.2.2.2))), ()) = _ := laws_toSheaf.val a c1
    have t2 : laws_toSheaf.F ((b.1, (b.2.1, (b.2.2.1, b.2.2.2))), ()) = _ := laws_toSheaf.val b c2
    obtain ⟨f1, g1, g1'⟩ := laws_eqSheaf.same a a c1
    obtain rfl : f1 = true := g1'.2 rfl
    obtain ⟨f2, g2, g2'⟩ := laws_eqSheaf.same b b c2
    obtain rfl : f2 = true := g2'.2 rfl
    obtain ⟨f4, g4, g4'⟩ := laws_eqMatrixS.same f f c4
    obtain rfl : f4 = true := g4'.2 rfl
    obtain ⟨f5, g5, g5'⟩ := laws_eqInt64S.val x x (by omega)
    obtain rfl : f5 = true := g5'.2 rfl
    have hs := mapV_small a b f x hx
    obtain ⟨f6, g6, g6'⟩ := laws_eqInt64S.val (mapV a b f x).1 (mapV a b f x).1 (by omega)
    obtain rfl : f6 = true := g6'.2 rfl
    obtain ⟨v1, s1, m1, m1', m1''⟩ := laws_markSheaf.some a 1 c1 (by omega) (by omega)
    obtain ⟨v2, s2, m2, m2', m2''⟩ := laws_markSheaf.some b v1 c2 (by omega) (by omega)
    obtain ⟨v4, s4, m4, m4', m4''⟩ := laws_markMatrixS.some f v2 c4 (by omega) (by omega)
    obtain ⟨v5, s5, m5, m5', m5''⟩ := laws_markInt64S.some x v4 hx (by omega) (by omega)
    obtain ⟨ys, v, n1, n2, n3⟩ := marks_both (mapV a b f x).1 (by omega)
    have q1 : ¬ v5 < 0 := by omega
    have q2 : ¬ v < 0 := by omega
    simp [t1, t2, laws_toMatrixS.val f c4, laws_toInt64S.val x (by omega), spec_MapSection.val a b f x c1 c2 c4 hx, impl_MapSection.val a b f x c1 c2 c4 hx, g1, g2, g4, g5, g6, m1, m2, m4, m5, n1, n2, q1, q2]
  · rw [if_pos (by simp; omega)]
end Go.Proofs.YtjimdbbeilfkfaaGreat
