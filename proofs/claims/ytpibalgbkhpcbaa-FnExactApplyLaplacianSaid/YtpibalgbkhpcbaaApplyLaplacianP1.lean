/- What the functions answer. -/
import Derived.Test.YtpibalgbkhpcbaaApplyLaplacianG1
namespace Go.Proofs.Ytpibalgbkhpcbaa
open Go Go.Vm
set_option linter.unusedVariables false
set_option linter.unusedSimpArgs false
abbrev EdgeV := Int × Int × Int
theorem wrapI {x : Int} (h1 : -9223372036854775808 ≤ x) (h2 : x ≤ 9223372036854775807) : IntKind.i64.wrap x = x := by
  have e : (2 : Int) ^ (IntKind.i64).bits = 18446744073709551616 := by decide
  have e2 : (2 : Int) ^ ((IntKind.i64).bits - 1) = 9223372036854775808 := by decide
  unfold IntKind.wrap
  simp only [e, e2, show IntKind.i64.signed = true from rfl, Bool.true_and, decide_eq_true_eq]
  split <;> omega
theorem wrapN {i : Nat} (h : i < 4611686018427387904) : IntKind.i64.wrap ((i : Int) + 1) = ((i + 1 : Nat) : Int) := by
  rw [wrapI (by omega) (by omega)]; omega
theorem idxI {α : Type} {xs : List α} {i : Nat} : (0 ≤ (i : Int) ∧ (i : Int) < (xs.length : Int)) ↔ i < xs.length := by omega
theorem ltI {i n : Nat} : (decide ((i : Int) < (n : Int))) = true ↔ i < n := by simp
theorem getD_eq {α : Type} {xs : List α} {i : Nat} {d : α} (h : i < xs.length) : xs.getD i d = xs[i] := by
  rw [List.getD_eq_getElem?_getD, List.getElem?_eq_getElem h]; rfl
theorem eqT_edge (x y : EdgeV) : eqT TEdge x y = true ↔ x = y := by
  obtain ⟨a, b, c⟩ := x
  obtain ⟨a', b', c'⟩ := y
  simp [eqT]
def Goes {R : Type} (A B : Nat → Option R) : Prop := ∀ r, Ev B r → Ev A r
theorem Goes.refl {R : Type} (A : Nat → Option R) : Goes A A := fun _ h => h
theorem Goes.trans {R : Type} {A B C : Nat → Option R} (h : Goes A B) (k : Goes B C) : Goes A C := fun r hr => h r (k r hr)
theorem Goes.succ {R : Type} {A B : Nat → Option R} (e : ∀ k, A (k + 1) = B k) : Goes A B := fun _ h => h.succ e
theorem Goes.of_eq {R : Type} {A B : Nat → Option R} (e : ∀ k, A k = B k) : Goes A B := fun _ h => h.of_eq e
theorem Ev.loop {σ R : Type} (L : Nat → Nat → σ → Option R) (n : Nat) (I : Nat → σ → Prop) (Q : R → Prop)
    (hstep : ∀ i s, i < n → I i s → (∃ r, Ev (fun k => L k i s) r ∧ Q r) ∨ (∃ s', I (i + 1) s' ∧ Goes (fun k => L k i s) (fun k => L k (i + 1) s')))
    (hend : ∀ s, I n s → ∃ r, Ev (fun k => L k n s) r ∧ Q r) : ∀ i s, i ≤ n → I i s → ∃ r, Ev (fun k => L k i s) r ∧ Q r := by
  have key : ∀ j i s, i + j = n → I i s → ∃ r, Ev (fun k => L k i s) r ∧ Q r := by
    intro j
    induction j with
    | zero => intro i s hi h; obtain rfl : i = n := by omega
              exact hend s h
    | succ j ih =>
      intro i s hi h
      rcases hstep i s (by omega) h with h1 | ⟨s', h1, h2⟩
      · exact h1
      · obtain ⟨r, hr, hq⟩ := ih (i + 1) s' (by omega) h1
        exact ⟨r, h2 r hr, hq⟩
  exact fun i s hi h => key (n - i) i s (by omega) h
theorem Goes.loop {σ R : Type} (L : Nat → Nat → σ → Option R) (n : Nat) (I : Nat → σ → Prop)
    (hstep : ∀ i s, i < n → I i s → ∃ s', I (i + 1) s' ∧ Goes (fun k => L k i s) (fun k => L k (i + 1) s')) : ∀ i s, i ≤ n → I i s → ∃ s', I n s' ∧ Goes (fun k => L k i s) (fun k => L k n s') := by
  have key : ∀ j i s, i + j = n → I i s → ∃ s', I n s' ∧ Goes (fun k => L k i s) (fun k => L k n s') := by
    intro j
    induction j with
    | zero => intro i s hi h; obtain rfl : i = n := by omega
              exact ⟨s, h, Goes.refl _⟩
    | succ j ih =>
      intro i s hi h
      obtain ⟨s', h1, h2⟩ := hstep i s (by omega) h
      obtain ⟨s2, h3, h4⟩ := ih (i + 1) s' (by omega) h1
      exact ⟨s2, h3, h2.trans h4⟩
  exact fun i s hi h => key (n - i) i s (by omega) h
theorem Ev.all {A B : Type} {L : Nat → Nat → Option ((Bool × A) × B)} {a : A} {b : B} {n : Nat} (p : Nat → Bool) (hstep : ∀ k i, i < n → L (k + 1) i = if p i = true then L k (i + 1) else some ((false, a), b)) (hend : ∀ k, L (k + 1) n = some ((true, a), b)) (i : Nat) (hi : i ≤ n) :
    ∃ v, Ev (fun k => L k i) ((v, a), b) ∧ (v = true ↔ ∀ j, i ≤ j → j < n → p j = true) := by
  have key : ∀ m i, i + m = n → ∃ v, Ev (fun k => L k i) ((v, a), b) ∧ (v = true ↔ ∀ j, i ≤ j → j < n → p j = true) := by
    intro m
    induction m with
    | zero => intro i hi; obtain rfl : i = n := by omega
              exact ⟨true, (Ev.const _).succ hend, by simp; intro j _ _; omega⟩
    | succ m ih =>
      intro i hi
      obtain ⟨v, hv, hv'⟩ := ih (i + 1) (by omega)
      cases hp : p i with
      | false => exact ⟨false, (Ev.const _).succ fun k => by rw [hstep k i (by omega), hp]; rfl, by simp; exact ⟨i, Nat.le_refl _, by omega, hp⟩⟩
      | true =>
        refine ⟨v, hv.succ fun k => by rw [hstep k i (by omega), hp]; rfl, hv'.trans ⟨fun h j hj hn => ?_, fun h j hj hn => h j (by omega) hn⟩⟩
        by_cases hij : j = i
        · rw [hij]; exact hp
        · exact h j (by omega) hn
  exact key (n - i) i (by omega)
theorem all_eq {α : Type} {xs ys : List α} (hl : xs.length = ys.length) (q : α → α → Bool) (hq : ∀ x y, q x y = true ↔ x = y) (d : α) : (∀ j, 0 ≤ j → j < xs.length → q (xs.getD j d) (ys.getD j d) = true) ↔ xs = ys := by
  constructor
  · intro h
    refine List.ext_getElem hl fun i h1 h2 => ?_
    have := (hq _ _).1 (h i (Nat.zero_le _) h1)
    rwa [getD_eq h1, getD_eq h2] at this
  · rintro rfl j _ _
    exact (hq _ _).2 rfl
theorem Goes.fill {α R : Type} {L : Nat → Nat → List α → Option R} (xs : List α) (d : α) (hstep : ∀ k i ys, i < xs.length → ys.length = xs.length → L (k + 1) i ys = L k (i + 1) (ys.set i (xs.getD i d))) (ys : List α) (hy : ys.length = xs.length) :
    Goes (fun k => L k 0 ys) (fun k => L k xs.length xs) := by
  obtain ⟨s, ⟨hs1, hs2⟩, hs3⟩ := Goes.loop L xs.length (fun i s => s.length = xs.length ∧ s.take i = xs.take i) (fun i s hi ⟨h1, h2⟩ => ⟨s.set i (xs.getD i d), ⟨by simp [h1], by
    rw [List.take_add_one, List.take_add_one, List.take_set_of_le (Nat.le_refl _), h2]
    simp [hi, h1, getD_eq hi]⟩, Goes.succ fun k => hstep k i s hi h1⟩) 0 ys (Nat.zero_le _) ⟨hy, by simp⟩
  have : s = xs := by
    rw [List.take_of_length_le (by omega), List.take_of_length_le (Nat.le_refl _)] at hs2
    exact hs2
  rw [this] at hs3
  exact hs3
theorem ite_nb {α : Type} (b : Bool) (x y : α) : (if (!b) = true then x else y) = if b = true then y else x := by cases b <;> rfl
theorem Ev.allP {A B : Type} {L : Nat → Nat → Option ((Bool × A) × B)} {a : A} {b : B} {n : Nat} (P : Nat → Prop) (e : Bool) (hstep : ∀ i, i < n → (P i ∧ ∀ k, L (k + 1) i = L k (i + 1)) ∨ (¬ P i ∧ ∀ k, L (k + 1) i = some ((false, a), b))) (hend : Ev (fun k => L k n) ((e, a), b)) (i : Nat) (hi : i ≤ n) :
    ∃ v, Ev (fun k => L k i) ((v, a), b) ∧ (v = true ↔ e = true ∧ ∀ j, i ≤ j → j < n → P j) := by
  have key : ∀ m i, i + m = n → ∃ v, Ev (fun k => L k i) ((v, a), b) ∧ (v = true ↔ e = true ∧ ∀ j, i ≤ j → j < n → P j) := by
    intro m
    induction m with
    | zero => intro i hi; obtain rfl : i = n := by omega
              exact ⟨e, hend, ⟨fun h => ⟨h, fun j h1 h2 => by omega⟩, fun h => h.1⟩⟩
    | succ m ih =>
      intro i hi
      obtain ⟨v, hv, hv'⟩ := ih (i + 1) (by omega)
      rcases hstep i (by omega) with ⟨hp, h⟩ | ⟨hp, h⟩
      · refine ⟨v, hv.succ h, hv'.trans ⟨fun ⟨h1, h2⟩ => ⟨h1, fun j hj hn => ?_⟩, fun ⟨h1, h2⟩ => ⟨h1, fun j hj hn => h2 j (by omega) hn⟩⟩⟩
        by_cases hij : j = i
        · rw [hij]; exact hp
        · exact h2 j (by omega) hn
      · exact ⟨false, (Ev.const _).succ h, ⟨fun h => (by cases h), fun ⟨_, h2⟩ => absurd (h2 i (Nat.le_refl _) (by omega)) hp⟩⟩
  exact key (n - i) i (by omega)
theorem wrapP {i : Nat} (h : 0 < i) (h2 : i < 4611686018427387904) : IntKind.i64.wrap ((i : Int) - 1) = ((i - 1 : Nat) : Int) := by
  rw [wrapI (by omega) (by omega)]; omega
theorem Goes.foldl {α σ R : Type} {L : Nat → Nat → σ → Option R} (xs : List α) (d : α) (f : σ → α → σ) (hstep : ∀ k i s, i < xs.length → L (k + 1) i s = L k (i + 1) (f s (xs.getD i d))) (s : σ) : Goes (fun k => L k 0 s) (fun k => L k xs.length (xs.foldl f s)) := by
  have key : ∀ m i s, i + m = xs.length → Goes (fun k => L k i s) (fun k => L k xs.length ((xs.drop i).foldl f s)) := by
    intro m
    induction m with
    | zero => intro i s hi; obtain rfl : i = xs.length := by omega
              rw [List.drop_length]; exact Goes.refl _
    | succ m ih =>
      intro i s hi
      have h : i < xs.length := by omega
      refine (Goes.succ fun k => hstep k i s h).trans ?_
      rw [List.drop_eq_getElem_cons h, List.foldl_cons, ← getD_eq (d := d) h]
      exact ih (i + 1) _ (by omega)
  have := key xs.length 0 s (by omega)
  simpa using this
theorem getD_mem {α : Type} {xs : List α} {i : Nat} (d : α) (h : i < xs.length) : xs.getD i d ∈ xs := by rw [getD_eq h]; exact List.getElem_mem h
theorem laws_szEdgeS.val (xs : List EdgeV) (left : Int) (h0 : 0 ≤ left) (h1 : left ≤ 1048576) (hx : xs.length ≤ maxLen) :
    laws_szEdgeS.F (xs, left, ()) = some ((if left < xs.length then -1 else left - xs.length, ()), ()) := by
  have : xs.length ≤ 9223372036854775807 := hx
  rw [laws_szEdgeS.eq, laws_szEdgeS.T, wrapI (by omega) (by omega)]
  by_cases h : left < xs.length
  · rw [if_pos (by simp; omega), if_pos h]
  · rw [if_neg (by simp; omega), if_neg h]
theorem laws_szGraph.val (n : Int) (xs : List EdgeV) (left : Int) (h0 : 0 ≤ left) (h1 : left ≤ 1048576) (hx : xs.length ≤ maxLen) :
    laws_szGraph.F ((n, xs), left, ()) = some ((if left < xs.length then -1 else left - xs.length, ()), ()) := by
  rw [laws_szGraph.eq, laws_szGraph.T, laws_szEdgeS.val xs left h0 h1 hx]
  simp only [Option.bind_some]
  by_cases h : left < xs.length
  · rw [if_pos h]; rfl
  · rw [if_neg h, if_neg (by simp; omega)]
theorem laws_toEdge.val (x : EdgeV) : laws_toEdge.F (x, ()) = some ((x, ()), ()) := by
  obtain ⟨a, b, c⟩ := x
  exact laws_toEdge.eq a b c
theorem laws_toEdgeS.val (xs : List EdgeV) (h : xs.length ≤ 1099511627776) : laws_toEdgeS.F (xs, ()) = some ((xs, ()), ()) := by
  refine laws_toEdgeS.of xs ?_
  have := Goes.fill (L := fun k i ys => laws_toEdgeS.l3 k xs (i : Int) ys) xs (0, 0, 0) (fun k i ys hi hy => by
    rw [laws_toEdgeS.l3_eq, if_pos (ltI.2 hi), if_pos (idxI.2 hi), laws_toEdge.val, Option.bind_some, if_pos (by omega), wrapN (by omega)]
    simp only [Int.toNat_natCast]) (List.replicate xs.length (0, 0, 0)) (by simp)
  refine Ev.of_eq (this _ ((Ev.const _).succ fun k => ?_)) fun k => ?_
  · rw [laws_toEdgeS.l3_eq, if_neg (by simp)]
  · rw [laws_toEdgeS.T, if_pos (by simp only [bigN]; omega)]; rfl
theorem laws_toGraph.val (n : Int) (xs : List EdgeV) (h : xs.length ≤ 1099511627776) : laws_toGraph.F ((n, xs), ()) = some (((n, xs), ()), ()) := by
  rw [laws_toGraph.eq, laws_toGraph.T, laws_toEdgeS.val xs h]; rfl
theorem laws_eqEdge.val (x y : EdgeV) : laws_eqEdge.F (x, y, ()) = some ((eqT TEdge x y, ()), ()) := by
  obtain ⟨a, b, c⟩ := x
  obtain ⟨a', b', c'⟩ := y
  rw [laws_eqEdge.eq, laws_eqEdge.T]
  by_cases h1 : a = a' <;> by_cases h2 : b = b' <;> by_cases h3 : c = c' <;> simp [eqT, h1, h2, h3]
theorem laws_eqEdgeS.val (xs ys : List EdgeV) (hn : xs.length < 4611686018427387904) : ∃ b, laws_eqEdgeS.F (xs, ys, ()) = some ((b, ()), ()) ∧ (b = true ↔ xs = ys) := by
  by_cases hl : xs.length = ys.length
  · obtain ⟨b, hb, hb'⟩ := Ev.all (L := fun k i => laws_eqEdgeS.l4 k xs ys (i : Int)) (a := ()) (b := ()) (n := xs.length) (fun i => eqT TEdge (xs.getD i (0, 0, 0)) (ys.getD i (0, 0, 0))) (fun k i hi => by
      rw [laws_eqEdgeS.l4_eq, if_pos (ltI.2 hi), if_pos (idxI.2 hi), if_pos (by omega), laws_eqEdge.val, Option.bind_some, wrapN (by omega)]
      simp only [Int.toNat_natCast]
      exact ite_nb _ _ _) (fun k => by rw [laws_eqEdgeS.l4_eq, if_neg (by simp)]) 0 (Nat.zero_le _)
    refine ⟨b, laws_eqEdgeS.of _ _ (hb.of_eq fun k => ?_), by rw [hb', all_eq hl _ eqT_edge]⟩
    rw [laws_eqEdgeS.T, if_neg (by simp [hl])]
    rfl
  · refine ⟨false, laws_eqEdgeS.of _ _ ((Ev.const _).of_eq fun k => ?_), by simp; intro e; exact hl (by rw [e])⟩
    rw [laws_eqEdgeS.T, if_pos (by simp; omega)]
theorem laws_eqGraph.val (n m : Int) (xs ys : List EdgeV) (hn : xs.length < 4611686018427387904) : ∃ b, laws_eqGraph.F ((n, xs), (m, ys), ()) = some ((b, ()), ()) ∧ (b = true ↔ n = m ∧ xs = ys) := by
  rw [laws_eqGraph.eq, laws_eqGraph.T]
  by_cases h : n = m
  · obtain ⟨b, hb, hb'⟩ := laws_eqEdgeS.val xs ys hn
    exact ⟨b, by rw [if_neg (by simp [h]), hb]; cases b <;> rfl, by simp [h, hb']⟩
  · exact ⟨false, by rw [if_pos (by simp [h])], by simp [h]⟩
theorem spec_l00In.val (n lo hi : Int) : spec_l00In.F (n, lo, hi, ()) = some ((decide (lo ≤ n ∧ n ≤ hi), ()), ()) := by
  rw [spec_l00In.eq, spec_l00In.T]
  by_cases h : lo ≤ n
  · rw [if_pos (by simp [h])]; simp [h]
  · rw [if_neg (by simp [h])]; simp [h]
theorem impl_within.val (n lo hi : Int) : impl_within.F (n, lo, hi, ()) = some ((decide (lo ≤ n ∧ n ≤ hi), ()), ()) := by
  rw [impl_within.eq, impl_within.T]
  by_cases h : lo ≤ n
  · rw [if_pos (by simp [h])]; simp [h]
  · rw [if_neg (by simp [h])]; simp [h]
def cmpI (x y : Int) : Int := if x < y then -1 else if x > y then 1 else 0
theorem cmp_Compare_int64.val (x y : Int) : cmp_Compare_int64.F (x, y, ()) = some ((cmpI x y, ()), ()) := by
  rw [cmp_Compare_int64.eq, cmp_Compare_int64.T, cmp_isNaN_int64.eq, cmp_isNaN_int64.T, cmp_isNaN_int64.eq, cmp_isNaN_int64.T]
  simp only [Option.bind_some, bne_self_eq_false, Bool.false_eq_true, if_false, decide_eq_true_eq, cmpI]
  repeat' split
  all_goals rfl
theorem cmp_Or_int.val2 (x y : Int) : cmp_Or_int.F ([x, y], ()) = some ((if x ≠ 0 then x else y, ()), ()) := by
  refine cmp_Or_int.of _ ⟨3, fun k hk => ?_⟩
  obtain ⟨k, rfl⟩ : ∃ j, k = j + 1 + 1 + 1 := ⟨k - 3, by omega⟩
  show cmp_Or_int.T (k + 1 + 1 + 1) [x, y] = _
  rw [cmp_Or_int.T, cmp_Or_int.l3_eq]
  by_cases hx : x = 0
  · subst hx
    simp only [List.length_cons, List.length_nil]
    rw [if_pos (by simp), if_pos (by simp), if_neg (by simp), cmp_Or_int.l3_eq]
    simp only [List.length_cons, List.length_nil]
    rw [wrapI (by omega) (by omega)]
    rw [if_pos (by simp), if_pos (by simp)]
    by_cases hy : y = 0
    · subst hy
      rw [if_neg (by simp), cmp_Or_int.l3_eq, wrapI (by omega) (by omega), if_neg (by simp)]; simp
    · rw [if_pos (by simp [hy])]; simp
  · simp only [List.length_cons, List.length_nil]
    rw [if_pos (by simp), if_pos (by simp), if_pos (by simp [hx])]
    simp [hx]
def EdgeOk (n : Int) (xs : List EdgeV) (j : Nat) : Prop :=
  0 ≤ (xs.getD j (0, 0, 0)).1 ∧ (xs.getD j (0, 0, 0)).1 < (xs.getD j (0, 0, 0)).2.1 ∧ (xs.getD j (0, 0, 0)).2.1 < n ∧ 1 ≤ (xs.getD j (0, 0, 0)).2.2 ∧ (xs.getD j (0, 0, 0)).2.2 ≤ 9 ∧
    (0 < j → (xs.getD (j - 1) (0, 0, 0)).1 < (xs.getD j (0, 0, 0)).1 ∨ (xs.getD (j - 1) (0, 0, 0)).1 = (xs.getD j (0, 0, 0)).1 ∧ (xs.getD (j - 1) (0, 0, 0)).2.1 < (xs.getD j (0, 0, 0)).2.1)
def GraphOk (n : Int) (xs : List EdgeV) : Prop := 1 ≤ n ∧ n ≤ 12 ∧ xs.length ≤ 24 ∧ ∀ j, j < xs.length → EdgeOk n xs j
theorem impl_compareEdges.val (x y : EdgeV) : ∃ r, impl_compareEdges.F (x, y, ()) = some ((r, ()), ()) ∧ (r < 0 ↔ x.1 < y.1 ∨ x.1 = y.1 ∧ x.2.1 < y.2.1) := by
  obtain ⟨a, b, c⟩ := x
  obtain ⟨a', b', c'⟩ := y
  refine ⟨if cmpI a a' ≠ 0 then cmpI a a' else cmpI b b', ?_, ?_⟩
  · rw [impl_compareEdges.eq, impl_compareEdges.T, cmp_Compare_int64.val, cmp_Compare_int64.val]
    simp only [Option.bind_some]
    rw [cmp_Or_int.val2]; rfl
  · show _ ↔ a < a' ∨ a = a' ∧ b < b'
    simp only [cmpI]
    by_cases h1 : a < a'
    · simp [h1]
    · by_cases h2 : a > a'
      · have : ¬ a = a' := by omega
        simp [h1, h2, this]
      · have : a = a' := by omega
        subst this
        by_cases h3 : b < b'
        · simp [h3]
        · by_cases h4 : b > b' <;> simp [h3, h4]
theorem spec_l16Ok.val (n : Int) (xs : List EdgeV) (hn : xs.length < 4611686018427387904) : ∃ v, spec_l16Ok.F ((n, xs), ()) = some ((v, ()), ()) ∧ (v = true ↔ GraphOk n xs) := by
  by_cases h : 1 ≤ n ∧ n ≤ 12
  · obtain ⟨v, hv, hv'⟩ := Ev.allP (L := fun k i => spec_l16Ok.l4 k n xs (i : Int)) (a := ()) (b := ()) (n := xs.length) (EdgeOk n xs) (decide ((xs.length : Int) ≤ 24)) (fun i hi => by
      obtain ⟨x, hx⟩ : ∃ x, x = xs.getD i (0, 0, 0) := ⟨_, rfl⟩
      have E := fun k => spec_l16Ok.l4_eq k n xs (i : Int)
      simp only [if_pos (ltI.2 hi), if_pos (idxI.2 hi), spec_l00In.val, Option.bind_some, wrapN (show i < 4611686018427387904 by omega), Int.toNat_natCast, ← hx, wrapI (show -9223372036854775808 ≤ n - 1 by omega) (show n - 1 ≤ 9223372036854775807 by omega)] at E
      unfold EdgeOk
      rw [← hx]
      clear hx
      obtain ⟨a, b, c⟩ := x
      simp only []
      by_cases h1 : 0 ≤ b ∧ b ≤ n - 1
      · simp only [if_neg (show ¬ (!decide (0 ≤ b ∧ b ≤ n - 1)) = true by simp [h1]), wrapI (show -9223372036854775808 ≤ b - 1 by omega) (show b - 1 ≤ 9223372036854775807 by omega)] at E
        by_cases h2 : 0 ≤ a ∧ a ≤ b - 1
        · simp only [if_neg (show ¬ (!decide (0 ≤ a ∧ a ≤ b - 1)) = true by simp [h2])] at E
          by_cases h3 : 1 ≤ c ∧ c ≤ 9
          · simp only [if_neg (show ¬ (!decide (1 ≤ c ∧ c ≤ 9)) = true by simp [h3])] at E
            by_cases h4 : 0 < i
            · simp only [if_pos (show decide ((i : Int) > 0) = true by simp; omega), wrapP h4 (show i < 4611686018427387904 by omega), if_pos (show 0 ≤ ((i - 1 : Nat) : Int) ∧ ((i - 1 : Nat) : Int) < (xs.length : Int) by omega), Int.toNat_natCast] at E
              generalize xs.getD (i - 1) (0, 0, 0) = y at *
              obtain ⟨a', b', c'⟩ := y
              simp only []
              by_cases h5 : a' > a
              · exact .inr ⟨by omega, fun k => by rw [E, if_pos (by simp [h5])]⟩
              · simp only [if_neg (show ¬ decide (a' > a) = true by simp; omega)] at E
                by_cases h6 : a' = a
                · subst h6
                  by_cases h7 : b' ≥ b
                  · exact .inr ⟨by omega, fun k => by rw [E, if_pos (by simp), if_pos (by simp [h7])]⟩
                  · exact .inl ⟨by omega, fun k => by rw [E, if_pos (by simp), if_neg (by simp; omega)]⟩
                · exact .inl ⟨by omega, fun k => by rw [E, if_neg (by simp [h6])]⟩
            · exact .inl ⟨by omega, fun k => by rw [E, if_neg (by simp; omega)]⟩
          · exact .inr ⟨by omega, fun k => by rw [E, if_pos (by simp; omega)]⟩
        · exact .inr ⟨by omega, fun k => by rw [E, if_pos (by simp; omega)]⟩
      · exact .inr ⟨by omega, fun k => by rw [E, if_pos (by simp; omega)]⟩) ((Ev.const _).succ fun k => by rw [spec_l16Ok.l4_eq, if_neg (by simp)]) 0 (Nat.zero_le _)
    refine ⟨v, spec_l16Ok.of _ _ (hv.of_eq fun k => ?_), hv'.trans ?_⟩
    · rw [spec_l16Ok.T, spec_l00In.val]
      simp only [Option.bind_some]
      rw [if_neg (by simp [h])]; rfl
    · unfold GraphOk
      simp only [decide_eq_true_eq]
      exact ⟨fun ⟨h1, h2⟩ => ⟨h.1, h.2, by omega, fun j hj => h2 j (Nat.zero_le _) hj⟩, fun ⟨_, _, h1, h2⟩ => ⟨by omega, fun j _ hj => h2 j hj⟩⟩
  · refine ⟨false, spec_l16Ok.of _ _ ((Ev.const _).of_eq fun k => ?_), by unfold GraphOk; simp; intro h1 h2; exact absurd ⟨h1, h2⟩ h⟩
    rw [spec_l16Ok.T, spec_l00In.val]
    simp only [Option.bind_some]
    rw [if_pos (by simp; omega)]
theorem impl_ValidGraph.val (n : Int) (xs : List EdgeV) (hn : xs.length < 4611686018427387904) : ∃ v, impl_ValidGraph.F ((n, xs), ()) = some ((v, ()), ()) ∧ (v = true ↔ GraphOk n xs) := by
  obtain ⟨v, hv, hv'⟩ := Ev.allP (L := fun k i => impl_ValidGraph.l2 k xs xs.length (i : Int) n xs) (a := ()) (b := ()) (n := xs.length) (EdgeOk n xs) (decide (1 ≤ n ∧ n ≤ 12) && decide ((xs.length : Int) ≤ 24)) (fun i hi => by
      obtain ⟨x, hx⟩ : ∃ x, x = xs.getD i (0, 0, 0) := ⟨_, rfl⟩
      have E := fun k => impl_ValidGraph.l2_eq k xs xs.length (i : Int) n xs
      simp only [if_pos (ltI.2 hi), if_pos (idxI.2 hi), impl_within.val, Option.bind_some, wrapN (show i < 4611686018427387904 by omega), Int.toNat_natCast, ← hx] at E
      unfold EdgeOk
      rw [← hx]
      clear hx
      obtain ⟨a, b, c⟩ := x
      simp only []
      by_cases h1 : a < 0
      · exact .inr ⟨by omega, fun k => by rw [E, if_pos (by simp [h1])]⟩
      simp only [if_neg (show ¬ decide (a < 0) = true by simp; omega)] at E
      by_cases h2 : a ≥ b
      · exact .inr ⟨by omega, fun k => by rw [E, if_pos (by simp [h2])]⟩
      simp only [if_neg (show ¬ decide (a ≥ b) = true by simp; omega)] at E
      by_cases h3 : b ≥ n
      · exact .inr ⟨by omega, fun k => by rw [E, if_pos (by simp [h3])]⟩
      simp only [if_neg (show ¬ decide (b ≥ n) = true by simp; omega)] at E
      by_cases h4 : 1 ≤ c ∧ c ≤ 9
      · simp only [if_neg (show ¬ (!decide (1 ≤ c ∧ c ≤ 9)) = true by simp [h4])] at E
        by_cases h5 : 0 < i
        · obtain ⟨r, hr, hr'⟩ := impl_compareEdges.val (xs.getD (i - 1) (0, 0, 0)) (a, b, c)
          simp only [if_pos (show decide ((i : Int) > 0) = true by simp; omega), wrapP h5 (show i < 4611686018427387904 by omega), if_pos (show 0 ≤ ((i - 1 : Nat) : Int) ∧ ((i - 1 : Nat) : Int) < (xs.length : Int) by omega), Int.toNat_natCast, hr, Option.bind_some] at E
          by_cases h6 : r < 0
          · exact .inl ⟨⟨by omega, by omega, by omega, by omega, by omega, fun _ => hr'.1 h6⟩, fun k => by rw [E, if_neg (by simp; omega)]⟩
          · exact .inr ⟨fun ⟨_, _, _, _, _, h⟩ => h6 (hr'.2 (h h5)), fun k => by rw [E, if_pos (by simp; omega)]⟩
        · exact .inl ⟨by omega, fun k => by rw [E, if_neg (by simp; omega)]⟩
      · exact .inr ⟨by omega, fun k => by rw [E, if_pos (by simp; omega)]⟩) ((Ev.const _).succ fun k => by
        rw [impl_ValidGraph.l2_eq, if_neg (by simp), impl_within.val]
        simp only [Option.bind_some]
        by_cases h : 1 ≤ n ∧ n ≤ 12
        · rw [if_pos (by simp [h])]; simp [h]
        · rw [if_neg (by simp; omega)]; simp [h]) 0 (Nat.zero_le _)
  refine ⟨v, impl_ValidGraph.of _ _ (hv.of_eq fun k => rfl), hv'.trans ?_⟩
  unfold GraphOk
  simp only [Bool.and_eq_true, decide_eq_true_eq]
  exact ⟨fun ⟨⟨h0, h1⟩, h2⟩ => ⟨h0.1, h0.2, by omega, fun j hj => h2 j (Nat.zero_le _) hj⟩, fun ⟨h0, h3, h1, h2⟩ => ⟨⟨⟨h0, h3⟩, by omega⟩, fun j _ hj => h2 j hj⟩⟩
def mget (M : List (List Int)) (i j : Nat) : Int := (M.getD i []).getD j 0
def mset (M : List (List Int)) (i j : Nat) (v : Int) : List (List Int) := M.set i ((M.getD i []).set j v)
theorem mget_def (M : List (List Int)) (i j : Nat) : mget M i j = (M.getD i []).getD j 0 := rfl
theorem mset_def (M : List (List Int)) (i j : Nat) (v : Int) : mset M i j v = M.set i ((M.getD i []).set j v) := rfl
def Sq (n : Nat) (M : List (List Int)) : Prop := M.length = n ∧ ∀ i, i < n → (M.getD i []).length = n
theorem sq_mset {n : Nat} {M : List (List Int)} (h : Sq n M) (i j : Nat) (v : Int) : Sq n (mset M i j v) := by
  refine ⟨by simp [mset, h.1], fun p hp => ?_⟩
  have := h.2
  simp only [mset, List.getD_eq_getElem?_getD, List.getElem?_set] at this ⊢
  by_cases hip : i = p
  · subst hip
    simp only [h.1, hp, if_true, Option.getD_some, List.length_set]
    exact this i hp
  · simpa [hip] using this p hp
theorem mget_mset {n : Nat} {M : List (List Int)} (h : Sq n M) {i j : Nat} (hi : i < n) (hj : j < n) (v : Int) (p q : Nat) : mget (mset M i j v) p q = if p = i ∧ q = j then v else mget M p q := by
  have h2 := h.2 i hi
  simp only [mget, mset, List.getD_eq_getElem?_getD, List.getElem?_set] at h2 ⊢
  by_cases hip : i = p
  · subst hip
    simp only [h.1, hi, if_true, Option.getD_some, List.getElem?_set, h2, true_and]
    by_cases hjq : j = q
    · subst hjq; simp [hj]
    · simp [hjq, Ne.symm hjq]
  · simp [hip, Ne.symm hip]
def lapF (M : List (List Int)) (e : EdgeV) : List (List Int) :=
  let a := e.1.toNat
  let b := e.2.1.toNat
  let M1 := mset M a a (IntKind.i64.wrap (mget M a a + e.2.2))
  let M2 := mset M1 b b (IntKind.i64.wrap (mget M1 b b + e.2.2))
  let M3 := mset M2 a b (IntKind.i64.wrap (0 - e.2.2))
  mset M3 b a (IntKind.i64.wrap (0 - e.2.2))
def zeroM (n : Nat) : List (List Int) := List.replicate n (List.replicate n 0)
def lap (n : Nat) (xs : List EdgeV) : List (List Int) := xs.foldl lapF (zeroM n)
theorem sq_zero (n : Nat) : Sq n (zeroM n) := by
  refine ⟨by simp [zeroM], fun i hi => ?_⟩
  simp [zeroM, List.getD_eq_getElem?_getD, hi]
theorem mget_zero (n p q : Nat) : mget (zeroM n) p q = 0 := by
  simp only [mget, zeroM, List.getD_eq_getElem?_getD, List.getElem?_replicate]
  split
  · simp only [Option.getD_some, List.getElem?_replicate]; split <;> rfl
  · simp
theorem sq_lapF {n : Nat} {M : List (List Int)} (h : Sq n M) (e : EdgeV) : Sq n (lapF M e) := sq_mset (sq_mset (sq_mset (sq_mset h _ _ _) _ _ _) _ _ _) _ _ _
theorem sq_lap (n : Nat) (xs : List EdgeV) : Sq n (lap n xs) := by
  unfold lap
  suffices ∀ M, Sq n M → Sq n (xs.foldl lapF M) from this _ (sq_zero n)
  induction xs with
  | nil => intro M h; exact h
  | cons e xs ih => intro M h; exact ih _ (sq_lapF h e)
theorem edges_lt {n : Int} {xs : List EdgeV} (h : GraphOk n xs) : ∀ i, i < xs.length → ∀ j, j < i → (xs.getD j (0, 0, 0)).1 < (xs.getD i (0, 0, 0)).1 ∨ (xs.getD j (0, 0, 0)).1 = (xs.getD i (0, 0, 0)).1 ∧ (xs.getD j (0, 0, 0)).2.1 < (xs.getD i (0, 0, 0)).2.1 := by
  intro i
  induction i with
  | zero => intro _ j hj; omega
  | succ i ih =>
    intro hi j hj
    have h1 := (h.2.2.2 (i + 1) hi).2.2.2.2.2 (by omega)
    simp only [Nat.add_sub_cancel] at h1
    by_cases hji : j = i
    · rw [hji]; exact h1
    · have h2 := ih (by omega) j (by omega)
      omega
def LapInv (n : Nat) (xs : List EdgeV) (i : Nat) (M : List (List Int)) : Prop :=
  Sq n M ∧ ∀ p q : Nat, p ≠ q → p < n → q < n → (∀ j, j < i → ¬ ((xs.getD j (0, 0, 0)).1 = p ∧ (xs.getD j (0, 0, 0)).2.1 = q) ∧ ¬ ((xs.getD j (0, 0, 0)).1 = q ∧ (xs.getD j (0, 0, 0)).2.1 = p)) → mget M p q = 0
theorem lapInv_step {n : Nat} {xs : List EdgeV} (h : GraphOk n xs) {i : Nat} (hi : i < xs.length) {M : List (List Int)} (hM : LapInv n xs i M) : LapInv n xs (i + 1) (lapF M (xs.getD i (0, 0, 0))) ∧
    mget M (xs.getD i (0, 0, 0)).1.toNat (xs.getD i (0, 0, 0)).2.1.toNat = 0 ∧ mget M (xs.getD i (0, 0, 0)).2.1.toNat (xs.getD i (0, 0, 0)).1.toNat = 0 := by
  obtain ⟨h1, h2, h3, -⟩ := h.2.2.2 i hi
  have hlt := edges_lt h i hi
  obtain ⟨e, he⟩ : ∃ e, xs.getD i (0, 0, 0) = e := ⟨_, rfl⟩
  simp only [he] at h1 h2 h3 hlt ⊢
  obtain ⟨a, b, c⟩ := e
  simp only [] at h1 h2 h3 hlt ⊢
  obtain ⟨a, rfl⟩ := Int.eq_ofNat_of_zero_le h1
  obtain ⟨b, rfl⟩ := Int.eq_ofNat_of_zero_le (show 0 ≤ b by omega)
  simp only [Int.toNat_natCast]
  have ha : a < n := by omega
  have hb : b < n := by omega
  have hab : a ≠ b := by omega
  refine ⟨⟨sq_lapF hM.1 _, fun p q hpq hp hq hno => ?_⟩, hM.2 a b hab ha hb fun j hj => ?_, hM.2 b a (Ne.symm hab) hb ha fun j hj => ?_⟩
  · have hi' := hno i (by omega)
    rw [he] at hi'
    simp only [Int.ofNat_inj] at hi'
    have s1 := sq_mset hM.1 a a (IntKind.i64.wrap (mget M a a + c))
    have s2 := sq_mset s1 b b (IntKind.i64.wrap (mget (mset M a a (IntKind.i64.wrap (mget M a a + c))) b b + c))
    have s3 := sq_mset s2 a b (IntKind.i64.wrap (0 - c))
    simp only [lapF, Int.toNat_natCast]
    rw [mget_mset s3 hb ha, if_neg (fun hh => hi'.2 ⟨hh.2.symm, hh.1.symm⟩), mget_mset s2 ha hb, if_neg (fun hh => hi'.1 ⟨hh.1.symm, hh.2.symm⟩), mget_mset s1 hb hb, if_neg (by omega), mget_mset hM.1 ha ha, if_neg (by omega)]
    exact hM.2 p q hpq hp hq fun j hj => hno j (by omega)
  · have := hlt j hj
    omega
  · have := hlt j hj
    omega
theorem lapInv_zero (n : Nat) (xs : List EdgeV) : LapInv n xs 0 (zeroM n) := ⟨sq_zero n, fun p q _ _ _ _ => mget_zero n p q⟩
theorem lap_impl (n : Nat) (xs : List EdgeV) (h : GraphOk n xs) : impl_laplacian.F (((n : Int), xs), ()) = some ((lap n xs, ()), ()) := by
  have hn : n ≤ 12 := by have := h.2.1; omega
  have hx : xs.length ≤ 24 := h.2.2.1
  have edge : ∀ i, i < xs.length → ∀ M, LapInv n xs i M → (0 ≤ (xs.getD i (0, 0, 0)).1 ∧ (xs.getD i (0, 0, 0)).1 < (n : Int)) ∧ (0 ≤ (xs.getD i (0, 0, 0)).2.1 ∧ (xs.getD i (0, 0, 0)).2.1 < (n : Int)) := fun i hi M hM => by
    obtain ⟨h1, h2, h3, -⟩ := h.2.2.2 i hi
    omega
  have row : ∀ {M : List (List Int)} {a : Int}, Sq n M → 0 ≤ a → a < (n : Int) → (M.getD a.toNat []).length = n := fun hM h1 h2 => hM.2 _ (by omega)
  refine impl_laplacian.of _ _ ?_
  have hg := Goes.fill (L := fun k i (s : List (List Int)) => impl_laplacian.l3 k n (i : Int) n xs s) (zeroM n) ([] : List Int) (fun k i s hi hs => by
    have hi' : i < n := by simpa [zeroM] using hi
    have hs' : s.length = n := by simpa [zeroM] using hs
    rw [impl_laplacian.l3_eq, if_pos (ltI.2 hi'), if_pos (by simp only [bigN]; omega), if_pos (by omega), wrapN (by omega)]
    simp only [Int.toNat_natCast]
    congr 1
    simp [zeroM, List.getD_eq_getElem?_getD, hi']) (List.replicate n []) (by simp [zeroM])
  obtain ⟨M2, ⟨hM2, -⟩, hg2⟩ := Goes.loop (fun k i (s : List (List Int)) => impl_laplacian.l8 k xs xs.length (i : Int) s) xs.length (fun i s => s = (xs.take i).foldl lapF (zeroM n) ∧ LapInv n xs i s) (fun i s hi ⟨h2, h3⟩ => by
    obtain ⟨h4, -, -⟩ := lapInv_step h hi h3
    obtain ⟨⟨a0, a1⟩, b0, b1⟩ := edge i hi s h3
    refine ⟨lapF s (xs.getD i (0, 0, 0)), ⟨by rw [List.take_add_one, List.getElem?_eq_getElem hi, Option.toList_some, List.foldl_append, ← h2, getD_eq hi]; rfl, h4⟩, Goes.succ fun k => ?_⟩
    have E := impl_laplacian.l8_eq k xs xs.length (i : Int) s
    obtain ⟨e, he⟩ : ∃ e, xs.getD i (0, 0, 0) = e := ⟨_, rfl⟩
    simp only [Int.toNat_natCast, he] at E a0 a1 b0 b1 ⊢
    obtain ⟨a, b, c⟩ := e
    simp only [] at E a0 a1 b0 b1 ⊢
    obtain ⟨a, rfl⟩ := Int.eq_ofNat_of_zero_le a0
    obtain ⟨b, rfl⟩ := Int.eq_ofNat_of_zero_le b0
    simp only [Int.toNat_natCast] at E
    have ha : a < n := by omega
    have hb : b < n := by omega
    have s1 := sq_mset h3.1 a a (IntKind.i64.wrap (mget s a a + c))
    have s2 := sq_mset s1 b b (IntKind.i64.wrap (mget (mset s a a (IntKind.i64.wrap (mget s a a + c))) b b + c))
    have s3 := sq_mset s2 a b (IntKind.i64.wrap (0 - c))
    simp only [← mget_def, ← mset_def, h3.1.1, h3.1.2 a ha, s1.1, s1.2 b hb, s2.1, s2.2 a ha, s3.1, s3.2 b hb, if_pos (show 0 ≤ (a : Int) ∧ (a : Int) < (n : Int) by omega), if_pos (show 0 ≤ (b : Int) ∧ (b : Int) < (n : Int) by omega), if_pos (ltI.2 hi), if_pos (idxI.2 hi), wrapN (show i < 4611686018427387904 by omega)] at E
    rw [E]
    simp only [lapF, Int.toNat_natCast]) 0 (zeroM n) (Nat.zero_le _) ⟨rfl, lapInv_zero n xs⟩
  rw [List.take_of_length_le (Nat.le_refl _)] at hM2
  subst hM2
  refine Ev.of_eq (hg _ ((hg2 _ ((Ev.const _).succ fun k => ?_)).succ fun k => ?_)) fun k => ?_
  · rw [impl_laplacian.l8_eq, if_neg (by simp)]; rfl
  · rw [impl_laplacian.l3_eq, if_neg (by simp [zeroM])]; rfl
  · rw [impl_laplacian.T, if_pos (by simp only [bigN]; omega)]
    simp only [Int.toNat_natCast, List.length_replicate]
    rfl
theorem laws_toInt64S.val (xs : List Int) (h : xs.length ≤ 1099511627776) : laws_toInt64S.F (xs, ()) = some ((xs, ()), ()) := by
  refine laws_toInt64S.of xs ?_
  have := Goes.fill (L := fun k i ys => laws_toInt64S.l3 k xs (i : Int) ys) xs 0 (fun k i ys hi hy => by
    rw [laws_toInt64S.l3_eq, if_pos (ltI.2 hi), if_pos (idxI.2 hi), if_pos (by omega), wrapN (by omega)]
    simp only [Int.toNat_natCast]) (List.replicate xs.length 0) (by simp)
  refine Ev.of_eq (this _ ((Ev.const _).succ fun k => ?_)) fun k => ?_
  · rw [laws_toInt64S.l3_eq, if_neg (by simp)]
  · rw [laws_toInt64S.T, if_pos (by simp only [bigN]; omega)]; rfl
theorem laws_eqInt64S.val (xs ys : List Int) (hn : xs.length < 4611686018427387904) : ∃ b, laws_eqInt64S.F (xs, ys, ()) = some ((b, ()), ()) ∧ (b = true ↔ xs = ys) := by
  by_cases hl : xs.length = ys.length
  · obtain ⟨b, hb, hb'⟩ := Ev.all (L := fun k i => laws_eqInt64S.l4 k xs ys (i : Int)) (a := ()) (b := ()) (n := xs.length) (fun i => xs.getD i 0 == ys.getD i 0) (fun k i hi => by
      rw [laws_eqInt64S.l4_eq, if_pos (ltI.2 hi), if_pos (idxI.2 hi), if_pos (by omega), wrapN (by omega)]
      simp only [Int.toNat_natCast]
      exact ite_nb _ _ _) (fun k => by rw [laws_eqInt64S.l4_eq, if_neg (by simp)]) 0 (Nat.zero_le _)
    refine ⟨b, laws_eqInt64S.of _ _ (hb.of_eq fun k => ?_), by rw [hb', all_eq hl (fun x y => x == y) (by simp)]⟩
    rw [laws_eqInt64S.T, if_neg (by simp [hl])]
    rfl
  · refine ⟨false, laws_eqInt64S.of _ _ ((Ev.const _).of_eq fun k => ?_), by simp; intro e; exact hl (by rw [e])⟩
    rw [laws_eqInt64S.T, if_pos (by simp; omega)]
theorem laws_eqInt64S.refl (xs : List Int) (hn : xs.length < 4611686018427387904) : laws_eqInt64S.F (xs, xs, ()) = some ((true, ()), ()) := by
  obtain ⟨b, hb, hb'⟩ := laws_eqInt64S.val xs xs hn
  rw [hb, hb'.2 rfl]
theorem slices_IndexFunc_Lint64_int64.val (xs : List Int) (f : Int × Unit → Option (Bool × Unit)) (p : Int → Bool) (hf : ∀ x ∈ xs, f (x, ()) = some (p x, ())) (hn : xs.length < 4611686018427387904) :
    ∃ r : Int, slices_IndexFunc_Lint64_int64.F (xs, f, ()) = some ((r, ()), ()) ∧ ((r = -1 ∧ ∀ x ∈ xs, p x = false) ∨ ∃ j : Nat, j < xs.length ∧ r = j ∧ p (xs.getD j 0) = true ∧ ∀ i, i < j → p (xs.getD i 0) = false) := by
  obtain ⟨r, hr, hq⟩ := Ev.loop (σ := Unit) (R := (Int × Unit) × Unit) (fun k i _ => slices_IndexFunc_Lint64_int64.l2 k xs f xs.length (i : Int)) xs.length (fun i _ => ∀ j, j < i → p (xs.getD j 0) = false)
    (fun r => ∃ v : Int, r = ((v, ()), ()) ∧ ((v = -1 ∧ ∀ x ∈ xs, p x = false) ∨ ∃ j : Nat, j < xs.length ∧ v = j ∧ p (xs.getD j 0) = true ∧ ∀ i, i < j → p (xs.getD i 0) = false))
    (fun i s hi hI => by
      have E := fun k => slices_IndexFunc_Lint64_int64.l2_eq k xs f xs.length (i : Int)
      simp only [if_pos (ltI.2 hi), if_pos (idxI.2 hi), Int.toNat_natCast, hf _ (getD_mem 0 hi), Option.bind_some, wrapN (show i < 4611686018427387904 by omega)] at E
      cases hp : p (xs.getD i 0) with
      | true => exact .inl ⟨_, (Ev.const _).succ fun k => by rw [E, if_pos hp], i, rfl, .inr ⟨i, hi, rfl, hp, hI⟩⟩
      | false =>
        refine .inr ⟨(), fun j hj => ?_, Goes.succ fun k => by rw [E, if_neg (by rw [hp]; simp)]⟩
        by_cases hji : j = i
        · rw [hji]; exact hp
        · exact hI j (by omega))
    (fun s hI => ⟨_, (Ev.const _).succ fun k => by rw [slices_IndexFunc_Lint64_int64.l2_eq, if_neg (by simp)], -1, rfl, .inl ⟨rfl, fun x hx => by
      obtain ⟨j, hj, rfl⟩ := List.getElem_of_mem hx
      rw [← getD_eq (d := 0) hj]; exact hI j hj⟩⟩) 0 () (Nat.zero_le _) (by intro j hj; omega)
  obtain ⟨v, rfl, hv⟩ := hq
  exact ⟨v, slices_IndexFunc_Lint64_int64.of _ _ (hr.of_eq fun k => rfl), hv⟩
theorem slices_ContainsFunc_Lint64_int64.val (xs : List Int) (f : Int × Unit → Option (Bool × Unit)) (p : Int → Bool) (hf : ∀ x ∈ xs, f (x, ()) = some (p x, ())) (hn : xs.length < 4611686018427387904) :
    slices_ContainsFunc_Lint64_int64.F (xs, f, ()) = some ((xs.any p, ()), ()) := by
  obtain ⟨r, hr, h⟩ := slices_IndexFunc_Lint64_int64.val xs f p hf hn
  rw [slices_ContainsFunc_Lint64_int64.eq, slices_ContainsFunc_Lint64_int64.T, hr]
  simp only [Option.bind_some]
  rcases h with ⟨rfl, h⟩ | ⟨j, hj, rfl, hp, -⟩
  · have : xs.any p = false := by simp only [List.any_eq_false]; intro x hx; simp [h x hx]
    rw [this]; rfl
  · have : xs.any p = true := List.any_eq_true.2 ⟨_, getD_mem 0 hj, hp⟩
    rw [this]; simp
def VecOk (n : Int) (x : List Int) : Prop := (x.length : Int) = n ∧ ∀ a ∈ x, -1000000 ≤ a ∧ a ≤ 1000000
theorem spec_l16Vector.val (n : Int) (xs : List EdgeV) (x : List Int) (hn : x.length < 4611686018427387904) : ∃ v, spec_l16Vector.F ((n, xs), x, ()) = some ((v, ()), ()) ∧ (v = true ↔ VecOk n x) := by
  obtain ⟨v, hv, hv'⟩ := Ev.allP (L := fun k i => spec_l16Vector.l2 k n xs x (i : Int)) (a := ()) (b := ()) (n := x.length) (fun i => -1000000 ≤ x.getD i 0 ∧ x.getD i 0 ≤ 1000000) ((x.length : Int) == n) (fun i hi => by
    have E := fun k => spec_l16Vector.l2_eq k n xs x (i : Int)
    simp only [if_pos (ltI.2 hi), if_pos (idxI.2 hi), Int.toNat_natCast, spec_l00In.val, Option.bind_some, wrapN (show i < 4611686018427387904 by omega)] at E
    by_cases h : -1000000 ≤ x.getD i 0 ∧ x.getD i 0 ≤ 1000000
    · exact .inl ⟨h, fun k => by rw [E, if_neg (by rw [decide_eq_true h]; simp)]⟩
    · exact .inr ⟨h, fun k => by rw [E, if_pos (by rw [decide_eq_false h]; rfl)]⟩) ((Ev.const _).succ fun k => by rw [spec_l16Vector.l2_eq, if_neg (by simp)]) 0 (Nat.zero_le _)
  refine ⟨v, spec_l16Vector.of _ _ _ (hv.of_eq fun k => rfl), hv'.trans ?_⟩
  unfold VecOk
  simp only [beq_iff_eq]
  refine ⟨fun ⟨h1, h2⟩ => ⟨h1, fun a ha => ?_⟩, fun ⟨h1, h2⟩ => ⟨h1, fun j _ hj => h2 _ (getD_mem 0 hj)⟩⟩
  obtain ⟨j, hj, rfl⟩ := List.getElem_of_mem ha
  have := h2 j (Nat.zero_le _) hj
  rwa [getD_eq hj] at this
theorem impl_isGraphVector.val (n : Int) (xs : List EdgeV) (x : List Int) (hn : x.length < 4611686018427387904) : ∃ v, impl_isGraphVector.F ((n, xs), x, ()) = some ((v, ()), ()) ∧ (v = true ↔ VecOk n x) := by
  rw [impl_isGraphVector.eq, impl_isGraphVector.T, impl_size_int64.eq, impl_size_int64.T]
  simp only [Option.bind_some]
  unfold VecOk
  by_cases h : (x.length : Int) = n
  · rw [if_pos (by simp [h]), slices_ContainsFunc_Lint64_int64.val x _ (fun a => !decide (-1000000 ≤ a ∧ a ≤ 1000000)) (fun a _ => by
      show (impl_isGraphVector_1.F (a, ())).map (·.1) = _
      rw [impl_isGraphVector_1.eq, impl_isGraphVector_1.T, impl_within.val]; rfl) hn]
    refine ⟨_, rfl, ?_⟩
    simp only [h, true_and, Bool.not_eq_true', List.any_eq_false, Bool.not_eq_eq_eq_not, Bool.not_true]
    simp
  · exact ⟨false, by rw [if_neg (by simp [h])], by simp [h]⟩
theorem ask_both (n : Int) (xs : List EdgeV) (x : List Int) (hn : xs.length < 4611686018427387904) (hx : x.length < 4611686018427387904) : ∃ c : Int, spec_l16Ask.F ((n, xs), x, ()) = some ((c, ()), ()) ∧ impl_withVector.F ((n, xs), x, ()) = some ((c, ()), ()) ∧ (c = 0 → GraphOk n xs ∧ VecOk n x) := by
  obtain ⟨v1, h1, h1'⟩ := spec_l16Ok.val n xs hn
  obtain ⟨v2, h2, h2'⟩ := impl_ValidGraph.val n xs hn
  obtain ⟨v3, h3, h3'⟩ := spec_l16Vector.val n xs x hx
  obtain ⟨v4, h4, h4'⟩ := impl_isGraphVector.val n xs x hx
  obtain rfl : v2 = v1 := Bool.eq_iff_iff.2 (h2'.trans h1'.symm)
  obtain rfl : v4 = v3 := Bool.eq_iff_iff.2 (h4'.trans h3'.symm)
  rw [spec_l16Ask.eq, spec_l16Ask.T, impl_withVector.eq, impl_withVector.T, h1, h2, h3, h4]
  simp only [Option.bind_some]
  cases v2 with
  | false => exact ⟨1, rfl, rfl, fun h => by cases h⟩
  | true => cases v4 with
    | false => exact ⟨2, rfl, rfl, fun h => by cases h⟩
    | true => exact ⟨0, rfl, rfl, fun _ => ⟨h1'.1 rfl, h3'.1 rfl⟩⟩
def Cg (a b : Int) : Prop := (18446744073709551616 : Int) ∣ a - b
theorem wrap_def (x : Int) : IntKind.i64.wrap x = if 9223372036854775808 ≤ x % 18446744073709551616 then x % 18446744073709551616 - 18446744073709551616 else x % 18446744073709551616 := by
  have e : (2 : Int) ^ (IntKind.i64).bits = 18446744073709551616 := by decide
  have e2 : (2 : Int) ^ ((IntKind.i64).bits - 1) = 9223372036854775808 := by decide
  unfold IntKind.wrap
  simp only [e, e2, show IntKind.i64.signed = true from rfl, Bool.true_and, decide_eq_true_eq]
theorem Cg.wrap (a : Int) : Cg (IntKind.i64.wrap a) a := by
  unfold Cg; rw [wrap_def]; split <;> omega
theorem Cg.eq {a b : Int} (h : Cg a b) : IntKind.i64.wrap a = IntKind.i64.wrap b := by
  unfold Cg at h
  have : a % 18446744073709551616 = b % 18446744073709551616 := by omega
  rw [wrap_def, wrap_def, this]
theorem Cg.refl (a : Int) : Cg a a := by unfold Cg; omega
theorem Cg.symm {a b : Int} (h : Cg a b) : Cg b a := by unfold Cg at *; omega
theorem Cg.trans {a b c : Int} (h : Cg a b) (k : Cg b c) : Cg a c := by unfold Cg at *; omega
theorem Cg.add {a b c d : Int} (h : Cg a b) (k : Cg c d) : Cg (a + c) (b + d) := by unfold Cg at *; omega
theorem Cg.sub {a b c d : Int} (h : Cg a b) (k : Cg c d) : Cg (a - c) (b - d) := by unfold Cg at *; omega
theorem Cg.mul_right {a b : Int} (h : Cg a b) (c : Int) : Cg (a * c) (b * c) := by
  obtain ⟨k, hk⟩ := h
  exact ⟨k * c, by rw [← Int.mul_assoc, ← hk, Int.sub_mul]⟩
theorem Cg.mul_left {a b : Int} (h : Cg a b) (c : Int) : Cg (c * a) (c * b) := by
  rw [Int.mul_comm c, Int.mul_comm c]; exact h.mul_right c
def dot : List Int → List Int → Int
  | a :: r, b :: x => a * b + dot r x
  | _, _ => 0
theorem dot_set (r : List Int) (a : Nat) (v : Int) (x : List Int) (h : a < r.length) : dot (r.set a v) x = dot r x + (v - r.getD a 0) * x.getD a 0 := by
  induction r generalizing a x with
  | nil => simp at h
  | cons c r ih =>
    cases x with
    | nil => cases a <;> simp [dot]
    | cons y x => cases a with
      | zero => simp only [List.set_cons_zero, dot, List.getD_cons_zero, Int.sub_mul]; omega
      | succ a => simp only [List.set_cons_succ, dot, List.getD_cons_succ]; rw [ih a x (by simpa using h)]; omega
theorem dot_take_succ (r : List Int) (j : Nat) (x : List Int) (h : j < r.length) : dot (r.take (j + 1)) x = dot (r.take j) x + r.getD j 0 * x.getD j 0 := by
  induction r generalizing j x with
  | nil => simp at h
  | cons c r ih =>
    cases x with
    | nil => cases j <;> simp [dot]
    | cons y x => cases j with
      | zero => simp [dot]
      | succ j => simp only [List.take_succ_cons, dot, List.getD_cons_succ]; rw [ih j x (by simpa using h)]; omega
theorem dot_zero (n : Nat) (x : List Int) : dot (List.replicate n 0) x = 0 := by
  induction n generalizing x with
  | zero => cases x <;> rfl
  | succ n ih => cases x with
    | nil => rfl
    | cons y x => simp [List.replicate_succ, dot, ih]
def Marked (ys : List Int) (k : Int) : Prop := ∀ j, j < ys.length → ys.getD j 0 = k + j
theorem laws_markInt64S.val (xs : List Int) (k0 : Int) (h0 : 0 ≤ k0) (h1 : k0 + xs.length ≤ 1099511627776) : ∃ ys, laws_markInt64S.F (xs, k0, ()) = some ((k0 + xs.length, ()), (ys, ())) ∧ ys.length = xs.length ∧ Marked ys k0 := by
  obtain ⟨⟨v, ys⟩, ⟨hv, hl, hm⟩, hg⟩ := Goes.loop (R := (Int × Unit) × (List Int × Unit)) (fun k i (s : Int × List Int) => laws_markInt64S.l2 k s.1 (i : Int) s.2) xs.length (fun i s => s.1 = k0 + i ∧ s.2.length = xs.length ∧ ∀ j, j < i → s.2.getD j 0 = k0 + j)
    (fun i s hi ⟨h2, h3, h4⟩ => ⟨(s.1 + 1, s.2.set i s.1), ⟨by simp only []; omega, by simp [h3], fun j hj => by
      simp only [List.getD_eq_getElem?_getD, List.getElem?_set]
      by_cases hij : i = j
      · subst hij; simp [h3, hi, h2]
      · have := h4 j (by omega)
        simp only [List.getD_eq_getElem?_getD] at this
        simp [hij, this]⟩, Goes.succ fun k => by
      rw [laws_markInt64S.l2_eq, if_pos (by simp; omega), if_pos (by omega), wrapI (by omega) (by omega), wrapN (by omega)]
      simp only [Int.toNat_natCast]⟩) 0 (k0, xs) (Nat.zero_le _) ⟨by simp, rfl, fun j hj => by omega⟩
  simp only [] at hv hl hm
  refine ⟨ys, laws_markInt64S.of _ _ ((hg _ ((Ev.const _).succ fun k => ?_)).of_eq fun k => rfl), hl, fun j hj => hm j (by omega)⟩
  rw [laws_markInt64S.l2_eq, if_neg (by simp; omega), hv]
theorem laws_heldInt64S.val (ys : List Int) (k0 : Int) (h0 : 0 ≤ k0) (h1 : k0 + ys.length ≤ 1099511627776) (hm : Marked ys k0) : laws_heldInt64S.F (ys, k0, ()) = some ((k0 + ys.length, ()), ()) := by
  obtain ⟨v, hv, hg⟩ := Goes.loop (R := (Int × Unit) × Unit) (fun k i (s : Int) => laws_heldInt64S.l2 k ys s (i : Int)) ys.length (fun i s => s = k0 + i)
    (fun i s hi h2 => ⟨s + 1, by omega, Goes.succ fun k => by
      rw [laws_heldInt64S.l2_eq, if_pos (ltI.2 hi), if_pos (idxI.2 hi), if_neg (by simp only [Int.toNat_natCast]; rw [hm i hi, h2]; simp), wrapI (by omega) (by omega), wrapN (by omega)]⟩) 0 k0 (Nat.zero_le _) (by simp)
  refine laws_heldInt64S.of _ _ ((hg _ ((Ev.const _).succ fun k => ?_)).of_eq fun k => rfl)
  rw [laws_heldInt64S.l2_eq, if_neg (by simp), hv]
theorem marks_both (xs : List Int) (h1 : xs.length ≤ 1099511627775) : ∃ ys v, laws_markInt64S.F (xs, 1, ()) = some ((v, ()), (ys, ())) ∧ laws_heldInt64S.F (ys, 1, ()) = some ((v, ()), ()) ∧ 0 ≤ v := by
  obtain ⟨ys, h2, h3, h4⟩ := laws_markInt64S.val xs 1 (by omega) (by omega)
  exact ⟨ys, _, h2, by rw [laws_heldInt64S.val ys 1 (by omega) (by omega) h4, h3], by omega⟩
theorem laws_markEdgeS.val (xs : List EdgeV) (k0 : Int) (h0 : 0 ≤ k0) (h1 : k0 + 3 * xs.length ≤ 1099511627776) : ∃ ys, laws_markEdgeS.F (xs, k0, ()) = some ((k0 + 3 * xs.length, ()), (ys, ())) := by
  obtain ⟨⟨v, ys⟩, ⟨hv, hl⟩, hg⟩ := Goes.loop (R := (Int × Unit) × (List EdgeV × Unit)) (fun k i (s : Int × List EdgeV) => laws_markEdgeS.l2 k s.1 (i : Int) s.2) xs.length (fun i s => s.1 = k0 + 3 * i ∧ s.2.length = xs.length)
    (fun i s hi ⟨h2, h3⟩ => by
      have E := fun k => laws_markEdgeS.l2_eq k s.1 (i : Int) s.2
      simp only [if_pos (show decide ((i : Int) < (s.2.length : Int)) = true by simp; omega), if_pos (show 0 ≤ (i : Int) ∧ (i : Int) < (s.2.length : Int) by omega), List.length_set,
        wrapI (show -9223372036854775808 ≤ s.1 + 1 by omega) (show s.1 + 1 ≤ 9223372036854775807 by omega), wrapI (show -9223372036854775808 ≤ s.1 + 1 + 1 by omega) (show s.1 + 1 + 1 ≤ 9223372036854775807 by omega), wrapI (show -9223372036854775808 ≤ s.1 + 1 + 1 + 1 by omega) (show s.1 + 1 + 1 + 1 ≤ 9223372036854775807 by omega), wrapN (show i < 4611686018427387904 by omega)] at E
      exact ⟨(s.1 + 1 + 1 + 1, _), ⟨by simp only []; omega, by simp [h3]⟩, Goes.succ fun k => E k⟩) 0 (k0, xs) (Nat.zero_le _) ⟨by simp, rfl⟩
  simp only [] at hv hl
  refine ⟨ys, laws_markEdgeS.of _ _ ((hg _ ((Ev.const _).succ fun k => ?_)).of_eq fun k => rfl)⟩
  rw [laws_markEdgeS.l2_eq, if_neg (by simp; omega), hv]
theorem laws_markGraph.val1 (n : Int) (xs : List EdgeV) (h1 : 1 + 3 * xs.length ≤ 1099511627776) : ∃ v m, laws_markGraph.F ((n, xs), 1, ()) = some ((v, ()), m) ∧ 0 ≤ v ∧ v = 1 + 3 * (xs.length : Int) := by
  obtain ⟨ys, hy⟩ := laws_markEdgeS.val xs 1 (by omega) (by omega)
  exact ⟨1 + 3 * (xs.length : Int), _, by rw [laws_markGraph.eq, laws_markGraph.T, hy]; rfl, by omega, rfl⟩
theorem row_mset {n : Nat} {M : List (List Int)} (h : Sq n M) {i : Nat} (hi : i < n) (j : Nat) (v : Int) (p : Nat) : (mset M i j v).getD p [] = if p = i then (M.getD i []).set j v else M.getD p [] := by
  simp only [mset, List.getD_eq_getElem?_getD, List.getElem?_set]
  by_cases hip : i = p
  · subst hip; simp [h.1, hi]
  · simp [hip, Ne.symm hip]
theorem dot_mset {n : Nat} {M : List (List Int)} (h : Sq n M) {i j : Nat} (hi : i < n) (hj : j < n) (v : Int) (p : Nat) (x : List Int) :
    dot ((mset M i j v).getD p []) x = dot (M.getD p []) x + if p = i then (v - mget M i j) * x.getD j 0 else 0 := by
  rw [row_mset h hi]
  by_cases hip : p = i
  · subst hip; rw [if_pos rfl, if_pos rfl, dot_set _ _ _ _ (by rw [h.2 p hi]; exact hj)]; rfl
  · rw [if_neg hip, if_neg hip]; omega
theorem apply_both (n : Nat) (xs : List EdgeV) (x : List Int) (h : GraphOk n xs) (hv : VecOk n x) : ∃ y : List Int, y.length ≤ 12 ∧ spec_l16Apply.F (((n : Int), xs), x, ()) = some ((y, ()), ()) ∧ impl_laplace.F (((n : Int), xs), x, ()) = some ((y, ()), ()) := by
  have hn : n ≤ 12 := by have := h.2.1; omega
  have hx : xs.length ≤ 24 := h.2.2.1
  have hxl : x.length = n := by have := hv.1; omega
  have hsq := sq_lap n xs
  refine ⟨(lap n xs).map fun r => IntKind.i64.wrap (dot r x), by simp [hsq.1, hn], spec_l16Apply.of _ _ _ ?_, impl_laplace.of _ _ _ ?_⟩
  · obtain ⟨y, ⟨hy, hyv, -⟩, hg⟩ := Goes.loop (fun k i (s : List Int) => spec_l16Apply.l3 k n xs x (i : Int) s) xs.length (fun i s => s.length = n ∧ (∀ p, p < n → s.getD p 0 = IntKind.i64.wrap (dot (((xs.take i).foldl lapF (zeroM n)).getD p []) x)) ∧ LapInv n xs i ((xs.take i).foldl lapF (zeroM n))) (fun i s hi ⟨h2, h3, h4⟩ => by
      obtain ⟨g1, g2, g3⟩ := lapInv_step h hi h4
      obtain ⟨b1, b2, b3, -⟩ := h.2.2.2 i hi
      have E := fun k => spec_l16Apply.l3_eq k n xs x (i : Int) s
      have hM : (xs.take (i + 1)).foldl lapF (zeroM n) = lapF ((xs.take i).foldl lapF (zeroM n)) (xs.getD i (0, 0, 0)) := by
        rw [List.take_add_one, List.getElem?_eq_getElem hi, Option.toList_some, List.foldl_append, getD_eq hi]; rfl
      obtain ⟨M, hMe⟩ : ∃ M, (xs.take i).foldl lapF (zeroM n) = M := ⟨_, rfl⟩
      rw [hMe] at hM h3 h4 g1 g2 g3
      simp only [hM]
      obtain ⟨e, he⟩ : ∃ e, xs.getD i (0, 0, 0) = e := ⟨_, rfl⟩
      simp only [Int.toNat_natCast, he] at E g1 g2 g3 b1 b2 b3 ⊢
      obtain ⟨a, b, c⟩ := e
      simp only [] at E g1 g2 g3 b1 b2 b3 ⊢
      obtain ⟨a, rfl⟩ := Int.eq_ofNat_of_zero_le b1
      obtain ⟨b, rfl⟩ := Int.eq_ofNat_of_zero_le (show 0 ≤ b by omega)
      simp only [Int.toNat_natCast] at E g1 g2 g3 b1 b2 b3 ⊢
      have ha : a < n := by omega
      have hb : b < n := by omega
      have hab : a ≠ b := by omega
      simp only [List.length_set, h2, hxl, if_pos (show 0 ≤ (a : Int) ∧ (a : Int) < (n : Int) by omega), if_pos (show 0 ≤ (b : Int) ∧ (b : Int) < (n : Int) by omega), if_pos (ltI.2 hi), if_pos (idxI.2 hi), wrapN (show i < 4611686018427387904 by omega)] at E
      refine ⟨_, ⟨?_, ?_, g1⟩, Goes.succ E⟩
      · simp [h2]
      intro p hp
      have s1 := sq_mset h4.1 a a (IntKind.i64.wrap (mget M a a + c))
      have s2 := sq_mset s1 b b (IntKind.i64.wrap (mget (mset M a a (IntKind.i64.wrap (mget M a a + c))) b b + c))
      have s3 := sq_mset s2 a b (IntKind.i64.wrap (0 - c))
      have ya := h3 a ha
      have yb := h3 b hb
      have yp := h3 p hp
      simp only [lapF, Int.toNat_natCast]
      rw [dot_mset s3 hb ha, dot_mset s2 ha hb, dot_mset s1 hb hb, dot_mset h4.1 ha ha]
      have e1 := mget_mset s2 ha hb (IntKind.i64.wrap (0 - c)) b a
      rw [if_neg (by omega), mget_mset s1 hb hb _ b a, if_neg (by omega), mget_mset h4.1 ha ha _ b a, if_neg (by omega), g3] at e1
      have e2 := mget_mset s1 hb hb (IntKind.i64.wrap (mget (mset M a a (IntKind.i64.wrap (mget M a a + c))) b b + c)) a b
      rw [if_neg (by omega), mget_mset h4.1 ha ha _ a b, if_neg (by omega), g2] at e2
      have e3 := mget_mset h4.1 ha ha (IntKind.i64.wrap (mget M a a + c)) b b
      rw [if_neg (by omega)] at e3
      rw [e1, e2, e3]
      have gs : ∀ (l : List Int) (q : Nat) (v : Int) (r : Nat), q < l.length → (l.set q v).getD r 0 = if r = q then v else l.getD r 0 := fun l q v r hq => by
        simp only [List.getD_eq_getElem?_getD, List.getElem?_set]
        by_cases hqr : q = r
        · subst hqr; simp [hq]
        · simp [hqr, Ne.symm hqr]
      rw [gs _ _ _ _ (by simp [h2, hb]), gs _ _ _ _ (by simp [h2, ha]), gs _ _ _ _ (by simp [h2, ha])]
      have wa := Cg.wrap (mget M a a + c)
      have wb := Cg.wrap (mget M b b + c)
      have wc := Cg.wrap (0 - c)
      have wd := Cg.wrap (c * IntKind.i64.wrap (x.getD a 0 - x.getD b 0))
      have we := ((Cg.wrap (x.getD a 0 - x.getD b 0)).mul_left c)
      have wf := wd.trans we
      rw [Int.mul_sub] at wf
      by_cases pa : p = a
      · subst pa
        simp only [hab, if_false, if_true, ya]
        refine Cg.eq ?_
        have w1 := (wa.sub (Cg.refl (mget M p p))).mul_right (x.getD p 0)
        have w2 := (wc.sub (Cg.refl 0)).mul_right (x.getD b 0)
        have w3 := Cg.wrap (dot (M.getD p []) x)
        rw [show mget M p p + c - mget M p p = c by omega] at w1
        rw [show 0 - c - 0 = -c by omega, Int.neg_mul] at w2
        unfold Cg at *
        omega
      · by_cases pb : p = b
        · subst pb
          simp only [pa, if_false, if_true, yb]
          refine Cg.eq ?_
          have w1 := (wb.sub (Cg.refl (mget M p p))).mul_right (x.getD p 0)
          have w2 := (wc.sub (Cg.refl 0)).mul_right (x.getD a 0)
          have w3 := Cg.wrap (dot (M.getD p []) x)
          rw [show mget M p p + c - mget M p p = c by omega] at w1
          rw [show 0 - c - 0 = -c by omega, Int.neg_mul] at w2
          unfold Cg at *
          omega
        · simp only [pa, pb, if_false, yp]
          congr 1; omega) 0 (List.replicate n 0) (Nat.zero_le _) ⟨by simp, fun p hp => by
        show _ = IntKind.i64.wrap (dot ((zeroM n).getD p []) x)
        simp only [zeroM, List.getD_eq_getElem?_getD, List.getElem?_replicate, hp, if_true, Option.getD_some, dot_zero]
        rfl, lapInv_zero n xs⟩
    rw [List.take_of_length_le (Nat.le_refl _)] at hyv
    have : y = (lap n xs).map fun r => IntKind.i64.wrap (dot r x) := by
      refine List.ext_getElem (by simp [hy, hsq.1]) fun i h1 h2 => ?_
      have := hyv i (by omega)
      rw [getD_eq h1] at this
      rw [this, List.getElem_map]
      congr 2
      exact getD_eq (by rw [show (xs.foldl lapF (zeroM n)).length = n from hsq.1]; omega)
    rw [← this]
    refine Ev.of_eq (hg _ ((Ev.const _).succ fun k => ?_)) fun k => ?_
    · rw [spec_l16Apply.l3_eq, if_neg (by simp)]
    · rw [spec_l16Apply.T, if_pos (by simp only [bigN]; omega)]; rfl
  · have k2' : impl_laplacian.F (((n : Int), xs), ()) = some ((lap n xs, ()), ()) := lap_impl n xs h
    generalize lap n xs = M at *
    refine Ev.of_eq (N := fun k => impl_laplace.l3 k x (M.length : Int) ((0 : Nat) : Int) [] M) ?_ fun k => by rw [impl_laplace.T]; exact (congrArg (fun o => Option.bind o _) k2').trans rfl
    obtain ⟨y, hy, hg⟩ := Goes.loop (fun k i (s : List Int) => impl_laplace.l3 k x (M.length : Int) (i : Int) s M) M.length (fun i s => s = (M.take i).map fun r => IntKind.i64.wrap (dot r x)) (fun i s hi h2 => by
      have hr := hsq.2 i (by rw [← hsq.1]; exact hi)
      refine ⟨_, rfl, (Goes.succ fun k => by rw [impl_laplace.l3_eq, if_pos (ltI.2 hi), if_pos (idxI.2 hi)]).trans ?_⟩
      simp only [Int.toNat_natCast]
      obtain ⟨v, hv2, hg2⟩ := Goes.loop (fun k j (v : Int) => impl_laplace.l7 k x v (M.length : Int) (i : Int) i ((M.getD i []).length : Int) (j : Int) s M) (M.getD i []).length (fun j v => v = IntKind.i64.wrap (dot ((M.getD i []).take j) x)) (fun j v hj h5 => ⟨_, rfl, Goes.succ fun k => by
        rw [impl_laplace.l7_eq, if_pos (ltI.2 hj), if_pos (idxI.2 hj), if_pos (by omega), wrapN (by omega)]
        simp only [Int.toNat_natCast]
        congr 1
        rw [dot_take_succ _ _ _ hj, h5]
        have w1 := Cg.wrap ((M.getD i []).getD j 0 * x.getD j 0)
        have w2 := Cg.wrap (dot ((M.getD i []).take j) x)
        exact Cg.eq (w2.add w1)⟩) 0 0 (Nat.zero_le _) (by cases x <;> rfl)
      refine hg2.trans (Goes.succ fun k => ?_)
      rw [impl_laplace.l7_eq, if_neg (by simp), if_pos (by rw [h2]; simp only [List.length_map, List.length_take, List.length_cons, List.length_nil, bigA]; have := hsq.1; omega), wrapN (by have := hsq.1; omega), hv2, h2, List.take_of_length_le (Nat.le_refl _), List.take_add_one, List.getElem?_eq_getElem hi, Option.toList_some, List.map_append, getD_eq hi]
      rfl) 0 [] (Nat.zero_le _) rfl
    rw [List.take_of_length_le (Nat.le_refl _)] at hy
    refine hg _ ((Ev.const _).succ fun k => ?_)
    rw [impl_laplace.l3_eq, if_neg (by simp), hy]
theorem applyL_both (n : Int) (xs : List EdgeV) (x : List Int) (hn : xs.length < 4611686018427387904) (hx : x.length < 4611686018427387904) : ∃ y c, spec_ApplyLaplacian.F ((n, xs), x, ()) = some ((y, (c, ())), ()) ∧ impl_ApplyLaplacian.F ((n, xs), x, ()) = some ((y, (c, ())), ()) ∧ y.length ≤ 12 := by
  obtain ⟨c, h1, h2, h3⟩ := ask_both n xs x hn hx
  rw [spec_ApplyLaplacian.eq, spec_ApplyLaplacian.T, impl_ApplyLaplacian.eq, impl_ApplyLaplacian.T, h1, h2]
  simp only [Option.bind_some]
  by_cases hc : c = 0
  · obtain ⟨hg, hv⟩ := h3 hc
    obtain ⟨m, rfl⟩ := Int.eq_ofNat_of_zero_le (show 0 ≤ n by have := hg.1; omega)
    obtain ⟨y, hy, k1, k2⟩ := apply_both m xs x hg hv
    have k1' : spec_l16Apply.F (((m : Int), xs), x, ()) = some ((y, ()), ()) := k1
    have k2' : impl_laplace.F (((m : Int), xs), x, ()) = some ((y, ()), ()) := k2
    refine ⟨y, 0, ?_, ?_, hy⟩
    · rw [if_neg (by simp [hc])]; exact (congrArg (fun o => Option.bind o _) k1').trans rfl
    · rw [if_neg (by simp [hc])]; exact (congrArg (fun o => Option.bind o _) k2').trans rfl
  · exact ⟨[], c, by rw [if_pos (by simp [hc])], by rw [if_pos (by simp [hc])], by simp⟩
theorem laws_FnExactApplyLaplacian.pure (d : Ins laws_FnExactApplyLaplacian.sig.ps) (h : wfIns laws_FnExactApplyLaplacian.sig.ps d) : ∃ mu, laws_FnExactApplyLaplacian.F d = some ((true, ()), mu) := by
  obtain ⟨⟨n, xs⟩, x, ⟨⟩⟩ := d
  obtain ⟨⟨_, hx, _⟩, ⟨hx2, _⟩, _⟩ := h
  refine ⟨(), ?_⟩
  rw [laws_FnExactApplyLaplacian.eq, laws_FnExactApplyLaplacian.T]
  by_cases h0 : (x.length : Int) > 1048576
  · rw [if_pos (by simp; omega)]
  rw [if_neg (by simp; omega), laws_szGraph.val n xs 1048576 (by omega) (by omega) hx]
  simp only [Option.bind_some]
  by_cases h1 : (1048576 : Int) < xs.length
  · rw [if_pos h1, if_pos (by simp)]
  rw [if_neg h1, if_neg (by simp; omega)]
  obtain ⟨y, c, hb, hc, hy⟩ := applyL_both n xs x (by omega) (by omega)
  obtain ⟨e1, he1, he1'⟩ := laws_eqGraph.val n n xs xs (by omega)
  have r1 : e1 = true := he1'.2 ⟨rfl, rfl⟩
  have he2 := laws_eqInt64S.refl y (by omega)
  have he3 := laws_eqInt64S.refl x (by omega)
  obtain ⟨v, mm, hv, hv0, hv1⟩ := laws_markGraph.val1 n xs (by omega)
  obtain ⟨zs, hz, -, -⟩ := laws_markInt64S.val x v (by omega) (by omega)
  obtain ⟨ys, u, hu, hh, hu0⟩ := marks_both y (by omega)
  have n1 : ¬ v + x.length < 0 := by omega
  have n2 : ¬ u < 0 := by omega
  simp [laws_toGraph.val n xs (by omega), laws_toInt64S.val x (by omega), hb, hc, he1, r1, he2, he3, hv, hz, hu, hh, n1, n2]
end Go.Proofs.Ytpibalgbkhpcbaa
