/- What the functions answer. -/
import Derived.Test.YtlpmcplimfioeaaLaplacianOfG1
namespace Go.Proofs.Ytlpmcplimfioeaa
open Go Go.Vm
set_option linter.unusedVariables false
set_option linter.unusedSimpArgs false
abbrev EdgeV := Int × Int × Int
theorem wrapI {x : Int} (h1 : -9223372036854775808 ≤ x) (h2 : x ≤ 9223372036854775807) : IntKind.i64.wrap x = x := by
  have e : (2 : Int) ^ (IntKind.i64).bits = 18446744073709551616 := by decide
  have e2 : (2 : Int) ^ ((IntKind.i64).bits - 1) = 9223372036854775808 := by decide
  unfold IntKind.wrap
  simp only [e, e2, show IntKind.i64.signed = true from rfl, Bool.true_and, decide_eq_true_eq]
  split <;> omega
theorem wrapN {i : Nat} (h : i < 4611686018427387904) : IntKind.i64.wrap ((i : Int) + 1) = ((i + 1 : Nat) : Int) := by
  rw [wrapI (by omega) (by omega)]; omega
theorem idxI {α : Type} {xs : List α} {i : Nat} : (0 ≤ (i : Int) ∧ (i : Int) < (xs.length : Int)) ↔ i < xs.length := by omega
theorem ltI {i n : Nat} : (decide ((i : Int) < (n : Int))) = true ↔ i < n := by simp
theorem getD_eq {α : Type} {xs : List α} {i : Nat} {d : α} (h : i < xs.length) : xs.getD i d = xs[i] := by
  rw [List.getD_eq_getElem?_getD, List.getElem?_eq_getElem h]; rfl
theorem eqT_edge (x y : EdgeV) : eqT TEdge x y = true ↔ x = y := by
  obtain ⟨a, b, c⟩ := x
  obtain ⟨a', b', c'⟩ := y
  simp [eqT]
def Goes {R : Type} (A B : Nat → Option R) : Prop := ∀ r, Ev B r → Ev A r
theorem Goes.refl {R : Type} (A : Nat → Option R) : Goes A A := fun _ h => h
theorem Goes.trans {R : Type} {A B C : Nat → Option R} (h : Goes A B) (k : Goes B C) : Goes A C := fun r hr => h r (k r hr)
theorem Goes.succ {R : Type} {A B : Nat → Option R} (e : ∀ k, A (k + 1) = B k) : Goes A B := fun _ h => h.succ e
theorem Goes.of_eq {R : Type} {A B : Nat → Option R} (e : ∀ k, A k = B k) : Goes A B := fun _ h => h.of_eq e
theorem Ev.loop {σ R : Type} (L : Nat → Nat → σ → Option R) (n : Nat) (I : Nat → σ → Prop) (Q : R → Prop)
    (hstep : ∀ i s, i < n → I i s → (∃ r, Ev (fun k => L k i s) r ∧ Q r) ∨ (∃ s', I (i + 1) s' ∧ Goes (fun k => L k i s) (fun k => L k (i + 1) s')))
    (hend : ∀ s, I n s → ∃ r, Ev (fun k => L k n s) r ∧ Q r) : ∀ i s, i ≤ n → I i s → ∃ r, Ev (fun k => L k i s) r ∧ Q r := by
  have key : ∀ j i s, i + j = n → I i s → ∃ r, Ev (fun k => L k i s) r ∧ Q r := by
    intro j
    induction j with
    | zero => intro i s hi h; obtain rfl : i = n := by omega
              exact hend s h
    | succ j ih =>
      intro i s hi h
      rcases hstep i s (by omega) h with h1 | ⟨s', h1, h2⟩
      · exact h1
      · obtain ⟨r, hr, hq⟩ := ih (i + 1) s' (by omega) h1
        exact ⟨r, h2 r hr, hq⟩
  exact fun i s hi h => key (n - i) i s (by omega) h
theorem Goes.loop {σ R : Type} (L : Nat → Nat → σ → Option R) (n : Nat) (I : Nat → σ → Prop)
    (hstep : ∀ i s, i < n → I i s → ∃ s', I (i + 1) s' ∧ Goes (fun k => L k i s) (fun k => L k (i + 1) s')) : ∀ i s, i ≤ n → I i s → ∃ s', I n s' ∧ Goes (fun k => L k i s) (fun k => L k n s') := by
  have key : ∀ j i s, i + j = n → I i s → ∃ s', I n s' ∧ Goes (fun k => L k i s) (fun k => L k n s') := by
    intro j
    induction j with
    | zero => intro i s hi h; obtain rfl : i = n := by omega
              exact ⟨s, h, Goes.refl _⟩
    | succ j ih =>
      intro i s hi h
      obtain ⟨s', h1, h2⟩ := hstep i s (by omega) h
      obtain ⟨s2, h3, h4⟩ := ih (i + 1) s' (by omega) h1
      exact ⟨s2, h3, h2.trans h4⟩
  exact fun i s hi h => key (n - i) i s (by omega) h
theorem Ev.all {A B : Type} {L : Nat → Nat → Option ((Bool × A) × B)} {a : A} {b : B} {n : Nat} (p : Nat → Bool) (hstep : ∀ k i, i < n → L (k + 1) i = if p i = true then L k (i + 1) else some ((false, a), b)) (hend : ∀ k, L (k + 1) n = some ((true, a), b)) (i : Nat) (hi : i ≤ n) :
    ∃ v, Ev (fun k => L k i) ((v, a), b) ∧ (v = true ↔ ∀ j, i ≤ j → j < n → p j = true) := by
  have key : ∀ m i, i + m = n → ∃ v, Ev (fun k => L k i) ((v, a), b) ∧ (v = true ↔ ∀ j, i ≤ j → j < n → p j = true) := by
    intro m
    induction m with
    | zero => intro i hi; obtain rfl : i = n := by omega
              exact ⟨true, (Ev.const _).succ hend, by simp; intro j _ _; omega⟩
    | succ m ih =>
      intro i hi
      obtain ⟨v, hv, hv'⟩ := ih (i + 1) (by omega)
      cases hp : p i with
      | false => exact ⟨false, (Ev.const _).succ fun k => by rw [hstep k i (by omega), hp]; rfl, by simp; exact ⟨i, Nat.le_refl _, by omega, hp⟩⟩
      | true =>
        refine ⟨v, hv.succ fun k => by rw [hstep k i (by omega), hp]; rfl, hv'.trans ⟨fun h j hj hn => ?_, fun h j hj hn => h j (by omega) hn⟩⟩
        by_cases hij : j = i
        · rw [hij]; exact hp
        · exact h j (by omega) hn
  exact key (n - i) i (by omega)
theorem all_eq {α : Type} {xs ys : List α} (hl : xs.length = ys.length) (q : α → α → Bool) (hq : ∀ x y, q x y = true ↔ x = y) (d : α) : (∀ j, 0 ≤ j → j < xs.length → q (xs.getD j d) (ys.getD j d) = true) ↔ xs = ys := by
  constructor
  · intro h
    refine List.ext_getElem hl fun i h1 h2 => ?_
    have := (hq _ _).1 (h i (Nat.zero_le _) h1)
    rwa [getD_eq h1, getD_eq h2] at this
  · rintro rfl j _ _
    exact (hq _ _).2 rfl
theorem Goes.fill {α R : Type} {L : Nat → Nat → List α → Option R} (xs : List α) (d : α) (hstep : ∀ k i ys, i < xs.length → ys.length = xs.length → L (k + 1) i ys = L k (i + 1) (ys.set i (xs.getD i d))) (ys : List α) (hy : ys.length = xs.length) :
    Goes (fun k => L k 0 ys) (fun k => L k xs.length xs) := by
  obtain ⟨s, ⟨hs1, hs2⟩, hs3⟩ := Goes.loop L xs.length (fun i s => s.length = xs.length ∧ s.take i = xs.take i) (fun i s hi ⟨h1, h2⟩ => ⟨s.set i (xs.getD i d), ⟨by simp [h1], by
    rw [List.take_add_one, List.take_add_one, List.take_set_of_le (Nat.le_refl _), h2]
    simp [hi, h1, getD_eq hi]⟩, Goes.succ fun k => hstep k i s hi h1⟩) 0 ys (Nat.zero_le _) ⟨hy, by simp⟩
  have : s = xs := by
    rw [List.take_of_length_le (by omega), List.take_of_length_le (Nat.le_refl _)] at hs2
    exact hs2
  rw [this] at hs3
  exact hs3
theorem ite_nb {α : Type} (b : Bool) (x y : α) : (if (!b) = true then x else y) = if b = true then y else x := by cases b <;> rfl
theorem Ev.allP {A B : Type} {L : Nat → Nat → Option ((Bool × A) × B)} {a : A} {b : B} {n : Nat} (P : Nat → Prop) (e : Bool) (hstep : ∀ i, i < n → (P i ∧ ∀ k, L (k + 1) i = L k (i + 1)) ∨ (¬ P i ∧ ∀ k, L (k + 1) i = some ((false, a), b))) (hend : Ev (fun k => L k n) ((e, a), b)) (i : Nat) (hi : i ≤ n) :
    ∃ v, Ev (fun k => L k i) ((v, a), b) ∧ (v = true ↔ e = true ∧ ∀ j, i ≤ j → j < n → P j) := by
  have key : ∀ m i, i + m = n → ∃ v, Ev (fun k => L k i) ((v, a), b) ∧ (v = true ↔ e = true ∧ ∀ j, i ≤ j → j < n → P j) := by
    intro m
    induction m with
    | zero => intro i hi; obtain rfl : i = n := by omega
              exact ⟨e, hend, ⟨fun h => ⟨h, fun j h1 h2 => by omega⟩, fun h => h.1⟩⟩
    | succ m ih =>
      intro i hi
      obtain ⟨v, hv, hv'⟩ := ih (i + 1) (by omega)
      rcases hstep i (by omega) with ⟨hp, h⟩ | ⟨hp, h⟩
      · refine ⟨v, hv.succ h, hv'.trans ⟨fun ⟨h1, h2⟩ => ⟨h1, fun j hj hn => ?_⟩, fun ⟨h1, h2⟩ => ⟨h1, fun j hj hn => h2 j (by omega) hn⟩⟩⟩
        by_cases hij : j = i
        · rw [hij]; exact hp
        · exact h2 j (by omega) hn
      · exact ⟨false, (Ev.const _).succ h, ⟨fun h => (by cases h), fun ⟨_, h2⟩ => absurd (h2 i (Nat.le_refl _) (by omega)) hp⟩⟩
  exact key (n - i) i (by omega)
theorem wrapP {i : Nat} (h : 0 < i) (h2 : i < 4611686018427387904) : IntKind.i64.wrap ((i : Int) - 1) = ((i - 1 : Nat) : Int) := by
  rw [wrapI (by omega) (by omega)]; omega
theorem Goes.foldl {α σ R : Type} {L : Nat → Nat → σ → Option R} (xs : List α) (d : α) (f : σ → α → σ) (hstep : ∀ k i s, i < xs.length → L (k + 1) i s = L k (i + 1) (f s (xs.getD i d))) (s : σ) : Goes (fun k => L k 0 s) (fun k => L k xs.length (xs.foldl f s)) := by
  have key : ∀ m i s, i + m = xs.length → Goes (fun k => L k i s) (fun k => L k xs.length ((xs.drop i).foldl f s)) := by
    intro m
    induction m with
    | zero => intro i s hi; obtain rfl : i = xs.length := by omega
              rw [List.drop_length]; exact Goes.refl _
    | succ m ih =>
      intro i s hi
      have h : i < xs.length := by omega
      refine (Goes.succ fun k => hstep k i s h).trans ?_
      rw [List.drop_eq_getElem_cons h, List.foldl_cons, ← getD_eq (d := d) h]
      exact ih (i + 1) _ (by omega)
  have := key xs.length 0 s (by omega)
  simpa using this
theorem getD_mem {α : Type} {xs : List α} {i : Nat} (d : α) (h : i < xs.length) : xs.getD i d ∈ xs := by rw [getD_eq h]; exact List.getElem_mem h
theorem laws_szEdgeS.val (xs : List EdgeV) (left : Int) (h0 : 0 ≤ left) (h1 : left ≤ 1048576) (hx : xs.length ≤ maxLen) :
    laws_szEdgeS.F (xs, left, ()) = some ((if left < xs.length then -1 else left - xs.length, ()), ()) := by
  have : xs.length ≤ 9223372036854775807 := hx
  rw [laws_szEdgeS.eq, laws_szEdgeS.T, wrapI (by omega) (by omega)]
  by_cases h : left < xs.length
  · rw [if_pos (by simp; omega), if_pos h]
  · rw [if_neg (by simp; omega), if_neg h]
theorem laws_szGraph.val (n : Int) (xs : List EdgeV) (left : Int) (h0 : 0 ≤ left) (h1 : left ≤ 1048576) (hx : xs.length ≤ maxLen) :
    laws_szGraph.F ((n, xs), left, ()) = some ((if left < xs.length then -1 else left - xs.length, ()), ()) := by
  rw [laws_szGraph.eq, laws_szGraph.T, laws_szEdgeS.val xs left h0 h1 hx]
  simp only [Option.bind_some]
  by_cases h : left < xs.length
  · rw [if_pos h]; rfl
  · rw [if_neg h, if_neg (by simp; omega)]
theorem laws_toEdge.val (x : EdgeV) : laws_toEdge.F (x, ()) = some ((x, ()), ()) := by
  obtain ⟨a, b, c⟩ := x
  exact laws_toEdge.eq a b c
theorem laws_toEdgeS.val (xs : List EdgeV) (h : xs.length ≤ 1099511627776) : laws_toEdgeS.F (xs, ()) = some ((xs, ()), ()) := by
  refine laws_toEdgeS.of xs ?_
  have := Goes.fill (L := fun k i ys => laws_toEdgeS.l3 k xs (i : Int) ys) xs (0, 0, 0) (fun k i ys hi hy => by
    rw [laws_toEdgeS.l3_eq, if_pos (ltI.2 hi), if_pos (idxI.2 hi), laws_toEdge.val, Option.bind_some, if_pos (by omega), wrapN (by omega)]
    simp only [Int.toNat_natCast]) (List.replicate xs.length (0, 0, 0)) (by simp)
  refine Ev.of_eq (this _ ((Ev.const _).succ fun k => ?_)) fun k => ?_
  · rw [laws_toEdgeS.l3_eq, if_neg (by simp)]
  · rw [laws_toEdgeS.T, if_pos (by simp only [bigN]; omega)]; rfl
theorem laws_toGraph.val (n : Int) (xs : List EdgeV) (h : xs.length ≤ 1099511627776) : laws_toGraph.F ((n, xs), ()) = some (((n, xs), ()), ()) := by
  rw [laws_toGraph.eq, laws_toGraph.T, laws_toEdgeS.val xs h]; rfl
theorem laws_eqEdge.val (x y : EdgeV) : laws_eqEdge.F (x, y, ()) = some ((eqT TEdge x y, ()), ()) := by
  obtain ⟨a, b, c⟩ := x
  obtain ⟨a', b', c'⟩ := y
  rw [laws_eqEdge.eq, laws_eqEdge.T]
  by_cases h1 : a = a' <;> by_cases h2 : b = b' <;> by_cases h3 : c = c' <;> simp [eqT, h1, h2, h3]
theorem laws_eqEdgeS.val (xs ys : List EdgeV) (hn : xs.length < 4611686018427387904) : ∃ b, laws_eqEdgeS.F (xs, ys, ()) = some ((b, ()), ()) ∧ (b = true ↔ xs = ys) := by
  by_cases hl : xs.length = ys.length
  · obtain ⟨b, hb, hb'⟩ := Ev.all (L := fun k i => laws_eqEdgeS.l4 k xs ys (i : Int)) (a := ()) (b := ()) (n := xs.length) (fun i => eqT TEdge (xs.getD i (0, 0, 0)) (ys.getD i (0, 0, 0))) (fun k i hi => by
      rw [laws_eqEdgeS.l4_eq, if_pos (ltI.2 hi), if_pos (idxI.2 hi), if_pos (by omega), laws_eqEdge.val, Option.bind_some, wrapN (by omega)]
      simp only [Int.toNat_natCast]
      exact ite_nb _ _ _) (fun k => by rw [laws_eqEdgeS.l4_eq, if_neg (by simp)]) 0 (Nat.zero_le _)
    refine ⟨b, laws_eqEdgeS.of _ _ (hb.of_eq fun k => ?_), by rw [hb', all_eq hl _ eqT_edge]⟩
    rw [laws_eqEdgeS.T, if_neg (by simp [hl])]
    rfl
  · refine ⟨false, laws_eqEdgeS.of _ _ ((Ev.const _).of_eq fun k => ?_), by simp; intro e; exact hl (by rw [e])⟩
    rw [laws_eqEdgeS.T, if_pos (by simp; omega)]
theorem laws_eqGraph.val (n m : Int) (xs ys : List EdgeV) (hn : xs.length < 4611686018427387904) : ∃ b, laws_eqGraph.F ((n, xs), (m, ys), ()) = some ((b, ()), ()) ∧ (b = true ↔ n = m ∧ xs = ys) := by
  rw [laws_eqGraph.eq, laws_eqGraph.T]
  by_cases h : n = m
  · obtain ⟨b, hb, hb'⟩ := laws_eqEdgeS.val xs ys hn
    exact ⟨b, by rw [if_neg (by simp [h]), hb]; cases b <;> rfl, by simp [h, hb']⟩
  · exact ⟨false, by rw [if_pos (by simp [h])], by simp [h]⟩
theorem spec_l00In.val (n lo hi : Int) : spec_l00In.F (n, lo, hi, ()) = some ((decide (lo ≤ n ∧ n ≤ hi), ()), ()) := by
  rw [spec_l00In.eq, spec_l00In.T]
  by_cases h : lo ≤ n
  · rw [if_pos (by simp [h])]; simp [h]
  · rw [if_neg (by simp [h])]; simp [h]
theorem impl_within.val (n lo hi : Int) : impl_within.F (n, lo, hi, ()) = some ((decide (lo ≤ n ∧ n ≤ hi), ()), ()) := by
  rw [impl_within.eq, impl_within.T]
  by_cases h : lo ≤ n
  · rw [if_pos (by simp [h])]; simp [h]
  · rw [if_neg (by simp [h])]; simp [h]
def cmpI (x y : Int) : Int := if x < y then -1 else if x > y then 1 else 0
theorem cmp_Compare_int64.val (x y : Int) : cmp_Compare_int64.F (x, y, ()) = some ((cmpI x y, ()), ()) := by
  rw [cmp_Compare_int64.eq, cmp_Compare_int64.T, cmp_isNaN_int64.eq, cmp_isNaN_int64.T, cmp_isNaN_int64.eq, cmp_isNaN_int64.T]
  simp only [Option.bind_some, bne_self_eq_false, Bool.false_eq_true, if_false, decide_eq_true_eq, cmpI]
  repeat' split
  all_goals rfl
theorem cmp_Or_int.val2 (x y : Int) : cmp_Or_int.F ([x, y], ()) = some ((if x ≠ 0 then x else y, ()), ()) := by
  refine cmp_Or_int.of _ ⟨3, fun k hk => ?_⟩
  obtain ⟨k, rfl⟩ : ∃ j, k = j + 1 + 1 + 1 := ⟨k - 3, by omega⟩
  show cmp_Or_int.T (k + 1 + 1 + 1) [x, y] = _
  rw [cmp_Or_int.T, cmp_Or_int.l3_eq]
  by_cases hx : x = 0
  · subst hx
    simp only [List.length_cons, List.length_nil]
    rw [if_pos (by simp), if_pos (by simp), if_neg (by simp), cmp_Or_int.l3_eq]
    simp only [List.length_cons, List.length_nil]
    rw [wrapI (by omega) (by omega)]
    rw [if_pos (by simp), if_pos (by simp)]
    by_cases hy : y = 0
    · subst hy
      rw [if_neg (by simp), cmp_Or_int.l3_eq, wrapI (by omega) (by omega), if_neg (by simp)]; simp
    · rw [if_pos (by simp [hy])]; simp
  · simp only [List.length_cons, List.length_nil]
    rw [if_pos (by simp), if_pos (by simp), if_pos (by simp [hx])]
    simp [hx]
def EdgeOk (n : Int) (xs : List EdgeV) (j : Nat) : Prop :=
  0 ≤ (xs.getD j (0, 0, 0)).1 ∧ (xs.getD j (0, 0, 0)).1 < (xs.getD j (0, 0, 0)).2.1 ∧ (xs.getD j (0, 0, 0)).2.1 < n ∧ 1 ≤ (xs.getD j (0, 0, 0)).2.2 ∧ (xs.getD j (0, 0, 0)).2.2 ≤ 9 ∧
    (0 < j → (xs.getD (j - 1) (0, 0, 0)).1 < (xs.getD j (0, 0, 0)).1 ∨ (xs.getD (j - 1) (0, 0, 0)).1 = (xs.getD j (0, 0, 0)).1 ∧ (xs.getD (j - 1) (0, 0, 0)).2.1 < (xs.getD j (0, 0, 0)).2.1)
def GraphOk (n : Int) (xs : List EdgeV) : Prop := 1 ≤ n ∧ n ≤ 12 ∧ xs.length ≤ 24 ∧ ∀ j, j < xs.length → EdgeOk n xs j
theorem impl_compareEdges.val (x y : EdgeV) : ∃ r, impl_compareEdges.F (x, y, ()) = some ((r, ()), ()) ∧ (r < 0 ↔ x.1 < y.1 ∨ x.1 = y.1 ∧ x.2.1 < y.2.1) := by
  obtain ⟨a, b, c⟩ := x
  obtain ⟨a', b', c'⟩ := y
  refine ⟨if cmpI a a' ≠ 0 then cmpI a a' else cmpI b b', ?_, ?_⟩
  · rw [impl_compareEdges.eq, impl_compareEdges.T, cmp_Compare_int64.val, cmp_Compare_int64.val]
    simp only [Option.bind_some]
    rw [cmp_Or_int.val2]; rfl
  · show _ ↔ a < a' ∨ a = a' ∧ b < b'
    simp only [cmpI]
    by_cases h1 : a < a'
    · simp [h1]
    · by_cases h2 : a > a'
      · have : ¬ a = a' := by omega
        simp [h1, h2, this]
      · have : a = a' := by omega
        subst this
        by_cases h3 : b < b'
        · simp [h3]
        · by_cases h4 : b > b' <;> simp [h3, h4]
theorem spec_l16Ok.val (n : Int) (xs : List EdgeV) (hn : xs.length < 4611686018427387904) : ∃ v, spec_l16Ok.F ((n, xs), ()) = some ((v, ()), ()) ∧ (v = true ↔ GraphOk n xs) := by
  by_cases h : 1 ≤ n ∧ n ≤ 12
  · obtain ⟨v, hv, hv'⟩ := Ev.allP (L := fun k i => spec_l16Ok.l4 k n xs (i : Int)) (a := ()) (b := ()) (n := xs.length) (EdgeOk n xs) (decide ((xs.length : Int) ≤ 24)) (fun i hi => by
      obtain ⟨x, hx⟩ : ∃ x, x = xs.getD i (0, 0, 0) := ⟨_, rfl⟩
      have E := fun k => spec_l16Ok.l4_eq k n xs (i : Int)
      simp only [if_pos (ltI.2 hi), if_pos (idxI.2 hi), spec_l00In.val, Option.bind_some, wrapN (show i < 4611686018427387904 by omega), Int.toNat_natCast, ← hx, wrapI (show -9223372036854775808 ≤ n - 1 by omega) (show n - 1 ≤ 9223372036854775807 by omega)] at E
      unfold EdgeOk
      rw [← hx]
      clear hx
      obtain ⟨a, b, c⟩ := x
      simp only []
      by_cases h1 : 0 ≤ b ∧ b ≤ n - 1
      · simp only [if_neg (show ¬ (!decide (0 ≤ b ∧ b ≤ n - 1)) = true by simp [h1]), wrapI (show -9223372036854775808 ≤ b - 1 by omega) (show b - 1 ≤ 9223372036854775807 by omega)] at E
        by_cases h2 : 0 ≤ a ∧ a ≤ b - 1
        · simp only [if_neg (show ¬ (!decide (0 ≤ a ∧ a ≤ b - 1)) = true by simp [h2])] at E
          by_cases h3 : 1 ≤ c ∧ c ≤ 9
          · simp only [if_neg (show ¬ (!decide (1 ≤ c ∧ c ≤ 9)) = true by simp [h3])] at E
            by_cases h4 : 0 < i
            · simp only [if_pos (show decide ((i : Int) > 0) = true by simp; omega), wrapP h4 (show i < 4611686018427387904 by omega), if_pos (show 0 ≤ ((i - 1 : Nat) : Int) ∧ ((i - 1 : Nat) : Int) < (xs.length : Int) by omega), Int.toNat_natCast] at E
              generalize xs.getD (i - 1) (0, 0, 0) = y at *
              obtain ⟨a', b', c'⟩ := y
              simp only []
              by_cases h5 : a' > a
              · exact .inr ⟨by omega, fun k => by rw [E, if_pos (by simp [h5])]⟩
              · simp only [if_neg (show ¬ decide (a' > a) = true by simp; omega)] at E
                by_cases h6 : a' = a
                · subst h6
                  by_cases h7 : b' ≥ b
                  · exact .inr ⟨by omega, fun k => by rw [E, if_pos (by simp), if_pos (by simp [h7])]⟩
                  · exact .inl ⟨by omega, fun k => by rw [E, if_pos (by simp), if_neg (by simp; omega)]⟩
                · exact .inl ⟨by omega, fun k => by rw [E, if_neg (by simp [h6])]⟩
            · exact .inl ⟨by omega, fun k => by rw [E, if_neg (by simp; omega)]⟩
          · exact .inr ⟨by omega, fun k => by rw [E, if_pos (by simp; omega)]⟩
        · exact .inr ⟨by omega, fun k => by rw [E, if_pos (by simp; omega)]⟩
      · exact .inr ⟨by omega, fun k => by rw [E, if_pos (by simp; omega)]⟩) ((Ev.const _).succ fun k => by rw [spec_l16Ok.l4_eq, if_neg (by simp)]) 0 (Nat.zero_le _)
    refine ⟨v, spec_l16Ok.of _ _ (hv.of_eq fun k => ?_), hv'.trans ?_⟩
    · rw [spec_l16Ok.T, spec_l00In.val]
      simp only [Option.bind_some]
      rw [if_neg (by simp [h])]; rfl
    · unfold GraphOk
      simp only [decide_eq_true_eq]
      exact ⟨fun ⟨h1, h2⟩ => ⟨h.1, h.2, by omega, fun j hj => h2 j (Nat.zero_le _) hj⟩, fun ⟨_, _, h1, h2⟩ => ⟨by omega, fun j _ hj => h2 j hj⟩⟩
  · refine ⟨false, spec_l16Ok.of _ _ ((Ev.const _).of_eq fun k => ?_), by unfold GraphOk; simp; intro h1 h2; exact absurd ⟨h1, h2⟩ h⟩
    rw [spec_l16Ok.T, spec_l00In.val]
    simp only [Option.bind_some]
    rw [if_pos (by simp; omega)]
theorem impl_ValidGraph.val (n : Int) (xs : List EdgeV) (hn : xs.length < 4611686018427387904) : ∃ v, impl_ValidGraph.F ((n, xs), ()) = some ((v, ()), ()) ∧ (v = true ↔ GraphOk n xs) := by
  obtain ⟨v, hv, hv'⟩ := Ev.allP (L := fun k i => impl_ValidGraph.l2 k xs xs.length (i : Int) n xs) (a := ()) (b := ()) (n := xs.length) (EdgeOk n xs) (decide (1 ≤ n ∧ n ≤ 12) && decide ((xs.length : Int) ≤ 24)) (fun i hi => by
      obtain ⟨x, hx⟩ : ∃ x, x = xs.getD i (0, 0, 0) := ⟨_, rfl⟩
      have E := fun k => impl_ValidGraph.l2_eq k xs xs.length (i : Int) n xs
      simp only [if_pos (ltI.2 hi), if_pos (idxI.2 hi), impl_within.val, Option.bind_some, wrapN (show i < 4611686018427387904 by omega), Int.toNat_natCast, ← hx] at E
      unfold EdgeOk
      rw [← hx]
      clear hx
      obtain ⟨a, b, c⟩ := x
      simp only []
      by_cases h1 : a < 0
      · exact .inr ⟨by omega, fun k => by rw [E, if_pos (by simp [h1])]⟩
      simp only [if_neg (show ¬ decide (a < 0) = true by simp; omega)] at E
      by_cases h2 : a ≥ b
      · exact .inr ⟨by omega, fun k => by rw [E, if_pos (by simp [h2])]⟩
      simp only [if_neg (show ¬ decide (a ≥ b) = true by simp; omega)] at E
      by_cases h3 : b ≥ n
      · exact .inr ⟨by omega, fun k => by rw [E, if_pos (by simp [h3])]⟩
      simp only [if_neg (show ¬ decide (b ≥ n) = true by simp; omega)] at E
      by_cases h4 : 1 ≤ c ∧ c ≤ 9
      · simp only [if_neg (show ¬ (!decide (1 ≤ c ∧ c ≤ 9)) = true by simp [h4])] at E
        by_cases h5 : 0 < i
        · obtain ⟨r, hr, hr'⟩ := impl_compareEdges.val (xs.getD (i - 1) (0, 0, 0)) (a, b, c)
          simp only [if_pos (show decide ((i : Int) > 0) = true by simp; omega), wrapP h5 (show i < 4611686018427387904 by omega), if_pos (show 0 ≤ ((i - 1 : Nat) : Int) ∧ ((i - 1 : Nat) : Int) < (xs.length : Int) by omega), Int.toNat_natCast, hr, Option.bind_some] at E
          by_cases h6 : r < 0
          · exact .inl ⟨⟨by omega, by omega, by omega, by omega, by omega, fun _ => hr'.1 h6⟩, fun k => by rw [E, if_neg (by simp; omega)]⟩
          · exact .inr ⟨fun ⟨_, _, _, _, _, h⟩ => h6 (hr'.2 (h h5)), fun k => by rw [E, if_pos (by simp; omega)]⟩
        · exact .inl ⟨by omega, fun k => by rw [E, if_neg (by simp; omega)]⟩
      · exact .inr ⟨by omega, fun k => by rw [E, if_pos (by simp; omega)]⟩) ((Ev.const _).succ fun k => by
        rw [impl_ValidGraph.l2_eq, if_neg (by simp), impl_within.val]
        simp only [Option.bind_some]
        by_cases h : 1 ≤ n ∧ n ≤ 12
        · rw [if_pos (by simp [h])]; simp [h]
        · rw [if_neg (by simp; omega)]; simp [h]) 0 (Nat.zero_le _)
  refine ⟨v, impl_ValidGraph.of _ _ (hv.of_eq fun k => rfl), hv'.trans ?_⟩
  unfold GraphOk
  simp only [Bool.and_eq_true, decide_eq_true_eq]
  exact ⟨fun ⟨⟨h0, h1⟩, h2⟩ => ⟨h0.1, h0.2, by omega, fun j hj => h2 j (Nat.zero_le _) hj⟩, fun ⟨h0, h3, h1, h2⟩ => ⟨⟨⟨h0, h3⟩, by omega⟩, fun j _ hj => h2 j hj⟩⟩
def mget (M : List (List Int)) (i j : Nat) : Int := (M.getD i []).getD j 0
def mset (M : List (List Int)) (i j : Nat) (v : Int) : List (List Int) := M.set i ((M.getD i []).set j v)
theorem mget_def (M : List (List Int)) (i j : Nat) : mget M i j = (M.getD i []).getD j 0 := rfl
theorem mset_def (M : List (List Int)) (i j : Nat) (v : Int) : mset M i j v = M.set i ((M.getD i []).set j v) := rfl
def Sq (n : Nat) (M : List (List Int)) : Prop := M.length = n ∧ ∀ i, i < n → (M.getD i []).length = n
theorem sq_mset {n : Nat} {M : List (List Int)} (h : Sq n M) (i j : Nat) (v : Int) : Sq n (mset M i j v) := by
  refine ⟨by simp [mset, h.1], fun p hp => ?_⟩
  have := h.2
  simp only [mset, List.getD_eq_getElem?_getD, List.getElem?_set] at this ⊢
  by_cases hip : i = p
  · subst hip
    simp only [h.1, hp, if_true, Option.getD_some, List.length_set]
    exact this i hp
  · simpa [hip] using this p hp
theorem mget_mset {n : Nat} {M : List (List Int)} (h : Sq n M) {i j : Nat} (hi : i < n) (hj : j < n) (v : Int) (p q : Nat) : mget (mset M i j v) p q = if p = i ∧ q = j then v else mget M p q := by
  have h2 := h.2 i hi
  simp only [mget, mset, List.getD_eq_getElem?_getD, List.getElem?_set] at h2 ⊢
  by_cases hip : i = p
  · subst hip
    simp only [h.1, hi, if_true, Option.getD_some, List.getElem?_set, h2, true_and]
    by_cases hjq : j = q
    · subst hjq; simp [hj]
    · simp [hjq, Ne.symm hjq]
  · simp [hip, Ne.symm hip]
def lapF (M : List (List Int)) (e : EdgeV) : List (List Int) :=
  let a := e.1.toNat
  let b := e.2.1.toNat
  let M1 := mset M a a (IntKind.i64.wrap (mget M a a + e.2.2))
  let M2 := mset M1 b b (IntKind.i64.wrap (mget M1 b b + e.2.2))
  let M3 := mset M2 a b (IntKind.i64.wrap (0 - e.2.2))
  mset M3 b a (IntKind.i64.wrap (0 - e.2.2))
def zeroM (n : Nat) : List (List Int) := List.replicate n (List.replicate n 0)
def lap (n : Nat) (xs : List EdgeV) : List (List Int) := xs.foldl lapF (zeroM n)
theorem sq_zero (n : Nat) : Sq n (zeroM n) := by
  refine ⟨by simp [zeroM], fun i hi => ?_⟩
  simp [zeroM, List.getD_eq_getElem?_getD, hi]
theorem mget_zero (n p q : Nat) : mget (zeroM n) p q = 0 := by
  simp only [mget, zeroM, List.getD_eq_getElem?_getD, List.getElem?_replicate]
  split
  · simp only [Option.getD_some, List.getElem?_replicate]; split <;> rfl
  · simp
theorem sq_lapF {n : Nat} {M : List (List Int)} (h : Sq n M) (e : EdgeV) : Sq n (lapF M e) := sq_mset (sq_mset (sq_mset (sq_mset h _ _ _) _ _ _) _ _ _) _ _ _
theorem sq_lap (n : Nat) (xs : List EdgeV) : Sq n (lap n xs) := by
  unfold lap
  suffices ∀ M, Sq n M → Sq n (xs.foldl lapF M) from this _ (sq_zero n)
  induction xs with
  | nil => intro M h; exact h
  | cons e xs ih => intro M h; exact ih _ (sq_lapF h e)
theorem edges_lt {n : Int} {xs : List EdgeV} (h : GraphOk n xs) : ∀ i, i < xs.length → ∀ j, j < i → (xs.getD j (0, 0, 0)).1 < (xs.getD i (0, 0, 0)).1 ∨ (xs.getD j (0, 0, 0)).1 = (xs.getD i (0, 0, 0)).1 ∧ (xs.getD j (0, 0, 0)).2.1 < (xs.getD i (0, 0, 0)).2.1 := by
  intro i
  induction i with
  | zero => intro _ j hj; omega
  | succ i ih =>
    intro hi j hj
    have h1 := (h.2.2.2 (i + 1) hi).2.2.2.2.2 (by omega)
    simp only [Nat.add_sub_cancel] at h1
    by_cases hji : j = i
    · rw [hji]; exact h1
    · have h2 := ih (by omega) j (by omega)
      omega
def LapInv (n : Nat) (xs : List EdgeV) (i : Nat) (M : List (List Int)) : Prop :=
  Sq n M ∧ ∀ p q : Nat, p ≠ q → p < n → q < n → (∀ j, j < i → ¬ ((xs.getD j (0, 0, 0)).1 = p ∧ (xs.getD j (0, 0, 0)).2.1 = q) ∧ ¬ ((xs.getD j (0, 0, 0)).1 = q ∧ (xs.getD j (0, 0, 0)).2.1 = p)) → mget M p q = 0
theorem lapInv_step {n : Nat} {xs : List EdgeV} (h : GraphOk n xs) {i : Nat} (hi : i < xs.length) {M : List (List Int)} (hM : LapInv n xs i M) : LapInv n xs (i + 1) (lapF M (xs.getD i (0, 0, 0))) ∧
    mget M (xs.getD i (0, 0, 0)).1.toNat (xs.getD i (0, 0, 0)).2.1.toNat = 0 ∧ mget M (xs.getD i (0, 0, 0)).2.1.toNat (xs.getD i (0, 0, 0)).1.toNat = 0 := by
  obtain ⟨h1, h2, h3, -⟩ := h.2.2.2 i hi
  have hlt := edges_lt h i hi
  obtain ⟨e, he⟩ : ∃ e, xs.getD i (0, 0, 0) = e := ⟨_, rfl⟩
  simp only [he] at h1 h2 h3 hlt ⊢
  obtain ⟨a, b, c⟩ := e
  simp only [] at h1 h2 h3 hlt ⊢
  obtain ⟨a, rfl⟩ := Int.eq_ofNat_of_zero_le h1
  obtain ⟨b, rfl⟩ := Int.eq_ofNat_of_zero_le (show 0 ≤ b by omega)
  simp only [Int.toNat_natCast]
  have ha : a < n := by omega
  have hb : b < n := by omega
  have hab : a ≠ b := by omega
  refine ⟨⟨sq_lapF hM.1 _, fun p q hpq hp hq hno => ?_⟩, hM.2 a b hab ha hb fun j hj => ?_, hM.2 b a (Ne.symm hab) hb ha fun j hj => ?_⟩
  · have hi' := hno i (by omega)
    rw [he] at hi'
    simp only [Int.ofNat_inj] at hi'
    have s1 := sq_mset hM.1 a a (IntKind.i64.wrap (mget M a a + c))
    have s2 := sq_mset s1 b b (IntKind.i64.wrap (mget (mset M a a (IntKind.i64.wrap (mget M a a + c))) b b + c))
    have s3 := sq_mset s2 a b (IntKind.i64.wrap (0 - c))
    simp only [lapF, Int.toNat_natCast]
    rw [mget_mset s3 hb ha, if_neg (fun hh => hi'.2 ⟨hh.2.symm, hh.1.symm⟩), mget_mset s2 ha hb, if_neg (fun hh => hi'.1 ⟨hh.1.symm, hh.2.symm⟩), mget_mset s1 hb hb, if_neg (by omega), mget_mset hM.1 ha ha, if_neg (by omega)]
    exact hM.2 p q hpq hp hq fun j hj => hno j (by omega)
  · have := hlt j hj
    omega
  · have := hlt j hj
    omega
theorem lapInv_zero (n : Nat) (xs : List EdgeV) : LapInv n xs 0 (zeroM n) := ⟨sq_zero n, fun p q _ _ _ _ => mget_zero n p q⟩
theorem lap_both (n : Nat) (xs : List EdgeV) (h : GraphOk n xs) : spec_l16Rows.F (((n : Int), xs), ()) = some ((lap n xs, ()), ()) ∧ impl_laplacian.F (((n : Int), xs), ()) = some ((lap n xs, ()), ()) := by
  have hn : n ≤ 12 := by have := h.2.1; omega
  have hx : xs.length ≤ 24 := h.2.2.1
  have edge : ∀ i, i < xs.length → ∀ M, LapInv n xs i M → (0 ≤ (xs.getD i (0, 0, 0)).1 ∧ (xs.getD i (0, 0, 0)).1 < (n : Int)) ∧ (0 ≤ (xs.getD i (0, 0, 0)).2.1 ∧ (xs.getD i (0, 0, 0)).2.1 < (n : Int)) := fun i hi M hM => by
    obtain ⟨h1, h2, h3, -⟩ := h.2.2.2 i hi
    omega
  have row : ∀ {M : List (List Int)} {a : Int}, Sq n M → 0 ≤ a → a < (n : Int) → (M.getD a.toNat []).length = n := fun hM h1 h2 => hM.2 _ (by omega)
  constructor
  · refine spec_l16Rows.of _ _ ?_
    obtain ⟨M, hM, hg⟩ := Goes.loop (fun k i (s : List (List Int)) => spec_l16Rows.l3 k n xs (i : Int) s) n (fun i s => s = List.replicate i (List.replicate n 0)) (fun i s hi h2 => ⟨s ++ [List.replicate n 0], by rw [h2, List.replicate_succ'], Goes.succ fun k => by
      rw [spec_l16Rows.l3_eq, if_pos (ltI.2 hi), if_pos (by simp only [bigN]; omega), if_pos (by rw [h2]; simp only [List.length_replicate, List.length_cons, List.length_nil, bigA]; omega), wrapN (by omega)]
      simp only [Int.toNat_natCast]⟩) 0 [] (Nat.zero_le _) rfl
    obtain ⟨M2, ⟨hM2, -⟩, hg2⟩ := Goes.loop (fun k i (s : List (List Int)) => spec_l16Rows.l7 k n xs (i : Int) s) xs.length (fun i s => s = (xs.take i).foldl lapF (zeroM n) ∧ LapInv n xs i s) (fun i s hi ⟨h2, h3⟩ => by
      obtain ⟨h4, h5, h6⟩ := lapInv_step h hi h3
      obtain ⟨⟨a0, a1⟩, b0, b1⟩ := edge i hi s h3
      refine ⟨lapF s (xs.getD i (0, 0, 0)), ⟨by rw [List.take_add_one, List.getElem?_eq_getElem hi, Option.toList_some, List.foldl_append, ← h2, getD_eq hi]; rfl, h4⟩, Goes.succ fun k => ?_⟩
      have E := spec_l16Rows.l7_eq k n xs (i : Int) s
      obtain ⟨e, he⟩ : ∃ e, xs.getD i (0, 0, 0) = e := ⟨_, rfl⟩
      simp only [Int.toNat_natCast, he] at E h5 h6 a0 a1 b0 b1 ⊢
      obtain ⟨a, b, c⟩ := e
      simp only [] at E h5 h6 a0 a1 b0 b1 ⊢
      obtain ⟨a, rfl⟩ := Int.eq_ofNat_of_zero_le a0
      obtain ⟨b, rfl⟩ := Int.eq_ofNat_of_zero_le b0
      have hab : a ≠ b := by
        have := (h.2.2.2 i hi).2.1
        rw [he] at this
        simp only [] at this
        omega
      simp only [Int.toNat_natCast] at E h5 h6
      have ha : a < n := by omega
      have hb : b < n := by omega
      have s1 := sq_mset h3.1 a a (IntKind.i64.wrap (mget s a a + c))
      have s2 := sq_mset s1 b b (IntKind.i64.wrap (mget (mset s a a (IntKind.i64.wrap (mget s a a + c))) b b + c))
      have s3 := sq_mset s2 a b (IntKind.i64.wrap (0 - c))
      have g1 : mget (mset (mset s a a (IntKind.i64.wrap (mget s a a + c))) b b (IntKind.i64.wrap (mget (mset s a a (IntKind.i64.wrap (mget s a a + c))) b b + c))) a b = 0 := by
        rw [mget_mset s1 hb hb, if_neg (by omega), mget_mset h3.1 ha ha, if_neg (by omega)]; exact h5
      have g2 : mget (mset (mset (mset s a a (IntKind.i64.wrap (mget s a a + c))) b b (IntKind.i64.wrap (mget (mset s a a (IntKind.i64.wrap (mget s a a + c))) b b + c))) a b (IntKind.i64.wrap (0 - c))) b a = 0 := by
        rw [mget_mset s2 ha hb, if_neg (by omega), mget_mset s1 hb hb, if_neg (by omega), mget_mset h3.1 ha ha, if_neg (by omega)]; exact h6
      simp only [← mget_def, ← mset_def, g1, g2, h3.1.1, h3.1.2 a ha, s1.1, s1.2 b hb, s2.1, s2.2 a ha, s3.1, s3.2 b hb, if_pos (show 0 ≤ (a : Int) ∧ (a : Int) < (n : Int) by omega), if_pos (show 0 ≤ (b : Int) ∧ (b : Int) < (n : Int) by omega), if_pos (ltI.2 hi), if_pos (idxI.2 hi), wrapN (show i < 4611686018427387904 by omega)] at E
      rw [E]
      simp only [lapF, Int.toNat_natCast]) 0 (zeroM n) (Nat.zero_le _) ⟨rfl, lapInv_zero n xs⟩
    rw [List.take_of_length_le (Nat.le_refl _)] at hM2
    subst hM hM2
    refine Ev.of_eq (hg _ ((hg2 _ ((Ev.const _).succ fun k => ?_)).succ fun k => ?_)) fun k => rfl
    · rw [spec_l16Rows.l7_eq, if_neg (by simp)]; rfl
    · rw [spec_l16Rows.l3_eq, if_neg (by simp)]; rfl
  · refine impl_laplacian.of _ _ ?_
    have hg := Goes.fill (L := fun k i (s : List (List Int)) => impl_laplacian.l3 k n (i : Int) n xs s) (zeroM n) ([] : List Int) (fun k i s hi hs => by
      have hi' : i < n := by simpa [zeroM] using hi
      have hs' : s.length = n := by simpa [zeroM] using hs
      rw [impl_laplacian.l3_eq, if_pos (ltI.2 hi'), if_pos (by simp only [bigN]; omega), if_pos (by omega), wrapN (by omega)]
      simp only [Int.toNat_natCast]
      congr 1
      simp [zeroM, List.getD_eq_getElem?_getD, hi']) (List.replicate n []) (by simp [zeroM])
    obtain ⟨M2, ⟨hM2, -⟩, hg2⟩ := Goes.loop (fun k i (s : List (List Int)) => impl_laplacian.l8 k xs xs.length (i : Int) s) xs.length (fun i s => s = (xs.take i).foldl lapF (zeroM n) ∧ LapInv n xs i s) (fun i s hi ⟨h2, h3⟩ => by
      obtain ⟨h4, -, -⟩ := lapInv_step h hi h3
      obtain ⟨⟨a0, a1⟩, b0, b1⟩ := edge i hi s h3
      refine ⟨lapF s (xs.getD i (0, 0, 0)), ⟨by rw [List.take_add_one, List.getElem?_eq_getElem hi, Option.toList_some, List.foldl_append, ← h2, getD_eq hi]; rfl, h4⟩, Goes.succ fun k => ?_⟩
      have E := impl_laplacian.l8_eq k xs xs.length (i : Int) s
      obtain ⟨e, he⟩ : ∃ e, xs.getD i (0, 0, 0) = e := ⟨_, rfl⟩
      simp only [Int.toNat_natCast, he] at E a0 a1 b0 b1 ⊢
      obtain ⟨a, b, c⟩ := e
      simp only [] at E a0 a1 b0 b1 ⊢
      obtain ⟨a, rfl⟩ := Int.eq_ofNat_of_zero_le a0
      obtain ⟨b, rfl⟩ := Int.eq_ofNat_of_zero_le b0
      simp only [Int.toNat_natCast] at E
      have ha : a < n := by omega
      have hb : b < n := by omega
      have s1 := sq_mset h3.1 a a (IntKind.i64.wrap (mget s a a + c))
      have s2 := sq_mset s1 b b (IntKind.i64.wrap (mget (mset s a a (IntKind.i64.wrap (mget s a a + c))) b b + c))
      have s3 := sq_mset s2 a b (IntKind.i64.wrap (0 - c))
      simp only [← mget_def, ← mset_def, h3.1.1, h3.1.2 a ha, s1.1, s1.2 b hb, s2.1, s2.2 a ha, s3.1, s3.2 b hb, if_pos (show 0 ≤ (a : Int) ∧ (a : Int) < (n : Int) by omega), if_pos (show 0 ≤ (b : Int) ∧ (b : Int) < (n : Int) by omega), if_pos (ltI.2 hi), if_pos (idxI.2 hi), wrapN (show i < 4611686018427387904 by omega)] at E
      rw [E]
      simp only [lapF, Int.toNat_natCast]) 0 (zeroM n) (Nat.zero_le _) ⟨rfl, lapInv_zero n xs⟩
    rw [List.take_of_length_le (Nat.le_refl _)] at hM2
    subst hM2
    refine Ev.of_eq (hg _ ((hg2 _ ((Ev.const _).succ fun k => ?_)).succ fun k => ?_)) fun k => ?_
    · rw [impl_laplacian.l8_eq, if_neg (by simp)]; rfl
    · rw [impl_laplacian.l3_eq, if_neg (by simp [zeroM])]; rfl
    · rw [impl_laplacian.T, if_pos (by simp only [bigN]; omega)]
      simp only [Int.toNat_natCast, List.length_replicate]
      rfl
def Marked (ys : List Int) (k : Int) : Prop := ∀ j, j < ys.length → ys.getD j 0 = k + j
theorem laws_markInt64S.val (xs : List Int) (k0 : Int) (h0 : 0 ≤ k0) (h1 : k0 + xs.length ≤ 1099511627776) : ∃ ys, laws_markInt64S.F (xs, k0, ()) = some ((k0 + xs.length, ()), (ys, ())) ∧ ys.length = xs.length ∧ Marked ys k0 := by
  obtain ⟨⟨v, ys⟩, ⟨hv, hl, hm⟩, hg⟩ := Goes.loop (R := (Int × Unit) × (List Int × Unit)) (fun k i (s : Int × List Int) => laws_markInt64S.l2 k s.1 (i : Int) s.2) xs.length (fun i s => s.1 = k0 + i ∧ s.2.length = xs.length ∧ ∀ j, j < i → s.2.getD j 0 = k0 + j)
    (fun i s hi ⟨h2, h3, h4⟩ => ⟨(s.1 + 1, s.2.set i s.1), ⟨by simp only []; omega, by simp [h3], fun j hj => by
      simp only [List.getD_eq_getElem?_getD, List.getElem?_set]
      by_cases hij : i = j
      · subst hij; simp [h3, hi, h2]
      · have := h4 j (by omega)
        simp only [List.getD_eq_getElem?_getD] at this
        simp [hij, this]⟩, Goes.succ fun k => by
      rw [laws_markInt64S.l2_eq, if_pos (by simp; omega), if_pos (by omega), wrapI (by omega) (by omega), wrapN (by omega)]
      simp only [Int.toNat_natCast]⟩) 0 (k0, xs) (Nat.zero_le _) ⟨by simp, rfl, fun j hj => by omega⟩
  simp only [] at hv hl hm
  refine ⟨ys, laws_markInt64S.of _ _ ((hg _ ((Ev.const _).succ fun k => ?_)).of_eq fun k => rfl), hl, fun j hj => hm j (by omega)⟩
  rw [laws_markInt64S.l2_eq, if_neg (by simp; omega), hv]
theorem laws_heldInt64S.val (ys : List Int) (k0 : Int) (h0 : 0 ≤ k0) (h1 : k0 + ys.length ≤ 1099511627776) (hm : Marked ys k0) : laws_heldInt64S.F (ys, k0, ()) = some ((k0 + ys.length, ()), ()) := by
  obtain ⟨v, hv, hg⟩ := Goes.loop (R := (Int × Unit) × Unit) (fun k i (s : Int) => laws_heldInt64S.l2 k ys s (i : Int)) ys.length (fun i s => s = k0 + i)
    (fun i s hi h2 => ⟨s + 1, by omega, Goes.succ fun k => by
      rw [laws_heldInt64S.l2_eq, if_pos (ltI.2 hi), if_pos (idxI.2 hi), if_neg (by simp only [Int.toNat_natCast]; rw [hm i hi, h2]; simp), wrapI (by omega) (by omega), wrapN (by omega)]⟩) 0 k0 (Nat.zero_le _) (by simp)
  refine laws_heldInt64S.of _ _ ((hg _ ((Ev.const _).succ fun k => ?_)).of_eq fun k => rfl)
  rw [laws_heldInt64S.l2_eq, if_neg (by simp), hv]
def offs (xs : List (List Int)) (i : Nat) : Nat := ((xs.take i).map List.length).sum
theorem offs_succ {xs : List (List Int)} {i : Nat} (h : i < xs.length) : offs xs (i + 1) = offs xs i + (xs.getD i []).length := by
  unfold offs
  rw [List.take_add_one, List.getElem?_eq_getElem h, Option.toList_some, List.map_append, List.sum_append, getD_eq h]
  simp
theorem offs_le {xs : List (List Int)} {i j : Nat} (h : i ≤ j) : offs xs i ≤ offs xs j := by
  induction h with
  | refl => exact Nat.le_refl _
  | @step m _ ih =>
    by_cases hm : m < xs.length
    · rw [Nat.succ_eq_add_one, offs_succ hm]; omega
    · have : offs xs (m + 1) = offs xs m := by unfold offs; rw [List.take_of_length_le (by omega), List.take_of_length_le (by omega)]
      rw [Nat.succ_eq_add_one, this]; exact ih
theorem laws_markInt64SS.val (xs : List (List Int)) (k0 : Int) (h0 : 0 ≤ k0) (hx : xs.length < 4611686018427387904) (h1 : k0 + offs xs xs.length ≤ 1099511627776) :
    ∃ ys, laws_markInt64SS.F (xs, k0, ()) = some ((k0 + offs xs xs.length, ()), (ys, ())) ∧ ys.length = xs.length ∧ ∀ j, j < xs.length → (ys.getD j []).length = (xs.getD j []).length ∧ Marked (ys.getD j []) (k0 + offs xs j) := by
  obtain ⟨⟨v, ys⟩, ⟨hv, hl, hm, -⟩, hg⟩ := Goes.loop (R := (Int × Unit) × (List (List Int) × Unit)) (fun k i (s : Int × List (List Int)) => laws_markInt64SS.l2 k s.1 (i : Int) s.2) xs.length
    (fun i s => s.1 = k0 + offs xs i ∧ s.2.length = xs.length ∧ (∀ j, j < i → (s.2.getD j []).length = (xs.getD j []).length ∧ Marked (s.2.getD j []) (k0 + offs xs j)) ∧ ∀ j, i ≤ j → s.2.getD j [] = xs.getD j [])
    (fun i s hi ⟨h2, h3, h4, h5⟩ => by
      have hle := offs_le (xs := xs) (show i + 1 ≤ xs.length by omega)
      rw [offs_succ hi] at hle
      obtain ⟨ys, e1, e2, e3⟩ := laws_markInt64S.val (s.2.getD i []) s.1 (by omega) (by rw [h5 i (Nat.le_refl _), h2]; omega)
      rw [h5 i (Nat.le_refl _)] at e1 e2
      refine ⟨(s.1 + (xs.getD i []).length, s.2.set i ys), ⟨by simp only []; rw [offs_succ hi]; omega, by simp [h3], fun j hj => ?_, fun j hj => ?_⟩, Goes.succ fun k => ?_⟩
      · simp only [List.getD_eq_getElem?_getD, List.getElem?_set]
        by_cases hij : i = j
        · subst hij
          simp only [h3, hi, if_true, Option.getD_some]
          exact ⟨by rw [e2, List.getD_eq_getElem?_getD], by rw [← h2]; exact e3⟩
        · have := h4 j (by omega)
          simp only [List.getD_eq_getElem?_getD] at this
          simpa [hij] using this
      · have := h5 j (by omega)
        simp only [List.getD_eq_getElem?_getD, List.getElem?_set] at this ⊢
        rw [if_neg (by omega)]; exact this
      · rw [laws_markInt64SS.l2_eq, if_pos (by simp; omega), if_pos (by omega)]
        simp only [Int.toNat_natCast, h5 i (Nat.le_refl _), e1, Option.bind_some]
        rw [wrapN (by omega)]) 0 (k0, xs) (Nat.zero_le _) ⟨by simp [offs], rfl, fun j hj => by omega, fun _ _ => rfl⟩
  simp only [] at hv hl hm
  refine ⟨ys, laws_markInt64SS.of _ _ ((hg _ ((Ev.const _).succ fun k => ?_)).of_eq fun k => rfl), hl, hm⟩
  rw [laws_markInt64SS.l2_eq, if_neg (by simp; omega), hv]
theorem laws_heldInt64SS.val (xs ys : List (List Int)) (k0 : Int) (h0 : 0 ≤ k0) (hx : xs.length < 4611686018427387904) (h1 : k0 + offs xs xs.length ≤ 1099511627776) (hl : ys.length = xs.length)
    (hm : ∀ j, j < xs.length → (ys.getD j []).length = (xs.getD j []).length ∧ Marked (ys.getD j []) (k0 + offs xs j)) : laws_heldInt64SS.F (ys, k0, ()) = some ((k0 + offs xs xs.length, ()), ()) := by
  obtain ⟨v, hv, hg⟩ := Goes.loop (R := (Int × Unit) × Unit) (fun k i (s : Int) => laws_heldInt64SS.l2 k ys s (i : Int)) xs.length (fun i s => s = k0 + offs xs i)
    (fun i s hi h2 => by
      have hle := offs_le (xs := xs) (show i + 1 ≤ xs.length by omega)
      rw [offs_succ hi] at hle
      obtain ⟨e1, e2⟩ := hm i hi
      have e3 := laws_heldInt64S.val (ys.getD i []) s (by omega) (by rw [e1, h2]; omega) (by rw [h2]; exact e2)
      refine ⟨s + (xs.getD i []).length, by rw [offs_succ hi]; omega, Goes.succ fun k => ?_⟩
      rw [laws_heldInt64SS.l2_eq, if_pos (by simp; omega), if_pos (by omega)]
      simp only [Int.toNat_natCast, e3, Option.bind_some]
      rw [if_neg (by simp; omega), wrapN (by omega), e1]) 0 k0 (Nat.zero_le _) (by simp [offs])
  refine laws_heldInt64SS.of _ _ ((hg _ ((Ev.const _).succ fun k => ?_)).of_eq fun k => rfl)
  rw [laws_heldInt64SS.l2_eq, if_neg (by simp; omega), hv]
theorem marks2_both (xs : List (List Int)) (hx : xs.length < 4611686018427387904) (h1 : offs xs xs.length ≤ 1099511627775) : ∃ ys v, laws_markInt64SS.F (xs, 1, ()) = some ((v, ()), (ys, ())) ∧ laws_heldInt64SS.F (ys, 1, ()) = some ((v, ()), ()) ∧ 0 ≤ v := by
  obtain ⟨ys, h2, h3, h4⟩ := laws_markInt64SS.val xs 1 (by omega) hx (by omega)
  exact ⟨ys, _, h2, laws_heldInt64SS.val xs ys 1 (by omega) hx (by omega) h3 h4, by omega⟩
theorem laws_eqInt64SS.val (xs ys : List (List Int)) (hn : xs.length < 4611686018427387904) (hr : ∀ x ∈ xs, x.length < 4611686018427387904) (he : ∀ (xs ys : List Int), xs.length < 4611686018427387904 → ∃ b, laws_eqInt64S.F (xs, ys, ()) = some ((b, ()), ()) ∧ (b = true ↔ xs = ys)) : ∃ b, laws_eqInt64SS.F (xs, ys, ()) = some ((b, ()), ()) ∧ (b = true ↔ xs = ys) := by
  by_cases hl : xs.length = ys.length
  · obtain ⟨b, hb, hb'⟩ := Ev.allP (L := fun k i => laws_eqInt64SS.l4 k xs ys (i : Int)) (a := ()) (b := ()) (n := xs.length) (fun i => xs.getD i [] = ys.getD i []) true (fun i hi => by
      have E := fun k => laws_eqInt64SS.l4_eq k xs ys (i : Int)
      obtain ⟨c, hc, hc'⟩ := he (xs.getD i []) (ys.getD i []) (hr _ (getD_mem _ hi))
      simp only [if_pos (ltI.2 hi), if_pos (idxI.2 hi), if_pos (show 0 ≤ (i : Int) ∧ (i : Int) < (ys.length : Int) by omega), Int.toNat_natCast, hc, Option.bind_some, wrapN (show i < 4611686018427387904 by omega)] at E
      cases c with
      | true => exact .inl ⟨hc'.1 rfl, fun k => by rw [E]; rfl⟩
      | false => exact .inr ⟨fun h => (by have := hc'.2 h; cases this), fun k => by rw [E]; rfl⟩) ((Ev.const _).succ fun k => by rw [laws_eqInt64SS.l4_eq, if_neg (by simp)]) 0 (Nat.zero_le _)
    refine ⟨b, laws_eqInt64SS.of _ _ (hb.of_eq fun k => ?_), hb'.trans ⟨fun ⟨_, h⟩ => ?_, fun h => ⟨rfl, fun j _ _ => by rw [h]⟩⟩⟩
    · rw [laws_eqInt64SS.T, if_neg (by simp [hl])]; rfl
    · refine List.ext_getElem hl fun i h1 h2 => ?_
      have := h i (Nat.zero_le _) h1
      rwa [getD_eq h1, getD_eq h2] at this
  · refine ⟨false, laws_eqInt64SS.of _ _ ((Ev.const _).of_eq fun k => ?_), by simp; intro e; exact hl (by rw [e])⟩
    rw [laws_eqInt64SS.T, if_pos (by simp; omega)]
theorem laws_eqInt64S.val (xs ys : List Int) (hn : xs.length < 4611686018427387904) : ∃ b, laws_eqInt64S.F (xs, ys, ()) = some ((b, ()), ()) ∧ (b = true ↔ xs = ys) := by
  by_cases hl : xs.length = ys.length
  · obtain ⟨b, hb, hb'⟩ := Ev.all (L := fun k i => laws_eqInt64S.l4 k xs ys (i : Int)) (a := ()) (b := ()) (n := xs.length) (fun i => xs.getD i 0 == ys.getD i 0) (fun k i hi => by
      rw [laws_eqInt64S.l4_eq, if_pos (ltI.2 hi), if_pos (idxI.2 hi), if_pos (by omega), wrapN (by omega)]
      simp only [Int.toNat_natCast]
      exact ite_nb _ _ _) (fun k => by rw [laws_eqInt64S.l4_eq, if_neg (by simp)]) 0 (Nat.zero_le _)
    refine ⟨b, laws_eqInt64S.of _ _ (hb.of_eq fun k => ?_), by rw [hb', all_eq hl (fun x y => x == y) (by simp)]⟩
    rw [laws_eqInt64S.T, if_neg (by simp [hl])]
    rfl
  · refine ⟨false, laws_eqInt64S.of _ _ ((Ev.const _).of_eq fun k => ?_), by simp; intro e; exact hl (by rw [e])⟩
    rw [laws_eqInt64S.T, if_pos (by simp; omega)]
theorem laws_markEdgeS.val (xs : List EdgeV) (k0 : Int) (h0 : 0 ≤ k0) (h1 : k0 + 3 * xs.length ≤ 1099511627776) : ∃ ys, laws_markEdgeS.F (xs, k0, ()) = some ((k0 + 3 * xs.length, ()), (ys, ())) := by
  obtain ⟨⟨v, ys⟩, ⟨hv, hl⟩, hg⟩ := Goes.loop (R := (Int × Unit) × (List EdgeV × Unit)) (fun k i (s : Int × List EdgeV) => laws_markEdgeS.l2 k s.1 (i : Int) s.2) xs.length (fun i s => s.1 = k0 + 3 * i ∧ s.2.length = xs.length)
    (fun i s hi ⟨h2, h3⟩ => by
      have E := fun k => laws_markEdgeS.l2_eq k s.1 (i : Int) s.2
      simp only [if_pos (show decide ((i : Int) < (s.2.length : Int)) = true by simp; omega), if_pos (show 0 ≤ (i : Int) ∧ (i : Int) < (s.2.length : Int) by omega), List.length_set,
        wrapI (show -9223372036854775808 ≤ s.1 + 1 by omega) (show s.1 + 1 ≤ 9223372036854775807 by omega), wrapI (show -9223372036854775808 ≤ s.1 + 1 + 1 by omega) (show s.1 + 1 + 1 ≤ 9223372036854775807 by omega), wrapI (show -9223372036854775808 ≤ s.1 + 1 + 1 + 1 by omega) (show s.1 + 1 + 1 + 1 ≤ 9223372036854775807 by omega), wrapN (show i < 4611686018427387904 by omega)] at E
      exact ⟨(s.1 + 1 + 1 + 1, _), ⟨by simp only []; omega, by simp [h3]⟩, Goes.succ fun k => E k⟩) 0 (k0, xs) (Nat.zero_le _) ⟨by simp, rfl⟩
  simp only [] at hv hl
  refine ⟨ys, laws_markEdgeS.of _ _ ((hg _ ((Ev.const _).succ fun k => ?_)).of_eq fun k => rfl)⟩
  rw [laws_markEdgeS.l2_eq, if_neg (by simp; omega), hv]
theorem laws_markGraph.val (n : Int) (xs : List EdgeV) (h1 : 1 + 3 * xs.length ≤ 1099511627776) : ∃ v m, laws_markGraph.F ((n, xs), 1, ()) = some ((v, ()), m) ∧ 0 ≤ v := by
  obtain ⟨ys, hy⟩ := laws_markEdgeS.val xs 1 (by omega) (by omega)
  exact ⟨1 + 3 * (xs.length : Int), _, by rw [laws_markGraph.eq, laws_markGraph.T, hy]; rfl, by omega⟩
theorem laplacian_both (n : Int) (xs : List EdgeV) (hn : xs.length < 4611686018427387904) : ∃ M c, spec_LaplacianOf.F ((n, xs), ()) = some ((M, (c, ())), ()) ∧ impl_LaplacianOf.F ((n, xs), ()) = some ((M, (c, ())), ()) ∧ (M = [] ∨ ∃ m : Nat, m ≤ 12 ∧ Sq m M) := by
  obtain ⟨v1, h1, h1'⟩ := spec_l16Ok.val n xs hn
  obtain ⟨v2, h2, h2'⟩ := impl_ValidGraph.val n xs hn
  obtain rfl : v2 = v1 := Bool.eq_iff_iff.2 (h2'.trans h1'.symm)
  rw [spec_LaplacianOf.eq, spec_LaplacianOf.T, impl_LaplacianOf.eq, impl_LaplacianOf.T, h1, h2]
  simp only [Option.bind_some]
  cases v2 with
  | false => exact ⟨[], 1, rfl, rfl, .inl rfl⟩
  | true =>
    have hg := h1'.1 rfl
    obtain ⟨m, rfl⟩ := Int.eq_ofNat_of_zero_le (show 0 ≤ n by have := hg.1; omega)
    obtain ⟨k1, k2⟩ := lap_both m xs hg
    refine ⟨lap m xs, 0, ?_, ?_, .inr ⟨m, by have := hg.2.1; omega, sq_lap m xs⟩⟩
    · show (spec_l16Rows.F (((m : Int), xs), ())).bind _ = _
      rw [k1]; rfl
    · show (impl_laplacian.F (((m : Int), xs), ())).bind _ = _
      rw [k2]; rfl
theorem sq_offs {m : Nat} {M : List (List Int)} (h : Sq m M) : ∀ i, i ≤ m → offs M i = i * m := by
  intro i
  induction i with
  | zero => intro _; simp [offs]
  | succ i ih => intro hi; rw [offs_succ (by rw [h.1]; omega), ih (by omega), h.2 i (by omega), Nat.add_mul, Nat.one_mul]
theorem sq_small {M : List (List Int)} (h : M = [] ∨ ∃ m : Nat, m ≤ 12 ∧ Sq m M) : M.length ≤ 12 ∧ offs M M.length ≤ 144 ∧ ∀ x ∈ M, x.length ≤ 12 := by
  rcases h with rfl | ⟨m, hm, hs⟩
  · simp [offs]
  · refine ⟨by rw [hs.1]; exact hm, ?_, fun x hx => ?_⟩
    · rw [hs.1, sq_offs hs m (Nat.le_refl _)]
      exact Nat.mul_le_mul hm hm
    · obtain ⟨i, hi, rfl⟩ := List.getElem_of_mem hx
      rw [← getD_eq (d := []) hi, hs.2 i (by rw [← hs.1]; exact hi)]; exact hm
theorem laws_FnExactLaplacianOf.pure (d : Ins laws_FnExactLaplacianOf.sig.ps) (h : wfIns laws_FnExactLaplacianOf.sig.ps d) : ∃ mu, laws_FnExactLaplacianOf.F d = some ((true, ()), mu) := by
  obtain ⟨⟨n, xs⟩, ⟨⟩⟩ := d
  obtain ⟨⟨_, hx, _⟩, _⟩ := h
  refine ⟨(), ?_⟩
  rw [laws_FnExactLaplacianOf.eq, laws_FnExactLaplacianOf.T, laws_szGraph.val n xs 1048576 (by omega) (by omega) hx]
  simp only [Option.bind_some]
  by_cases h1 : (1048576 : Int) < xs.length
  · rw [if_pos h1, if_pos (by simp)]
  rw [if_neg h1, if_neg (by simp; omega)]
  obtain ⟨M, c, hb, hc, hM⟩ := laplacian_both n xs (by omega)
  obtain ⟨l1, l2, l3⟩ := sq_small hM
  obtain ⟨e1, he1, he1'⟩ := laws_eqGraph.val n n xs xs (by omega)
  have r1 : e1 = true := he1'.2 ⟨rfl, rfl⟩
  obtain ⟨e2, he2, he2'⟩ := laws_eqInt64SS.val M M (by omega) (fun x hx => by have := l3 x hx; omega) laws_eqInt64S.val
  have r2 : e2 = true := he2'.2 rfl
  obtain ⟨v, mm, hv, hv0⟩ := laws_markGraph.val n xs (by omega)
  obtain ⟨ys, u, hu, hh, hu0⟩ := marks2_both M (by omega) (by omega)
  have n1 : ¬ v < 0 := by omega
  have n2 : ¬ u < 0 := by omega
  simp [laws_toGraph.val n xs (by omega), hb, hc, he1, r1, he2, r2, hv, hu, hh, n1, n2]
end Go.Proofs.Ytlpmcplimfioeaa
