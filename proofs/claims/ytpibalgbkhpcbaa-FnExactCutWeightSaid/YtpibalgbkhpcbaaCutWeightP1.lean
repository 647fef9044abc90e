/- What the functions answer. -/
import Derived.Test.YtpibalgbkhpcbaaCutWeightG1
namespace Go.Proofs.Ytpibalgbkhpcbaa
open Go Go.Vm
set_option linter.unusedVariables false
set_option linter.unusedSimpArgs false
abbrev EdgeV := Int × Int × Int
theorem wrapI {x : Int} (h1 : -9223372036854775808 ≤ x) (h2 : x ≤ 9223372036854775807) : IntKind.i64.wrap x = x := by
  have e : (2 : Int) ^ (IntKind.i64).bits = 18446744073709551616 := by decide
  have e2 : (2 : Int) ^ ((IntKind.i64).bits - 1) = 9223372036854775808 := by decide
  unfold IntKind.wrap
  simp only [e, e2, show IntKind.i64.signed = true from rfl, Bool.true_and, decide_eq_true_eq]
  split <;> omega
theorem wrapN {i : Nat} (h : i < 4611686018427387904) : IntKind.i64.wrap ((i : Int) + 1) = ((i + 1 : Nat) : Int) := by
  rw [wrapI (by omega) (by omega)]; omega
theorem idxI {α : Type} {xs : List α} {i : Nat} : (0 ≤ (i : Int) ∧ (i : Int) < (xs.length : Int)) ↔ i < xs.length := by omega
theorem ltI {i n : Nat} : (decide ((i : Int) < (n : Int))) = true ↔ i < n := by simp
theorem getD_eq {α : Type} {xs : List α} {i : Nat} {d : α} (h : i < xs.length) : xs.getD i d = xs[i] := by
  rw [List.getD_eq_getElem?_getD, List.getElem?_eq_getElem h]; rfl
theorem eqT_edge (x y : EdgeV) : eqT TEdge x y = true ↔ x = y := by
  obtain ⟨a, b, c⟩ := x
  obtain ⟨a', b', c'⟩ := y
  simp [eqT]
def Goes {R : Type} (A B : Nat → Option R) : Prop := ∀ r, Ev B r → Ev A r
theorem Goes.refl {R : Type} (A : Nat → Option R) : Goes A A := fun _ h => h
theorem Goes.trans {R : Type} {A B C : Nat → Option R} (h : Goes A B) (k : Goes B C) : Goes A C := fun r hr => h r (k r hr)
theorem Goes.succ {R : Type} {A B : Nat → Option R} (e : ∀ k, A (k + 1) = B k) : Goes A B := fun _ h => h.succ e
theorem Goes.of_eq {R : Type} {A B : Nat → Option R} (e : ∀ k, A k = B k) : Goes A B := fun _ h => h.of_eq e
theorem Ev.loop {σ R : Type} (L : Nat → Nat → σ → Option R) (n : Nat) (I : Nat → σ → Prop) (Q : R → Prop)
    (hstep : ∀ i s, i < n → I i s → (∃ r, Ev (fun k => L k i s) r ∧ Q r) ∨ (∃ s', I (i + 1) s' ∧ Goes (fun k => L k i s) (fun k => L k (i + 1) s')))
    (hend : ∀ s, I n s → ∃ r, Ev (fun k => L k n s) r ∧ Q r) : ∀ i s, i ≤ n → I i s → ∃ r, Ev (fun k => L k i s) r ∧ Q r := by
  have key : ∀ j i s, i + j = n → I i s → ∃ r, Ev (fun k => L k i s) r ∧ Q r := by
    intro j
    induction j with
    | zero => intro i s hi h; obtain rfl : i = n := by omega
              exact hend s h
    | succ j ih =>
      intro i s hi h
      rcases hstep i s (by omega) h with h1 | ⟨s', h1, h2⟩
      · exact h1
      · obtain ⟨r, hr, hq⟩ := ih (i + 1) s' (by omega) h1
        exact ⟨r, h2 r hr, hq⟩
  exact fun i s hi h => key (n - i) i s (by omega) h
theorem Goes.loop {σ R : Type} (L : Nat → Nat → σ → Option R) (n : Nat) (I : Nat → σ → Prop)
    (hstep : ∀ i s, i < n → I i s → ∃ s', I (i + 1) s' ∧ Goes (fun k => L k i s) (fun k => L k (i + 1) s')) : ∀ i s, i ≤ n → I i s → ∃ s', I n s' ∧ Goes (fun k => L k i s) (fun k => L k n s') := by
  have key : ∀ j i s, i + j = n → I i s → ∃ s', I n s' ∧ Goes (fun k => L k i s) (fun k => L k n s') := by
    intro j
    induction j with
    | zero => intro i s hi h; obtain rfl : i = n := by omega
              exact ⟨s, h, Goes.refl _⟩
    | succ j ih =>
      intro i s hi h
      obtain ⟨s', h1, h2⟩ := hstep i s (by omega) h
      obtain ⟨s2, h3, h4⟩ := ih (i + 1) s' (by omega) h1
      exact ⟨s2, h3, h2.trans h4⟩
  exact fun i s hi h => key (n - i) i s (by omega) h
theorem Ev.all {A B : Type} {L : Nat → Nat → Option ((Bool × A) × B)} {a : A} {b : B} {n : Nat} (p : Nat → Bool) (hstep : ∀ k i, i < n → L (k + 1) i = if p i = true then L k (i + 1) else some ((false, a), b)) (hend : ∀ k, L (k + 1) n = some ((true, a), b)) (i : Nat) (hi : i ≤ n) :
    ∃ v, Ev (fun k => L k i) ((v, a), b) ∧ (v = true ↔ ∀ j, i ≤ j → j < n → p j = true) := by
  have key : ∀ m i, i + m = n → ∃ v, Ev (fun k => L k i) ((v, a), b) ∧ (v = true ↔ ∀ j, i ≤ j → j < n → p j = true) := by
    intro m
    induction m with
    | zero => intro i hi; obtain rfl : i = n := by omega
              exact ⟨true, (Ev.const _).succ hend, by simp; intro j _ _; omega⟩
    | succ m ih =>
      intro i hi
      obtain ⟨v, hv, hv'⟩ := ih (i + 1) (by omega)
      cases hp : p i with
      | false => exact ⟨false, (Ev.const _).succ fun k => by rw [hstep k i (by omega), hp]; rfl, by simp; exact ⟨i, Nat.le_refl _, by omega, hp⟩⟩
      | true =>
        refine ⟨v, hv.succ fun k => by rw [hstep k i (by omega), hp]; rfl, hv'.trans ⟨fun h j hj hn => ?_, fun h j hj hn => h j (by omega) hn⟩⟩
        by_cases hij : j = i
        · rw [hij]; exact hp
        · exact h j (by omega) hn
  exact key (n - i) i (by omega)
theorem all_eq {α : Type} {xs ys : List α} (hl : xs.length = ys.length) (q : α → α → Bool) (hq : ∀ x y, q x y = true ↔ x = y) (d : α) : (∀ j, 0 ≤ j → j < xs.length → q (xs.getD j d) (ys.getD j d) = true) ↔ xs = ys := by
  constructor
  · intro h
    refine List.ext_getElem hl fun i h1 h2 => ?_
    have := (hq _ _).1 (h i (Nat.zero_le _) h1)
    rwa [getD_eq h1, getD_eq h2] at this
  · rintro rfl j _ _
    exact (hq _ _).2 rfl
theorem Goes.fill {α R : Type} {L : Nat → Nat → List α → Option R} (xs : List α) (d : α) (hstep : ∀ k i ys, i < xs.length → ys.length = xs.length → L (k + 1) i ys = L k (i + 1) (ys.set i (xs.getD i d))) (ys : List α) (hy : ys.length = xs.length) :
    Goes (fun k => L k 0 ys) (fun k => L k xs.length xs) := by
  obtain ⟨s, ⟨hs1, hs2⟩, hs3⟩ := Goes.loop L xs.length (fun i s => s.length = xs.length ∧ s.take i = xs.take i) (fun i s hi ⟨h1, h2⟩ => ⟨s.set i (xs.getD i d), ⟨by simp [h1], by
    rw [List.take_add_one, List.take_add_one, List.take_set_of_le (Nat.le_refl _), h2]
    simp [hi, h1, getD_eq hi]⟩, Goes.succ fun k => hstep k i s hi h1⟩) 0 ys (Nat.zero_le _) ⟨hy, by simp⟩
  have : s = xs := by
    rw [List.take_of_length_le (by omega), List.take_of_length_le (Nat.le_refl _)] at hs2
    exact hs2
  rw [this] at hs3
  exact hs3
theorem ite_nb {α : Type} (b : Bool) (x y : α) : (if (!b) = true then x else y) = if b = true then y else x := by cases b <;> rfl
theorem Ev.allP {A B : Type} {L : Nat → Nat → Option ((Bool × A) × B)} {a : A} {b : B} {n : Nat} (P : Nat → Prop) (e : Bool) (hstep : ∀ i, i < n → (P i ∧ ∀ k, L (k + 1) i = L k (i + 1)) ∨ (¬ P i ∧ ∀ k, L (k + 1) i = some ((false, a), b))) (hend : Ev (fun k => L k n) ((e, a), b)) (i : Nat) (hi : i ≤ n) :
    ∃ v, Ev (fun k => L k i) ((v, a), b) ∧ (v = true ↔ e = true ∧ ∀ j, i ≤ j → j < n → P j) := by
  have key : ∀ m i, i + m = n → ∃ v, Ev (fun k => L k i) ((v, a), b) ∧ (v = true ↔ e = true ∧ ∀ j, i ≤ j → j < n → P j) := by
    intro m
    induction m with
    | zero => intro i hi; obtain rfl : i = n := by omega
              exact ⟨e, hend, ⟨fun h => ⟨h, fun j h1 h2 => by omega⟩, fun h => h.1⟩⟩
    | succ m ih =>
      intro i hi
      obtain ⟨v, hv, hv'⟩ := ih (i + 1) (by omega)
      rcases hstep i (by omega) with ⟨hp, h⟩ | ⟨hp, h⟩
      · refine ⟨v, hv.succ h, hv'.trans ⟨fun ⟨h1, h2⟩ => ⟨h1, fun j hj hn => ?_⟩, fun ⟨h1, h2⟩ => ⟨h1, fun j hj hn => h2 j (by omega) hn⟩⟩⟩
        by_cases hij : j = i
        · rw [hij]; exact hp
        · exact h2 j (by omega) hn
      · exact ⟨false, (Ev.const _).succ h, ⟨fun h => (by cases h), fun ⟨_, h2⟩ => absurd (h2 i (Nat.le_refl _) (by omega)) hp⟩⟩
  exact key (n - i) i (by omega)
theorem wrapP {i : Nat} (h : 0 < i) (h2 : i < 4611686018427387904) : IntKind.i64.wrap ((i : Int) - 1) = ((i - 1 : Nat) : Int) := by
  rw [wrapI (by omega) (by omega)]; omega
theorem Goes.foldl {α σ R : Type} {L : Nat → Nat → σ → Option R} (xs : List α) (d : α) (f : σ → α → σ) (hstep : ∀ k i s, i < xs.length → L (k + 1) i s = L k (i + 1) (f s (xs.getD i d))) (s : σ) : Goes (fun k => L k 0 s) (fun k => L k xs.length (xs.foldl f s)) := by
  have key : ∀ m i s, i + m = xs.length → Goes (fun k => L k i s) (fun k => L k xs.length ((xs.drop i).foldl f s)) := by
    intro m
    induction m with
    | zero => intro i s hi; obtain rfl : i = xs.length := by omega
              rw [List.drop_length]; exact Goes.refl _
    | succ m ih =>
      intro i s hi
      have h : i < xs.length := by omega
      refine (Goes.succ fun k => hstep k i s h).trans ?_
      rw [List.drop_eq_getElem_cons h, List.foldl_cons, ← getD_eq (d := d) h]
      exact ih (i + 1) _ (by omega)
  have := key xs.length 0 s (by omega)
  simpa using this
theorem getD_mem {α : Type} {xs : List α} {i : Nat} (d : α) (h : i < xs.length) : xs.getD i d ∈ xs := by rw [getD_eq h]; exact List.getElem_mem h
theorem Ev.allF {A B : Type} {L : Nat → Nat → Option ((Bool × A) × B)} {a : A} {b : B} {n : Nat} (P : Nat → Prop) (e : Bool) (i0 : Nat) (hstep : ∀ i, i0 ≤ i → i < n → (P i ∧ ∀ k, L (k + 1) i = L k (i + 1)) ∨ (¬ P i ∧ ∀ k, L (k + 1) i = some ((false, a), b))) (hend : Ev (fun k => L k n) ((e, a), b)) (i : Nat) (h0 : i0 ≤ i) (hi : i ≤ n) :
    ∃ v, Ev (fun k => L k i) ((v, a), b) ∧ (v = true ↔ e = true ∧ ∀ j, i ≤ j → j < n → P j) := by
  have key : ∀ m i, i0 ≤ i → i + m = n → ∃ v, Ev (fun k => L k i) ((v, a), b) ∧ (v = true ↔ e = true ∧ ∀ j, i ≤ j → j < n → P j) := by
    intro m
    induction m with
    | zero => intro i h0 hi; obtain rfl : i = n := by omega
              exact ⟨e, hend, ⟨fun h => ⟨h, fun j h1 h2 => by omega⟩, fun h => h.1⟩⟩
    | succ m ih =>
      intro i h0 hi
      obtain ⟨v, hv, hv'⟩ := ih (i + 1) (by omega) (by omega)
      rcases hstep i h0 (by omega) with ⟨hp, h⟩ | ⟨hp, h⟩
      · refine ⟨v, hv.succ h, hv'.trans ⟨fun ⟨h1, h2⟩ => ⟨h1, fun j hj hn => ?_⟩, fun ⟨h1, h2⟩ => ⟨h1, fun j hj hn => h2 j (by omega) hn⟩⟩⟩
        by_cases hij : j = i
        · rw [hij]; exact hp
        · exact h2 j (by omega) hn
      · exact ⟨false, (Ev.const _).succ h, ⟨fun h => (by cases h), fun ⟨_, h2⟩ => absurd (h2 i (Nat.le_refl _) (by omega)) hp⟩⟩
  exact key (n - i) i h0 (by omega)
theorem laws_szEdgeS.val (xs : List EdgeV) (left : Int) (h0 : 0 ≤ left) (h1 : left ≤ 1048576) (hx : xs.length ≤ maxLen) :
    laws_szEdgeS.F (xs, left, ()) = some ((if left < xs.length then -1 else left - xs.length, ()), ()) := by
  have : xs.length ≤ 9223372036854775807 := hx
  rw [laws_szEdgeS.eq, laws_szEdgeS.T, wrapI (by omega) (by omega)]
  by_cases h : left < xs.length
  · rw [if_pos (by simp; omega), if_pos h]
  · rw [if_neg (by simp; omega), if_neg h]
theorem laws_szGraph.val (n : Int) (xs : List EdgeV) (left : Int) (h0 : 0 ≤ left) (h1 : left ≤ 1048576) (hx : xs.length ≤ maxLen) :
    laws_szGraph.F ((n, xs), left, ()) = some ((if left < xs.length then -1 else left - xs.length, ()), ()) := by
  rw [laws_szGraph.eq, laws_szGraph.T, laws_szEdgeS.val xs left h0 h1 hx]
  simp only [Option.bind_some]
  by_cases h : left < xs.length
  · rw [if_pos h]; rfl
  · rw [if_neg h, if_neg (by simp; omega)]
theorem laws_toEdge.val (x : EdgeV) : laws_toEdge.F (x, ()) = some ((x, ()), ()) := by
  obtain ⟨a, b, c⟩ := x
  exact laws_toEdge.eq a b c
theorem laws_toEdgeS.val (xs : List EdgeV) (h : xs.length ≤ 1099511627776) : laws_toEdgeS.F (xs, ()) = some ((xs, ()), ()) := by
  refine laws_toEdgeS.of xs ?_
  have := Goes.fill (L := fun k i ys => laws_toEdgeS.l3 k xs (i : Int) ys) xs (0, 0, 0) (fun k i ys hi hy => by
    rw [laws_toEdgeS.l3_eq, if_pos (ltI.2 hi), if_pos (idxI.2 hi), laws_toEdge.val, Option.bind_some, if_pos (by omega), wrapN (by omega)]
    simp only [Int.toNat_natCast]) (List.replicate xs.length (0, 0, 0)) (by simp)
  refine Ev.of_eq (this _ ((Ev.const _).succ fun k => ?_)) fun k => ?_
  · rw [laws_toEdgeS.l3_eq, if_neg (by simp)]
  · rw [laws_toEdgeS.T, if_pos (by simp only [bigN]; omega)]; rfl
theorem laws_toGraph.val (n : Int) (xs : List EdgeV) (h : xs.length ≤ 1099511627776) : laws_toGraph.F ((n, xs), ()) = some (((n, xs), ()), ()) := by
  rw [laws_toGraph.eq, laws_toGraph.T, laws_toEdgeS.val xs h]; rfl
theorem laws_eqEdge.val (x y : EdgeV) : laws_eqEdge.F (x, y, ()) = some ((eqT TEdge x y, ()), ()) := by
  obtain ⟨a, b, c⟩ := x
  obtain ⟨a', b', c'⟩ := y
  rw [laws_eqEdge.eq, laws_eqEdge.T]
  by_cases h1 : a = a' <;> by_cases h2 : b = b' <;> by_cases h3 : c = c' <;> simp [eqT, h1, h2, h3]
theorem laws_eqEdgeS.val (xs ys : List EdgeV) (hn : xs.length < 4611686018427387904) : ∃ b, laws_eqEdgeS.F (xs, ys, ()) = some ((b, ()), ()) ∧ (b = true ↔ xs = ys) := by
  by_cases hl : xs.length = ys.length
  · obtain ⟨b, hb, hb'⟩ := Ev.all (L := fun k i => laws_eqEdgeS.l4 k xs ys (i : Int)) (a := ()) (b := ()) (n := xs.length) (fun i => eqT TEdge (xs.getD i (0, 0, 0)) (ys.getD i (0, 0, 0))) (fun k i hi => by
      rw [laws_eqEdgeS.l4_eq, if_pos (ltI.2 hi), if_pos (idxI.2 hi), if_pos (by omega), laws_eqEdge.val, Option.bind_some, wrapN (by omega)]
      simp only [Int.toNat_natCast]
      exact ite_nb _ _ _) (fun k => by rw [laws_eqEdgeS.l4_eq, if_neg (by simp)]) 0 (Nat.zero_le _)
    refine ⟨b, laws_eqEdgeS.of _ _ (hb.of_eq fun k => ?_), by rw [hb', all_eq hl _ eqT_edge]⟩
    rw [laws_eqEdgeS.T, if_neg (by simp [hl])]
    rfl
  · refine ⟨false, laws_eqEdgeS.of _ _ ((Ev.const _).of_eq fun k => ?_), by simp; intro e; exact hl (by rw [e])⟩
    rw [laws_eqEdgeS.T, if_pos (by simp; omega)]
theorem laws_eqGraph.val (n m : Int) (xs ys : List EdgeV) (hn : xs.length < 4611686018427387904) : ∃ b, laws_eqGraph.F ((n, xs), (m, ys), ()) = some ((b, ()), ()) ∧ (b = true ↔ n = m ∧ xs = ys) := by
  rw [laws_eqGraph.eq, laws_eqGraph.T]
  by_cases h : n = m
  · obtain ⟨b, hb, hb'⟩ := laws_eqEdgeS.val xs ys hn
    exact ⟨b, by rw [if_neg (by simp [h]), hb]; cases b <;> rfl, by simp [h, hb']⟩
  · exact ⟨false, by rw [if_pos (by simp [h])], by simp [h]⟩
theorem spec_l00In.val (n lo hi : Int) : spec_l00In.F (n, lo, hi, ()) = some ((decide (lo ≤ n ∧ n ≤ hi), ()), ()) := by
  rw [spec_l00In.eq, spec_l00In.T]
  by_cases h : lo ≤ n
  · rw [if_pos (by simp [h])]; simp [h]
  · rw [if_neg (by simp [h])]; simp [h]
theorem impl_within.val (n lo hi : Int) : impl_within.F (n, lo, hi, ()) = some ((decide (lo ≤ n ∧ n ≤ hi), ()), ()) := by
  rw [impl_within.eq, impl_within.T]
  by_cases h : lo ≤ n
  · rw [if_pos (by simp [h])]; simp [h]
  · rw [if_neg (by simp [h])]; simp [h]
def cmpI (x y : Int) : Int := if x < y then -1 else if x > y then 1 else 0
theorem cmp_Compare_int64.val (x y : Int) : cmp_Compare_int64.F (x, y, ()) = some ((cmpI x y, ()), ()) := by
  rw [cmp_Compare_int64.eq, cmp_Compare_int64.T, cmp_isNaN_int64.eq, cmp_isNaN_int64.T, cmp_isNaN_int64.eq, cmp_isNaN_int64.T]
  simp only [Option.bind_some, bne_self_eq_false, Bool.false_eq_true, if_false, decide_eq_true_eq, cmpI]
  repeat' split
  all_goals rfl
theorem cmp_Or_int.val2 (x y : Int) : cmp_Or_int.F ([x, y], ()) = some ((if x ≠ 0 then x else y, ()), ()) := by
  refine cmp_Or_int.of _ ⟨3, fun k hk => ?_⟩
  obtain ⟨k, rfl⟩ : ∃ j, k = j + 1 + 1 + 1 := ⟨k - 3, by omega⟩
  show cmp_Or_int.T (k + 1 + 1 + 1) [x, y] = _
  rw [cmp_Or_int.T, cmp_Or_int.l3_eq]
  by_cases hx : x = 0
  · subst hx
    simp only [List.length_cons, List.length_nil]
    rw [if_pos (by simp), if_pos (by simp), if_neg (by simp), cmp_Or_int.l3_eq]
    simp only [List.length_cons, List.length_nil]
    rw [wrapI (by omega) (by omega)]
    rw [if_pos (by simp), if_pos (by simp)]
    by_cases hy : y = 0
    · subst hy
      rw [if_neg (by simp), cmp_Or_int.l3_eq, wrapI (by omega) (by omega), if_neg (by simp)]; simp
    · rw [if_pos (by simp [hy])]; simp
  · simp only [List.length_cons, List.length_nil]
    rw [if_pos (by simp), if_pos (by simp), if_pos (by simp [hx])]
    simp [hx]
def EdgeOk (n : Int) (xs : List EdgeV) (j : Nat) : Prop :=
  0 ≤ (xs.getD j (0, 0, 0)).1 ∧ (xs.getD j (0, 0, 0)).1 < (xs.getD j (0, 0, 0)).2.1 ∧ (xs.getD j (0, 0, 0)).2.1 < n ∧ 1 ≤ (xs.getD j (0, 0, 0)).2.2 ∧ (xs.getD j (0, 0, 0)).2.2 ≤ 9 ∧
    (0 < j → (xs.getD (j - 1) (0, 0, 0)).1 < (xs.getD j (0, 0, 0)).1 ∨ (xs.getD (j - 1) (0, 0, 0)).1 = (xs.getD j (0, 0, 0)).1 ∧ (xs.getD (j - 1) (0, 0, 0)).2.1 < (xs.getD j (0, 0, 0)).2.1)
def GraphOk (n : Int) (xs : List EdgeV) : Prop := 1 ≤ n ∧ n ≤ 12 ∧ xs.length ≤ 24 ∧ ∀ j, j < xs.length → EdgeOk n xs j
theorem impl_compareEdges.val (x y : EdgeV) : ∃ r, impl_compareEdges.F (x, y, ()) = some ((r, ()), ()) ∧ (r < 0 ↔ x.1 < y.1 ∨ x.1 = y.1 ∧ x.2.1 < y.2.1) := by
  obtain ⟨a, b, c⟩ := x
  obtain ⟨a', b', c'⟩ := y
  refine ⟨if cmpI a a' ≠ 0 then cmpI a a' else cmpI b b', ?_, ?_⟩
  · rw [impl_compareEdges.eq, impl_compareEdges.T, cmp_Compare_int64.val, cmp_Compare_int64.val]
    simp only [Option.bind_some]
    rw [cmp_Or_int.val2]; rfl
  · show _ ↔ a < a' ∨ a = a' ∧ b < b'
    simp only [cmpI]
    by_cases h1 : a < a'
    · simp [h1]
    · by_cases h2 : a > a'
      · have : ¬ a = a' := by omega
        simp [h1, h2, this]
      · have : a = a' := by omega
        subst this
        by_cases h3 : b < b'
        · simp [h3]
        · by_cases h4 : b > b' <;> simp [h3, h4]
theorem spec_l16Ok.val (n : Int) (xs : List EdgeV) (hn : xs.length < 4611686018427387904) : ∃ v, spec_l16Ok.F ((n, xs), ()) = some ((v, ()), ()) ∧ (v = true ↔ GraphOk n xs) := by
  by_cases h : 1 ≤ n ∧ n ≤ 12
  · obtain ⟨v, hv, hv'⟩ := Ev.allP (L := fun k i => spec_l16Ok.l4 k n xs (i : Int)) (a := ()) (b := ()) (n := xs.length) (EdgeOk n xs) (decide ((xs.length : Int) ≤ 24)) (fun i hi => by
      obtain ⟨x, hx⟩ : ∃ x, x = xs.getD i (0, 0, 0) := ⟨_, rfl⟩
      have E := fun k => spec_l16Ok.l4_eq k n xs (i : Int)
      simp only [if_pos (ltI.2 hi), if_pos (idxI.2 hi), spec_l00In.val, Option.bind_some, wrapN (show i < 4611686018427387904 by omega), Int.toNat_natCast, ← hx, wrapI (show -9223372036854775808 ≤ n - 1 by omega) (show n - 1 ≤ 9223372036854775807 by omega)] at E
      unfold EdgeOk
      rw [← hx]
      clear hx
      obtain ⟨a, b, c⟩ := x
      simp only []
      by_cases h1 : 0 ≤ b ∧ b ≤ n - 1
      · simp only [if_neg (show ¬ (!decide (0 ≤ b ∧ b ≤ n - 1)) = true by simp [h1]), wrapI (show -9223372036854775808 ≤ b - 1 by omega) (show b - 1 ≤ 9223372036854775807 by omega)] at E
        by_cases h2 : 0 ≤ a ∧ a ≤ b - 1
        · simp only [if_neg (show ¬ (!decide (0 ≤ a ∧ a ≤ b - 1)) = true by simp [h2])] at E
          by_cases h3 : 1 ≤ c ∧ c ≤ 9
          · simp only [if_neg (show ¬ (!decide (1 ≤ c ∧ c ≤ 9)) = true by simp [h3])] at E
            by_cases h4 : 0 < i
            · simp only [if_pos (show decide ((i : Int) > 0) = true by simp; omega), wrapP h4 (show i < 4611686018427387904 by omega), if_pos (show 0 ≤ ((i - 1 : Nat) : Int) ∧ ((i - 1 : Nat) : Int) < (xs.length : Int) by omega), Int.toNat_natCast] at E
              generalize xs.getD (i - 1) (0, 0, 0) = y at *
              obtain ⟨a', b', c'⟩ := y
              simp only []
              by_cases h5 : a' > a
              · exact .inr ⟨by omega, fun k => by rw [E, if_pos (by simp [h5])]⟩
              · simp only [if_neg (show ¬ decide (a' > a) = true by simp; omega)] at E
                by_cases h6 : a' = a
                · subst h6
                  by_cases h7 : b' ≥ b
                  · exact .inr ⟨by omega, fun k => by rw [E, if_pos (by simp), if_pos (by simp [h7])]⟩
                  · exact .inl ⟨by omega, fun k => by rw [E, if_pos (by simp), if_neg (by simp; omega)]⟩
                · exact .inl ⟨by omega, fun k => by rw [E, if_neg (by simp [h6])]⟩
            · exact .inl ⟨by omega, fun k => by rw [E, if_neg (by simp; omega)]⟩
          · exact .inr ⟨by omega, fun k => by rw [E, if_pos (by simp; omega)]⟩
        · exact .inr ⟨by omega, fun k => by rw [E, if_pos (by simp; omega)]⟩
      · exact .inr ⟨by omega, fun k => by rw [E, if_pos (by simp; omega)]⟩) ((Ev.const _).succ fun k => by rw [spec_l16Ok.l4_eq, if_neg (by simp)]) 0 (Nat.zero_le _)
    refine ⟨v, spec_l16Ok.of _ _ (hv.of_eq fun k => ?_), hv'.trans ?_⟩
    · rw [spec_l16Ok.T, spec_l00In.val]
      simp only [Option.bind_some]
      rw [if_neg (by simp [h])]; rfl
    · unfold GraphOk
      simp only [decide_eq_true_eq]
      exact ⟨fun ⟨h1, h2⟩ => ⟨h.1, h.2, by omega, fun j hj => h2 j (Nat.zero_le _) hj⟩, fun ⟨_, _, h1, h2⟩ => ⟨by omega, fun j _ hj => h2 j hj⟩⟩
  · refine ⟨false, spec_l16Ok.of _ _ ((Ev.const _).of_eq fun k => ?_), by unfold GraphOk; simp; intro h1 h2; exact absurd ⟨h1, h2⟩ h⟩
    rw [spec_l16Ok.T, spec_l00In.val]
    simp only [Option.bind_some]
    rw [if_pos (by simp; omega)]
theorem impl_ValidGraph.val (n : Int) (xs : List EdgeV) (hn : xs.length < 4611686018427387904) : ∃ v, impl_ValidGraph.F ((n, xs), ()) = some ((v, ()), ()) ∧ (v = true ↔ GraphOk n xs) := by
  obtain ⟨v, hv, hv'⟩ := Ev.allP (L := fun k i => impl_ValidGraph.l2 k xs xs.length (i : Int) n xs) (a := ()) (b := ()) (n := xs.length) (EdgeOk n xs) (decide (1 ≤ n ∧ n ≤ 12) && decide ((xs.length : Int) ≤ 24)) (fun i hi => by
      obtain ⟨x, hx⟩ : ∃ x, x = xs.getD i (0, 0, 0) := ⟨_, rfl⟩
      have E := fun k => impl_ValidGraph.l2_eq k xs xs.length (i : Int) n xs
      simp only [if_pos (ltI.2 hi), if_pos (idxI.2 hi), impl_within.val, Option.bind_some, wrapN (show i < 4611686018427387904 by omega), Int.toNat_natCast, ← hx] at E
      unfold EdgeOk
      rw [← hx]
      clear hx
      obtain ⟨a, b, c⟩ := x
      simp only []
      by_cases h1 : a < 0
      · exact .inr ⟨by omega, fun k => by rw [E, if_pos (by simp [h1])]⟩
      simp only [if_neg (show ¬ decide (a < 0) = true by simp; omega)] at E
      by_cases h2 : a ≥ b
      · exact .inr ⟨by omega, fun k => by rw [E, if_pos (by simp [h2])]⟩
      simp only [if_neg (show ¬ decide (a ≥ b) = true by simp; omega)] at E
      by_cases h3 : b ≥ n
      · exact .inr ⟨by omega, fun k => by rw [E, if_pos (by simp [h3])]⟩
      simp only [if_neg (show ¬ decide (b ≥ n) = true by simp; omega)] at E
      by_cases h4 : 1 ≤ c ∧ c ≤ 9
      · simp only [if_neg (show ¬ (!decide (1 ≤ c ∧ c ≤ 9)) = true by simp [h4])] at E
        by_cases h5 : 0 < i
        · obtain ⟨r, hr, hr'⟩ := impl_compareEdges.val (xs.getD (i - 1) (0, 0, 0)) (a, b, c)
          simp only [if_pos (show decide ((i : Int) > 0) = true by simp; omega), wrapP h5 (show i < 4611686018427387904 by omega), if_pos (show 0 ≤ ((i - 1 : Nat) : Int) ∧ ((i - 1 : Nat) : Int) < (xs.length : Int) by omega), Int.toNat_natCast, hr, Option.bind_some] at E
          by_cases h6 : r < 0
          · exact .inl ⟨⟨by omega, by omega, by omega, by omega, by omega, fun _ => hr'.1 h6⟩, fun k => by rw [E, if_neg (by simp; omega)]⟩
          · exact .inr ⟨fun ⟨_, _, _, _, _, h⟩ => h6 (hr'.2 (h h5)), fun k => by rw [E, if_pos (by simp; omega)]⟩
        · exact .inl ⟨by omega, fun k => by rw [E, if_neg (by simp; omega)]⟩
      · exact .inr ⟨by omega, fun k => by rw [E, if_pos (by simp; omega)]⟩) ((Ev.const _).succ fun k => by
        rw [impl_ValidGraph.l2_eq, if_neg (by simp), impl_within.val]
        simp only [Option.bind_some]
        by_cases h : 1 ≤ n ∧ n ≤ 12
        · rw [if_pos (by simp [h])]; simp [h]
        · rw [if_neg (by simp; omega)]; simp [h]) 0 (Nat.zero_le _)
  refine ⟨v, impl_ValidGraph.of _ _ (hv.of_eq fun k => rfl), hv'.trans ?_⟩
  unfold GraphOk
  simp only [Bool.and_eq_true, decide_eq_true_eq]
  exact ⟨fun ⟨⟨h0, h1⟩, h2⟩ => ⟨h0.1, h0.2, by omega, fun j hj => h2 j (Nat.zero_le _) hj⟩, fun ⟨h0, h3, h1, h2⟩ => ⟨⟨⟨h0, h3⟩, by omega⟩, fun j _ hj => h2 j hj⟩⟩
theorem spec_l00Has.val (xs : List Int) (n : Int) (hn : xs.length < 4611686018427387904) : spec_l00Has.F (xs, n, ()) = some ((decide (n ∈ xs), ()), ()) := by
  obtain ⟨v, hv, hv'⟩ := Ev.loop (σ := Unit) (R := (Bool × Unit) × Unit) (fun k i _ => spec_l00Has.l2 k xs n (i : Int)) xs.length (fun i _ => ∀ j, j < i → xs.getD j 0 ≠ n) (fun r => r = ((decide (n ∈ xs), ()), ()))
    (fun i s hi hI => by
      have E := fun k => spec_l00Has.l2_eq k xs n (i : Int)
      simp only [if_pos (ltI.2 hi), if_pos (idxI.2 hi), Int.toNat_natCast, wrapN (show i < 4611686018427387904 by omega)] at E
      by_cases h : xs.getD i 0 = n
      · exact .inl ⟨_, (Ev.const _).succ fun k => by rw [E, if_pos (by simp only [h, beq_self_eq_true])], by
          have : n ∈ xs := h ▸ getD_mem 0 hi
          simp [this]⟩
      · refine .inr ⟨(), fun j hj => ?_, Goes.succ fun k => by rw [E, if_neg (by simp only [beq_iff_eq]; exact h)]⟩
        by_cases hji : j = i
        · rw [hji]; exact h
        · exact hI j (by omega))
    (fun s hI => ⟨_, (Ev.const _).succ fun k => by rw [spec_l00Has.l2_eq, if_neg (by simp)], by
      have : n ∉ xs := fun hm => by
        obtain ⟨j, hj, e⟩ := List.getElem_of_mem hm
        exact hI j hj (by rw [getD_eq hj]; exact e)
      simp [this]⟩) 0 () (Nat.zero_le _) (by intro j hj; omega)
  subst hv'
  exact spec_l00Has.of _ _ (hv.of_eq fun k => rfl)
theorem slices_Contains_Lint64_int64.val (xs : List Int) (n : Int) (hn : xs.length < 4611686018427387904) : slices_Contains_Lint64_int64.F (xs, n, ()) = some ((decide (n ∈ xs), ()), ()) := by
  obtain ⟨v, hv, hv'⟩ := Ev.loop (σ := Unit) (R := (Int × Unit) × Unit) (fun k i _ => slices_Index_Lint64_int64.l2 k xs n xs.length (i : Int)) xs.length (fun i _ => ∀ j, j < i → xs.getD j 0 ≠ n) (fun r => ∃ q : Int, r = ((q, ()), ()) ∧ decide (q ≥ 0) = decide (n ∈ xs))
    (fun i s hi hI => by
      have E := fun k => slices_Index_Lint64_int64.l2_eq k xs n xs.length (i : Int)
      simp only [if_pos (ltI.2 hi), if_pos (idxI.2 hi), Int.toNat_natCast, wrapN (show i < 4611686018427387904 by omega)] at E
      by_cases h : n = xs.getD i 0
      · exact .inl ⟨_, (Ev.const _).succ fun k => by rw [E, if_pos (by simp only [← h, beq_self_eq_true])], _, rfl, by
          have : n ∈ xs := h ▸ getD_mem 0 hi
          simp [this]⟩
      · refine .inr ⟨(), fun j hj => ?_, Goes.succ fun k => by rw [E, if_neg (by simp only [beq_iff_eq]; exact h)]⟩
        by_cases hji : j = i
        · rw [hji]; exact fun e => h e.symm
        · exact hI j (by omega))
    (fun s hI => ⟨_, (Ev.const _).succ fun k => by rw [slices_Index_Lint64_int64.l2_eq, if_neg (by simp)], _, rfl, by
      have : n ∉ xs := fun hm => by
        obtain ⟨j, hj, e⟩ := List.getElem_of_mem hm
        exact hI j hj (by rw [getD_eq hj]; exact e)
      simp [this]⟩) 0 () (Nat.zero_le _) (by intro j hj; omega)
  obtain ⟨q, rfl, hq⟩ := hv'
  rw [slices_Contains_Lint64_int64.eq, slices_Contains_Lint64_int64.T, slices_Index_Lint64_int64.of _ _ (hv.of_eq fun k => rfl)]
  simp only [Option.bind_some, hq]
def Rising (xs : List Int) : Prop := ∀ i, 0 < i → i < xs.length → xs.getD (i - 1) 0 < xs.getD i 0
def AllIn (lo hi : Int) (xs : List Int) : Prop := ∀ a ∈ xs, lo ≤ a ∧ a ≤ hi
theorem allIn_iff {lo hi : Int} {xs : List Int} : AllIn lo hi xs ↔ ∀ i, i < xs.length → lo ≤ xs.getD i 0 ∧ xs.getD i 0 ≤ hi := by
  refine ⟨fun h i hi => h _ (getD_mem 0 hi), fun h a ha => ?_⟩
  obtain ⟨j, hj, rfl⟩ := List.getElem_of_mem ha
  have := h j hj
  rwa [getD_eq hj] at this
theorem spec_l00Rises.val (xs : List Int) (lo hi : Int) (hn : xs.length < 4611686018427387904) : ∃ v, spec_l00Rises.F (xs, lo, hi, ()) = some ((v, ()), ()) ∧ (v = true ↔ AllIn lo hi xs ∧ Rising xs) := by
  obtain ⟨v, hv, hv'⟩ := Ev.allP (L := fun k i => spec_l00Rises.l2 k xs lo hi (i : Int)) (a := ()) (b := ()) (n := xs.length) (fun i => (lo ≤ xs.getD i 0 ∧ xs.getD i 0 ≤ hi) ∧ (0 < i → xs.getD (i - 1) 0 < xs.getD i 0)) true (fun i hi2 => by
    have E := fun k => spec_l00Rises.l2_eq k xs lo hi (i : Int)
    simp only [if_pos (ltI.2 hi2), if_pos (idxI.2 hi2), Int.toNat_natCast, spec_l00In.val, Option.bind_some, wrapN (show i < 4611686018427387904 by omega)] at E
    by_cases h : lo ≤ xs.getD i 0 ∧ xs.getD i 0 ≤ hi
    · simp only [decide_eq_true h, Bool.not_true, Bool.false_eq_true, if_false] at E
      by_cases h0 : 0 < i
      · have h1 : i - 1 < xs.length := by omega
        simp only [if_pos (show decide ((i : Int) > 0) = true by simp; omega), wrapP h0 (show i < 4611686018427387904 by omega), if_pos (idxI.2 h1), Int.toNat_natCast] at E
        by_cases h2 : xs.getD (i - 1) 0 < xs.getD i 0
        · exact .inl ⟨⟨h, fun _ => h2⟩, fun k => by rw [E, if_neg (by simp only [decide_eq_true_eq]; omega)]⟩
        · exact .inr ⟨fun hh => h2 (hh.2 h0), fun k => by rw [E, if_pos (by simp only [decide_eq_true_eq]; omega)]⟩
      · exact .inl ⟨⟨h, fun h1 => absurd h1 h0⟩, fun k => by rw [E, if_neg (by simp only [decide_eq_true_eq]; omega)]⟩
    · exact .inr ⟨fun hh => h hh.1, fun k => by rw [E, if_pos (by rw [decide_eq_false h]; rfl)]⟩) ((Ev.const _).succ fun k => by rw [spec_l00Rises.l2_eq, if_neg (by simp)]) 0 (Nat.zero_le _)
  refine ⟨v, spec_l00Rises.of _ _ _ (hv.of_eq fun k => rfl), hv'.trans ?_⟩
  rw [allIn_iff]
  exact ⟨fun ⟨_, h⟩ => ⟨fun i hi => (h i (Nat.zero_le _) hi).1, fun i h0 hi => (h i (Nat.zero_le _) hi).2 h0⟩, fun ⟨h1, h2⟩ => ⟨rfl, fun i _ hi => ⟨h1 i hi, fun h0 => h2 i h0 hi⟩⟩⟩
theorem impl_isRising.val (xs : List Int) (hn : xs.length < 4611686018427387904) : ∃ v, impl_isRising.F (xs, ()) = some ((v, ()), ()) ∧ (v = true ↔ Rising xs) := by
  by_cases hz : xs.length = 0
  · exact ⟨true, impl_isRising.of _ (((Ev.const _).succ fun k => by rw [impl_isRising.T, impl_isRising.l2_eq, if_neg (by simp [hz])]).of_eq fun k => rfl), by simp; intro i h1 h2; omega⟩
  obtain ⟨v, hv, hv'⟩ := Ev.allF (L := fun k i => impl_isRising.l2 k xs (i : Int)) (a := ()) (b := ()) (n := xs.length) (fun i => 0 < i → xs.getD (i - 1) 0 < xs.getD i 0) true 1 (fun i h0 hi2 => by
    have E := fun k => impl_isRising.l2_eq k xs (i : Int)
    have h0 : 0 < i := h0
    · have h1 : i - 1 < xs.length := by omega
      simp only [if_pos (ltI.2 hi2), if_pos (idxI.2 hi2), Int.toNat_natCast, wrapN (show i < 4611686018427387904 by omega), wrapP h0 (show i < 4611686018427387904 by omega), if_pos (idxI.2 h1)] at E
      by_cases h2 : xs.getD (i - 1) 0 < xs.getD i 0
      · exact .inl ⟨fun _ => h2, fun k => by rw [E, if_neg (by simp only [decide_eq_true_eq]; omega)]⟩
      · exact .inr ⟨fun hh => h2 (hh h0), fun k => by rw [E, if_pos (by simp only [decide_eq_true_eq]; omega)]⟩) ((Ev.const _).succ fun k => by rw [impl_isRising.l2_eq, if_neg (by simp)]) 1 (Nat.le_refl _) (by omega)
  refine ⟨v, impl_isRising.of _ (hv.of_eq fun k => rfl), hv'.trans ?_⟩
  exact ⟨fun ⟨_, h⟩ i h0 hi => h i h0 hi h0, fun h => ⟨rfl, fun i _ hi h0 => h i h0 hi⟩⟩
theorem slices_IndexFunc_Lint64_int64.val (xs : List Int) (f : Int × Unit → Option (Bool × Unit)) (p : Int → Bool) (hf : ∀ x ∈ xs, f (x, ()) = some (p x, ())) (hn : xs.length < 4611686018427387904) :
    ∃ r : Int, slices_IndexFunc_Lint64_int64.F (xs, f, ()) = some ((r, ()), ()) ∧ ((r = -1 ∧ ∀ x ∈ xs, p x = false) ∨ ∃ j : Nat, j < xs.length ∧ r = j ∧ p (xs.getD j 0) = true ∧ ∀ i, i < j → p (xs.getD i 0) = false) := by
  obtain ⟨r, hr, hq⟩ := Ev.loop (σ := Unit) (R := (Int × Unit) × Unit) (fun k i _ => slices_IndexFunc_Lint64_int64.l2 k xs f xs.length (i : Int)) xs.length (fun i _ => ∀ j, j < i → p (xs.getD j 0) = false)
    (fun r => ∃ v : Int, r = ((v, ()), ()) ∧ ((v = -1 ∧ ∀ x ∈ xs, p x = false) ∨ ∃ j : Nat, j < xs.length ∧ v = j ∧ p (xs.getD j 0) = true ∧ ∀ i, i < j → p (xs.getD i 0) = false))
    (fun i s hi hI => by
      have E := fun k => slices_IndexFunc_Lint64_int64.l2_eq k xs f xs.length (i : Int)
      simp only [if_pos (ltI.2 hi), if_pos (idxI.2 hi), Int.toNat_natCast, hf _ (getD_mem 0 hi), Option.bind_some, wrapN (show i < 4611686018427387904 by omega)] at E
      cases hp : p (xs.getD i 0) with
      | true => exact .inl ⟨_, (Ev.const _).succ fun k => by rw [E, if_pos hp], i, rfl, .inr ⟨i, hi, rfl, hp, hI⟩⟩
      | false =>
        refine .inr ⟨(), fun j hj => ?_, Goes.succ fun k => by rw [E, if_neg (by rw [hp]; simp)]⟩
        by_cases hji : j = i
        · rw [hji]; exact hp
        · exact hI j (by omega))
    (fun s hI => ⟨_, (Ev.const _).succ fun k => by rw [slices_IndexFunc_Lint64_int64.l2_eq, if_neg (by simp)], -1, rfl, .inl ⟨rfl, fun x hx => by
      obtain ⟨j, hj, rfl⟩ := List.getElem_of_mem hx
      rw [← getD_eq (d := 0) hj]; exact hI j hj⟩⟩) 0 () (Nat.zero_le _) (by intro j hj; omega)
  obtain ⟨v, rfl, hv⟩ := hq
  exact ⟨v, slices_IndexFunc_Lint64_int64.of _ _ (hr.of_eq fun k => rfl), hv⟩
theorem slices_ContainsFunc_Lint64_int64.val (xs : List Int) (f : Int × Unit → Option (Bool × Unit)) (p : Int → Bool) (hf : ∀ x ∈ xs, f (x, ()) = some (p x, ())) (hn : xs.length < 4611686018427387904) :
    slices_ContainsFunc_Lint64_int64.F (xs, f, ()) = some ((xs.any p, ()), ()) := by
  obtain ⟨r, hr, h⟩ := slices_IndexFunc_Lint64_int64.val xs f p hf hn
  rw [slices_ContainsFunc_Lint64_int64.eq, slices_ContainsFunc_Lint64_int64.T, hr]
  simp only [Option.bind_some]
  rcases h with ⟨rfl, h⟩ | ⟨j, hj, rfl, hp, -⟩
  · have : xs.any p = false := by simp only [List.any_eq_false]; intro x hx; simp [h x hx]
    rw [this]; rfl
  · have : xs.any p = true := List.any_eq_true.2 ⟨_, getD_mem 0 hj, hp⟩
    rw [this]; simp
theorem impl_areElements.val (xs : List Int) (p : Int) (hn : xs.length < 4611686018427387904) : ∃ v, impl_areElements.F (xs, p, ()) = some ((v, ()), ()) ∧ (v = true ↔ AllIn 0 (IntKind.i64.wrap (p - 1)) xs) := by
  rw [impl_areElements.eq, impl_areElements.T, slices_ContainsFunc_Lint64_int64.val xs _ (fun a => !decide (0 ≤ a ∧ a ≤ IntKind.i64.wrap (p - 1))) (fun a _ => by
    show (impl_areElements_1.F (a, p, ())).map (·.1) = _
    rw [impl_areElements_1.eq, impl_areElements_1.T, impl_isElement.eq, impl_isElement.T, impl_within.val]; rfl) hn]
  refine ⟨_, rfl, ?_⟩
  simp only [Bool.not_eq_true', List.any_eq_false, Bool.not_eq_eq_eq_not, Bool.not_true, AllIn]
  simp
theorem laws_toInt64S.val (xs : List Int) (h : xs.length ≤ 1099511627776) : laws_toInt64S.F (xs, ()) = some ((xs, ()), ()) := by
  refine laws_toInt64S.of xs ?_
  have := Goes.fill (L := fun k i ys => laws_toInt64S.l3 k xs (i : Int) ys) xs 0 (fun k i ys hi hy => by
    rw [laws_toInt64S.l3_eq, if_pos (ltI.2 hi), if_pos (idxI.2 hi), if_pos (by omega), wrapN (by omega)]
    simp only [Int.toNat_natCast]) (List.replicate xs.length 0) (by simp)
  refine Ev.of_eq (this _ ((Ev.const _).succ fun k => ?_)) fun k => ?_
  · rw [laws_toInt64S.l3_eq, if_neg (by simp)]
  · rw [laws_toInt64S.T, if_pos (by simp only [bigN]; omega)]; rfl
theorem laws_eqInt64S.val (xs ys : List Int) (hn : xs.length < 4611686018427387904) : ∃ b, laws_eqInt64S.F (xs, ys, ()) = some ((b, ()), ()) ∧ (b = true ↔ xs = ys) := by
  by_cases hl : xs.length = ys.length
  · obtain ⟨b, hb, hb'⟩ := Ev.all (L := fun k i => laws_eqInt64S.l4 k xs ys (i : Int)) (a := ()) (b := ()) (n := xs.length) (fun i => xs.getD i 0 == ys.getD i 0) (fun k i hi => by
      rw [laws_eqInt64S.l4_eq, if_pos (ltI.2 hi), if_pos (idxI.2 hi), if_pos (by omega), wrapN (by omega)]
      simp only [Int.toNat_natCast]
      exact ite_nb _ _ _) (fun k => by rw [laws_eqInt64S.l4_eq, if_neg (by simp)]) 0 (Nat.zero_le _)
    refine ⟨b, laws_eqInt64S.of _ _ (hb.of_eq fun k => ?_), by rw [hb', all_eq hl (fun x y => x == y) (by simp)]⟩
    rw [laws_eqInt64S.T, if_neg (by simp [hl])]
    rfl
  · refine ⟨false, laws_eqInt64S.of _ _ ((Ev.const _).of_eq fun k => ?_), by simp; intro e; exact hl (by rw [e])⟩
    rw [laws_eqInt64S.T, if_pos (by simp; omega)]
theorem laws_eqInt64S.refl (xs : List Int) (hn : xs.length < 4611686018427387904) : laws_eqInt64S.F (xs, xs, ()) = some ((true, ()), ()) := by
  obtain ⟨b, hb, hb'⟩ := laws_eqInt64S.val xs xs hn
  rw [hb, hb'.2 rfl]
theorem impl_isSet.val (n : Int) (xs : List EdgeV) (s : List Int) (hn : s.length < 4611686018427387904) : ∃ v, impl_isSet.F ((n, xs), s, ()) = some ((v, ()), ()) ∧ (v = true ↔ AllIn 0 (IntKind.i64.wrap (n - 1)) s ∧ Rising s) := by
  obtain ⟨v1, h1, h1'⟩ := impl_isRising.val s hn
  obtain ⟨v2, h2, h2'⟩ := impl_areElements.val s n hn
  rw [impl_isSet.eq, impl_isSet.T, h1]
  simp only [Option.bind_some]
  cases v1 with
  | true =>
    rw [if_pos rfl, h2]
    exact ⟨v2, rfl, h2'.trans ⟨fun h => ⟨h, h1'.1 rfl⟩, fun h => h.1⟩⟩
  | false => exact ⟨false, by rw [if_neg (by simp)], by simp; intro _ hr; exact absurd (h1'.2 hr) (by simp)⟩
theorem spec_l16Set.val (n : Int) (xs : List EdgeV) (s : List Int) (hn : s.length < 4611686018427387904) : ∃ v, spec_l16Set.F ((n, xs), s, ()) = some ((v, ()), ()) ∧ (v = true ↔ AllIn 0 (IntKind.i64.wrap (n - 1)) s ∧ Rising s) := by
  obtain ⟨v1, h1, h1'⟩ := spec_l00Rises.val s 0 (IntKind.i64.wrap (n - 1)) hn
  rw [spec_l16Set.eq, spec_l16Set.T, h1]
  exact ⟨v1, rfl, h1'⟩
def cutF (s : List Int) (acc : Int) (e : EdgeV) : Int := if (!(decide (e.1 ∈ s) == decide (e.2.1 ∈ s))) = true then IntKind.i64.wrap (acc + e.2.2) else acc
theorem cut_both (n : Int) (xs : List EdgeV) (s : List Int) (hn : xs.length < 4611686018427387904) (hs : s.length < 4611686018427387904) : ∃ c, spec_l16Cut.F ((n, xs), s, ()) = some ((c, ()), ()) ∧ impl_cutWeight.F ((n, xs), s, ()) = some ((c, ()), ()) := by
  refine ⟨xs.foldl (cutF s) 0, spec_l16Cut.of _ _ _ ?_, impl_cutWeight.of _ _ _ ?_⟩
  · refine Ev.of_eq (N := fun k => spec_l16Cut.l3 k n xs s 0 ((0 : Nat) : Int)) ?_ fun k => rfl
    refine Goes.foldl (L := fun k i acc => spec_l16Cut.l3 k n xs s acc (i : Int)) xs (0, 0, 0) (cutF s) (fun k i acc hi => ?_) 0 _ ((Ev.const _).succ fun k => by rw [spec_l16Cut.l3_eq, if_neg (by simp)])
    rw [spec_l16Cut.l3_eq, if_pos (ltI.2 hi), if_pos (idxI.2 hi)]
    simp only [Int.toNat_natCast, spec_l00Has.val _ _ hs, Option.bind_some, wrapN (show i < 4611686018427387904 by omega), cutF]
    split <;> rfl
  · refine Ev.of_eq (N := fun k => impl_cutWeight.l3 k s 0 xs xs.length ((0 : Nat) : Int)) ?_ fun k => rfl
    refine Goes.foldl (L := fun k i acc => impl_cutWeight.l3 k s acc xs xs.length (i : Int)) xs (0, 0, 0) (cutF s) (fun k i acc hi => ?_) 0 _ ((Ev.const _).succ fun k => by rw [impl_cutWeight.l3_eq, if_neg (by simp)])
    rw [impl_cutWeight.l3_eq, if_pos (ltI.2 hi), if_pos (idxI.2 hi)]
    simp only [Int.toNat_natCast, slices_Contains_Lint64_int64.val _ _ hs, Option.bind_some, wrapN (show i < 4611686018427387904 by omega), cutF]
    split <;> rfl
theorem cutWeight_both (n : Int) (xs : List EdgeV) (s : List Int) (hn : xs.length < 4611686018427387904) (hs : s.length < 4611686018427387904) : ∃ e c, spec_CutWeight.F ((n, xs), s, ()) = some ((e, (c, ())), ()) ∧ impl_CutWeight.F ((n, xs), s, ()) = some ((e, (c, ())), ()) := by
  obtain ⟨v1, h1, h1'⟩ := spec_l16Ok.val n xs hn
  obtain ⟨v2, h2, h2'⟩ := impl_ValidGraph.val n xs hn
  obtain ⟨v3, h3, h3'⟩ := spec_l16Set.val n xs s hs
  obtain ⟨v4, h4, h4'⟩ := impl_isSet.val n xs s hs
  obtain ⟨c, h5, h6⟩ := cut_both n xs s hn hs
  obtain rfl : v2 = v1 := Bool.eq_iff_iff.2 (h2'.trans h1'.symm)
  obtain rfl : v4 = v3 := Bool.eq_iff_iff.2 (h4'.trans h3'.symm)
  rw [spec_CutWeight.eq, spec_CutWeight.T, impl_CutWeight.eq, impl_CutWeight.T, h1, h2, h3, h4, h5, h6]
  simp only [Option.bind_some]
  cases v2 <;> cases v4 <;> exact ⟨_, _, rfl, rfl⟩
theorem laws_FnExactCutWeight.pure (d : Ins laws_FnExactCutWeight.sig.ps) (h : wfIns laws_FnExactCutWeight.sig.ps d) : ∃ mu, laws_FnExactCutWeight.F d = some ((true, ()), mu) := by
  obtain ⟨⟨n, xs⟩, x, ⟨⟩⟩ := d
  obtain ⟨⟨_, hx, _⟩, ⟨hx2, _⟩, _⟩ := h
  refine ⟨(), ?_⟩
  rw [laws_FnExactCutWeight.eq, laws_FnExactCutWeight.T]
  by_cases h0 : (x.length : Int) > 1048576
  · rw [if_pos (by simp; omega)]
  rw [if_neg (by simp; omega), laws_szGraph.val n xs 1048576 (by omega) (by omega) hx]
  simp only [Option.bind_some]
  by_cases h1 : (1048576 : Int) < xs.length
  · rw [if_pos h1, if_pos (by simp)]
  rw [if_neg h1, if_neg (by simp; omega)]
  obtain ⟨e, c, hb, hc⟩ := cutWeight_both n xs x (by omega) (by omega)
  simp only [laws_toGraph.val n xs (by omega), laws_toInt64S.val x (by omega), Option.bind_some, hb, hc]
  obtain ⟨e1, he1, he1'⟩ := laws_eqGraph.val n n xs xs (by omega)
  have r1 : e1 = true := he1'.2 ⟨rfl, rfl⟩
  simp [he1, r1, laws_eqInt64S.refl x (by omega)]
end Go.Proofs.Ytpibalgbkhpcbaa
