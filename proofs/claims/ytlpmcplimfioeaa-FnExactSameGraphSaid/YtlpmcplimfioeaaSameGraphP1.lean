/- What the functions answer. -/
import Derived.Test.YtlpmcplimfioeaaSameGraphG1
namespace Go.Proofs.Ytlpmcplimfioeaa
open Go Go.Vm
set_option linter.unusedVariables false
set_option linter.unusedSimpArgs false
section
abbrev EdgeV := Int × Int × Int
theorem wrapI {x : Int} (h1 : -9223372036854775808 ≤ x) (h2 : x ≤ 9223372036854775807) : IntKind.i64.wrap x = x := by
  have e : (2 : Int) ^ (IntKind.i64).bits = 18446744073709551616 := by decide
  have e2 : (2 : Int) ^ ((IntKind.i64).bits - 1) = 9223372036854775808 := by decide
  unfold IntKind.wrap
  simp only [e, e2, show IntKind.i64.signed = true from rfl, Bool.true_and, decide_eq_true_eq]
  split <;> omega
theorem wrapN {i : Nat} (h : i < 4611686018427387904) : IntKind.i64.wrap ((i : Int) + 1) = ((i + 1 : Nat) : Int) := by
  rw [wrapI (by omega) (by omega)]; omega
theorem idxI {α : Type} {xs : List α} {i : Nat} : (0 ≤ (i : Int) ∧ (i : Int) < (xs.length : Int)) ↔ i < xs.length := by omega
theorem ltI {i n : Nat} : (decide ((i : Int) < (n : Int))) = true ↔ i < n := by simp
theorem getD_eq {α : Type} {xs : List α} {i : Nat} {d : α} (h : i < xs.length) : xs.getD i d = xs[i] := by
  rw [List.getD_eq_getElem?_getD, List.getElem?_eq_getElem h]; rfl
theorem eqT_edge (x y : EdgeV) : eqT TEdge x y = true ↔ x = y := by
  obtain ⟨a, b, c⟩ := x
  obtain ⟨a', b', c'⟩ := y
  simp [eqT]
def Goes {R : Type} (A B : Nat → Option R) : Prop := ∀ r, Ev B r → Ev A r
theorem Goes.refl {R : Type} (A : Nat → Option R) : Goes A A := fun _ h => h
theorem Goes.trans {R : Type} {A B C : Nat → Option R} (h : Goes A B) (k : Goes B C) : Goes A C := fun r hr => h r (k r hr)
theorem Goes.succ {R : Type} {A B : Nat → Option R} (e : ∀ k, A (k + 1) = B k) : Goes A B := fun _ h => h.succ e
theorem Goes.of_eq {R : Type} {A B : Nat → Option R} (e : ∀ k, A k = B k) : Goes A B := fun _ h => h.of_eq e
theorem Ev.loop {σ R : Type} (L : Nat → Nat → σ → Option R) (n : Nat) (I : Nat → σ → Prop) (Q : R → Prop)
    (hstep : ∀ i s, i < n → I i s → (∃ r, Ev (fun k => L k i s) r ∧ Q r) ∨ (∃ s', I (i + 1) s' ∧ Goes (fun k => L k i s) (fun k => L k (i + 1) s')))
    (hend : ∀ s, I n s → ∃ r, Ev (fun k => L k n s) r ∧ Q r) : ∀ i s, i ≤ n → I i s → ∃ r, Ev (fun k => L k i s) r ∧ Q r := by
  have key : ∀ j i s, i + j = n → I i s → ∃ r, Ev (fun k => L k i s) r ∧ Q r := by
    intro j
    induction j with
    | zero => intro i s hi h; obtain rfl : i = n := by omega
              exact hend s h
    | succ j ih =>
      intro i s hi h
      rcases hstep i s (by omega) h with h1 | ⟨s', h1, h2⟩
      · exact h1
      · obtain ⟨r, hr, hq⟩ := ih (i + 1) s' (by omega) h1
        exact ⟨r, h2 r hr, hq⟩
  exact fun i s hi h => key (n - i) i s (by omega) h
theorem Goes.loop {σ R : Type} (L : Nat → Nat → σ → Option R) (n : Nat) (I : Nat → σ → Prop)
    (hstep : ∀ i s, i < n → I i s → ∃ s', I (i + 1) s' ∧ Goes (fun k => L k i s) (fun k => L k (i + 1) s')) : ∀ i s, i ≤ n → I i s → ∃ s', I n s' ∧ Goes (fun k => L k i s) (fun k => L k n s') := by
  have key : ∀ j i s, i + j = n → I i s → ∃ s', I n s' ∧ Goes (fun k => L k i s) (fun k => L k n s') := by
    intro j
    induction j with
    | zero => intro i s hi h; obtain rfl : i = n := by omega
              exact ⟨s, h, Goes.refl _⟩
    | succ j ih =>
      intro i s hi h
      obtain ⟨s', h1, h2⟩ := hstep i s (by omega) h
      obtain ⟨s2, h3, h4⟩ := ih (i + 1) s' (by omega) h1
      exact ⟨s2, h3, h2.trans h4⟩
  exact fun i s hi h => key (n - i) i s (by omega) h
theorem Ev.all {A B : Type} {L : Nat → Nat → Option ((Bool × A) × B)} {a : A} {b : B} {n : Nat} (p : Nat → Bool) (hstep : ∀ k i, i < n → L (k + 1) i = if p i = true then L k (i + 1) else some ((false, a), b)) (hend : ∀ k, L (k + 1) n = some ((true, a), b)) (i : Nat) (hi : i ≤ n) :
    ∃ v, Ev (fun k => L k i) ((v, a), b) ∧ (v = true ↔ ∀ j, i ≤ j → j < n → p j = true) := by
  have key : ∀ m i, i + m = n → ∃ v, Ev (fun k => L k i) ((v, a), b) ∧ (v = true ↔ ∀ j, i ≤ j → j < n → p j = true) := by
    intro m
    induction m with
    | zero => intro i hi; obtain rfl : i = n := by omega
              exact ⟨true, (Ev.const _).succ hend, by simp; intro j _ _; omega⟩
    | succ m ih =>
      intro i hi
      obtain ⟨v, hv, hv'⟩ := ih (i + 1) (by omega)
      cases hp : p i with
      | false => exact ⟨false, (Ev.const _).succ fun k => by rw [hstep k i (by omega), hp]; rfl, by simp; exact ⟨i, Nat.le_refl _, by omega, hp⟩⟩
      | true =>
        refine ⟨v, hv.succ fun k => by rw [hstep k i (by omega), hp]; rfl, hv'.trans ⟨fun h j hj hn => ?_, fun h j hj hn => h j (by omega) hn⟩⟩
        by_cases hij : j = i
        · rw [hij]; exact hp
        · exact h j (by omega) hn
  exact key (n - i) i (by omega)
theorem all_eq {α : Type} {xs ys : List α} (hl : xs.length = ys.length) (q : α → α → Bool) (hq : ∀ x y, q x y = true ↔ x = y) (d : α) : (∀ j, 0 ≤ j → j < xs.length → q (xs.getD j d) (ys.getD j d) = true) ↔ xs = ys := by
  constructor
  · intro h
    refine List.ext_getElem hl fun i h1 h2 => ?_
    have := (hq _ _).1 (h i (Nat.zero_le _) h1)
    rwa [getD_eq h1, getD_eq h2] at this
  · rintro rfl j _ _
    exact (hq _ _).2 rfl
theorem Goes.fill {α R : Type} {L : Nat → Nat → List α → Option R} (xs : List α) (d : α) (hstep : ∀ k i ys, i < xs.length → ys.length = xs.length → L (k + 1) i ys = L k (i + 1) (ys.set i (xs.getD i d))) (ys : List α) (hy : ys.length = xs.length) :
    Goes (fun k => L k 0 ys) (fun k => L k xs.length xs) := by
  obtain ⟨s, ⟨hs1, hs2⟩, hs3⟩ := Goes.loop L xs.length (fun i s => s.length = xs.length ∧ s.take i = xs.take i) (fun i s hi ⟨h1, h2⟩ => ⟨s.set i (xs.getD i d), ⟨by simp [h1], by
    rw [List.take_add_one, List.take_add_one, List.take_set_of_le (Nat.le_refl _), h2]
    simp [hi, h1, getD_eq hi]⟩, Goes.succ fun k => hstep k i s hi h1⟩) 0 ys (Nat.zero_le _) ⟨hy, by simp⟩
  have : s = xs := by
    rw [List.take_of_length_le (by omega), List.take_of_length_le (Nat.le_refl _)] at hs2
    exact hs2
  rw [this] at hs3
  exact hs3
theorem ite_nb {α : Type} (b : Bool) (x y : α) : (if (!b) = true then x else y) = if b = true then y else x := by cases b <;> rfl
theorem Ev.allP {A B : Type} {L : Nat → Nat → Option ((Bool × A) × B)} {a : A} {b : B} {n : Nat} (P : Nat → Prop) (e : Bool) (hstep : ∀ i, i < n → (P i ∧ ∀ k, L (k + 1) i = L k (i + 1)) ∨ (¬ P i ∧ ∀ k, L (k + 1) i = some ((false, a), b))) (hend : Ev (fun k => L k n) ((e, a), b)) (i : Nat) (hi : i ≤ n) :
    ∃ v, Ev (fun k => L k i) ((v, a), b) ∧ (v = true ↔ e = true ∧ ∀ j, i ≤ j → j < n → P j) := by
  have key : ∀ m i, i + m = n → ∃ v, Ev (fun k => L k i) ((v, a), b) ∧ (v = true ↔ e = true ∧ ∀ j, i ≤ j → j < n → P j) := by
    intro m
    induction m with
    | zero => intro i hi; obtain rfl : i = n := by omega
              exact ⟨e, hend, ⟨fun h => ⟨h, fun j h1 h2 => by omega⟩, fun h => h.1⟩⟩
    | succ m ih =>
      intro i hi
      obtain ⟨v, hv, hv'⟩ := ih (i + 1) (by omega)
      rcases hstep i (by omega) with ⟨hp, h⟩ | ⟨hp, h⟩
      · refine ⟨v, hv.succ h, hv'.trans ⟨fun ⟨h1, h2⟩ => ⟨h1, fun j hj hn => ?_⟩, fun ⟨h1, h2⟩ => ⟨h1, fun j hj hn => h2 j (by omega) hn⟩⟩⟩
        by_cases hij : j = i
        · rw [hij]; exact hp
        · exact h2 j (by omega) hn
      · exact ⟨false, (Ev.const _).succ h, ⟨fun h => (by cases h), fun ⟨_, h2⟩ => absurd (h2 i (Nat.le_refl _) (by omega)) hp⟩⟩
  exact key (n - i) i (by omega)
theorem wrapP {i : Nat} (h : 0 < i) (h2 : i < 4611686018427387904) : IntKind.i64.wrap ((i : Int) - 1) = ((i - 1 : Nat) : Int) := by
  rw [wrapI (by omega) (by omega)]; omega
theorem Goes.foldl {α σ R : Type} {L : Nat → Nat → σ → Option R} (xs : List α) (d : α) (f : σ → α → σ) (hstep : ∀ k i s, i < xs.length → L (k + 1) i s = L k (i + 1) (f s (xs.getD i d))) (s : σ) : Goes (fun k => L k 0 s) (fun k => L k xs.length (xs.foldl f s)) := by
  have key : ∀ m i s, i + m = xs.length → Goes (fun k => L k i s) (fun k => L k xs.length ((xs.drop i).foldl f s)) := by
    intro m
    induction m with
    | zero => intro i s hi; obtain rfl : i = xs.length := by omega
              rw [List.drop_length]; exact Goes.refl _
    | succ m ih =>
      intro i s hi
      have h : i < xs.length := by omega
      refine (Goes.succ fun k => hstep k i s h).trans ?_
      rw [List.drop_eq_getElem_cons h, List.foldl_cons, ← getD_eq (d := d) h]
      exact ih (i + 1) _ (by omega)
  have := key xs.length 0 s (by omega)
  simpa using this
theorem getD_mem {α : Type} {xs : List α} {i : Nat} (d : α) (h : i < xs.length) : xs.getD i d ∈ xs := by rw [getD_eq h]; exact List.getElem_mem h
end
section
theorem laws_szEdgeS.val (xs : List EdgeV) (left : Int) (h0 : 0 ≤ left) (h1 : left ≤ 1048576) (hx : xs.length ≤ maxLen) :
    laws_szEdgeS.F (xs, left, ()) = some ((if left < xs.length then -1 else left - xs.length, ()), ()) := by
  have : xs.length ≤ 9223372036854775807 := hx
  rw [laws_szEdgeS.eq, laws_szEdgeS.T, wrapI (by omega) (by omega)]
  by_cases h : left < xs.length
  · rw [if_pos (by simp; omega), if_pos h]
  · rw [if_neg (by simp; omega), if_neg h]
theorem laws_szGraph.val (n : Int) (xs : List EdgeV) (left : Int) (h0 : 0 ≤ left) (h1 : left ≤ 1048576) (hx : xs.length ≤ maxLen) :
    laws_szGraph.F ((n, xs), left, ()) = some ((if left < xs.length then -1 else left - xs.length, ()), ()) := by
  rw [laws_szGraph.eq, laws_szGraph.T, laws_szEdgeS.val xs left h0 h1 hx]
  simp only [Option.bind_some]
  by_cases h : left < xs.length
  · rw [if_pos h]; rfl
  · rw [if_neg h, if_neg (by simp; omega)]
theorem laws_toEdge.val (x : EdgeV) : laws_toEdge.F (x, ()) = some ((x, ()), ()) := by
  obtain ⟨a, b, c⟩ := x
  exact laws_toEdge.eq a b c
theorem laws_toEdgeS.val (xs : List EdgeV) (h : xs.length ≤ 1099511627776) : laws_toEdgeS.F (xs, ()) = some ((xs, ()), ()) := by
  refine laws_toEdgeS.of xs ?_
  have := Goes.fill (L := fun k i ys => laws_toEdgeS.l3 k xs (i : Int) ys) xs (0, 0, 0) (fun k i ys hi hy => by
    rw [laws_toEdgeS.l3_eq, if_pos (ltI.2 hi), if_pos (idxI.2 hi), laws_toEdge.val, Option.bind_some, if_pos (by omega), wrapN (by omega)]
    simp only [Int.toNat_natCast]) (List.replicate xs.length (0, 0, 0)) (by simp)
  refine Ev.of_eq (this _ ((Ev.const _).succ fun k => ?_)) fun k => ?_
  · rw [laws_toEdgeS.l3_eq, if_neg (by simp)]
  · rw [laws_toEdgeS.T, if_pos (by simp only [bigN]; omega)]; rfl
theorem laws_toGraph.val (n : Int) (xs : List EdgeV) (h : xs.length ≤ 1099511627776) : laws_toGraph.F ((n, xs), ()) = some (((n, xs), ()), ()) := by
  rw [laws_toGraph.eq, laws_toGraph.T, laws_toEdgeS.val xs h]; rfl
theorem laws_eqEdge.val (x y : EdgeV) : laws_eqEdge.F (x, y, ()) = some ((eqT TEdge x y, ()), ()) := by
  obtain ⟨a, b, c⟩ := x
  obtain ⟨a', b', c'⟩ := y
  rw [laws_eqEdge.eq, laws_eqEdge.T]
  by_cases h1 : a = a' <;> by_cases h2 : b = b' <;> by_cases h3 : c = c' <;> simp [eqT, h1, h2, h3]
theorem laws_eqEdgeS.val (xs ys : List EdgeV) (hn : xs.length < 4611686018427387904) : ∃ b, laws_eqEdgeS.F (xs, ys, ()) = some ((b, ()), ()) ∧ (b = true ↔ xs = ys) := by
  by_cases hl : xs.length = ys.length
  · obtain ⟨b, hb, hb'⟩ := Ev.all (L := fun k i => laws_eqEdgeS.l4 k xs ys (i : Int)) (a := ()) (b := ()) (n := xs.length) (fun i => eqT TEdge (xs.getD i (0, 0, 0)) (ys.getD i (0, 0, 0))) (fun k i hi => by
      rw [laws_eqEdgeS.l4_eq, if_pos (ltI.2 hi), if_pos (idxI.2 hi), if_pos (by omega), laws_eqEdge.val, Option.bind_some, wrapN (by omega)]
      simp only [Int.toNat_natCast]
      exact ite_nb _ _ _) (fun k => by rw [laws_eqEdgeS.l4_eq, if_neg (by simp)]) 0 (Nat.zero_le _)
    refine ⟨b, laws_eqEdgeS.of _ _ (hb.of_eq fun k => ?_), by rw [hb', all_eq hl _ eqT_edge]⟩
    rw [laws_eqEdgeS.T, if_neg (by simp [hl])]
    rfl
  · refine ⟨false, laws_eqEdgeS.of _ _ ((Ev.const _).of_eq fun k => ?_), by simp; intro e; exact hl (by rw [e])⟩
    rw [laws_eqEdgeS.T, if_pos (by simp; omega)]
theorem laws_eqGraph.val (n m : Int) (xs ys : List EdgeV) (hn : xs.length < 4611686018427387904) : ∃ b, laws_eqGraph.F ((n, xs), (m, ys), ()) = some ((b, ()), ()) ∧ (b = true ↔ n = m ∧ xs = ys) := by
  rw [laws_eqGraph.eq, laws_eqGraph.T]
  by_cases h : n = m
  · obtain ⟨b, hb, hb'⟩ := laws_eqEdgeS.val xs ys hn
    exact ⟨b, by rw [if_neg (by simp [h]), hb]; cases b <;> rfl, by simp [h, hb']⟩
  · exact ⟨false, by rw [if_pos (by simp [h])], by simp [h]⟩
end
section
theorem spec_SameGraph.val (n m : Int) (xs ys : List EdgeV) (hn : xs.length < 4611686018427387904) : ∃ b, spec_SameGraph.F ((n, xs), (m, ys), ()) = some ((b, ()), ()) ∧ (b = true ↔ n = m ∧ xs = ys) := by
  by_cases h : n = m
  · by_cases hl : xs.length = ys.length
    · obtain ⟨b, hb, hb'⟩ := Ev.all (L := fun k i => spec_SameGraph.l4 k (i : Int) n xs m ys) (a := ()) (b := ()) (n := xs.length) (fun i => eqT TEdge (xs.getD i (0, 0, 0)) (ys.getD i (0, 0, 0))) (fun k i hi => by
        rw [spec_SameGraph.l4_eq, if_pos (ltI.2 hi), if_pos (idxI.2 hi), if_pos (by omega), wrapN (by omega)]
        simp only [Int.toNat_natCast]
        exact ite_nb _ _ _) (fun k => by rw [spec_SameGraph.l4_eq, if_neg (by simp)]) 0 (Nat.zero_le _)
      refine ⟨b, spec_SameGraph.of _ _ _ _ (hb.of_eq fun k => ?_), by rw [hb', all_eq hl _ eqT_edge]; simp [h]⟩
      rw [spec_SameGraph.T, if_neg (by simp [h]), if_neg (by simp [hl])]
      rfl
    · refine ⟨false, spec_SameGraph.of _ _ _ _ ((Ev.const _).of_eq fun k => ?_), by simp; intro _ e; exact hl (by rw [e])⟩
      rw [spec_SameGraph.T, if_neg (by simp [h]), if_pos (by simp; omega)]
  · refine ⟨false, spec_SameGraph.of _ _ _ _ ((Ev.const _).of_eq fun k => ?_), by simp [h]⟩
    rw [spec_SameGraph.T, if_pos (by simp [h])]
theorem slices_Equal_Limpl_Edge_impl_Edge.val (xs ys : List EdgeV) (hn : xs.length < 4611686018427387904) : ∃ b, slices_Equal_Limpl_Edge_impl_Edge.F (xs, ys, ()) = some ((b, ()), ()) ∧ (b = true ↔ xs = ys) := by
  by_cases hl : xs.length = ys.length
  · obtain ⟨b, hb, hb'⟩ := Ev.all (L := fun k i => slices_Equal_Limpl_Edge_impl_Edge.l4 k xs ys xs.length (i : Int)) (a := ()) (b := ()) (n := xs.length) (fun i => eqT TEdge (xs.getD i (0, 0, 0)) (ys.getD i (0, 0, 0))) (fun k i hi => by
      rw [slices_Equal_Limpl_Edge_impl_Edge.l4_eq, if_pos (ltI.2 hi), if_pos (idxI.2 hi), if_pos (by omega), wrapN (by omega)]
      simp only [Int.toNat_natCast]
      exact ite_nb _ _ _) (fun k => by rw [slices_Equal_Limpl_Edge_impl_Edge.l4_eq, if_neg (by simp)]) 0 (Nat.zero_le _)
    refine ⟨b, slices_Equal_Limpl_Edge_impl_Edge.of _ _ (hb.of_eq fun k => ?_), by rw [hb', all_eq hl _ eqT_edge]⟩
    rw [slices_Equal_Limpl_Edge_impl_Edge.T, if_neg (by simp [hl])]
    rfl
  · refine ⟨false, slices_Equal_Limpl_Edge_impl_Edge.of _ _ ((Ev.const _).of_eq fun k => ?_), by simp; intro e; exact hl (by rw [e])⟩
    rw [slices_Equal_Limpl_Edge_impl_Edge.T, if_pos (by simp; omega)]
theorem impl_SameGraph.val (n m : Int) (xs ys : List EdgeV) (hn : xs.length < 4611686018427387904) : ∃ b, impl_SameGraph.F ((n, xs), (m, ys), ()) = some ((b, ()), ()) ∧ (b = true ↔ n = m ∧ xs = ys) := by
  rw [impl_SameGraph.eq, impl_SameGraph.T]
  by_cases h : n = m
  · obtain ⟨b, hb, hb'⟩ := slices_Equal_Limpl_Edge_impl_Edge.val xs ys hn
    exact ⟨b, by rw [if_pos (by simp [h]), hb]; rfl, by simp [h, hb']⟩
  · exact ⟨false, by rw [if_neg (by simp [h])], by simp [h]⟩
theorem laws_FnExactSameGraph.pure (d : Ins laws_FnExactSameGraph.sig.ps) (h : wfIns laws_FnExactSameGraph.sig.ps d) : ∃ mu, laws_FnExactSameGraph.F d = some ((true, ()), mu) := by
  obtain ⟨⟨n, xs⟩, ⟨m, ys⟩, ⟨⟩⟩ := d
  obtain ⟨⟨_, hx, _⟩, ⟨_, hy, _⟩, _⟩ := h
  refine ⟨(), ?_⟩
  rw [laws_FnExactSameGraph.eq, laws_FnExactSameGraph.T, laws_szGraph.val n xs 1048576 (by omega) (by omega) hx]
  simp only [Option.bind_some]
  by_cases h1 : (1048576 : Int) < xs.length
  · rw [if_pos h1, if_pos (by simp)]
  rw [if_neg h1, if_neg (by simp; omega), laws_szGraph.val m ys _ (by omega) (by omega) hy]
  simp only [Option.bind_some]
  by_cases h2 : (1048576 : Int) - xs.length < ys.length
  · rw [if_pos h2, if_pos (by simp)]
  rw [if_neg h2, if_neg (by simp; omega)]
  obtain ⟨b, hb, hb'⟩ := spec_SameGraph.val n m xs ys (by omega)
  obtain ⟨c, hc, hc'⟩ := impl_SameGraph.val n m xs ys (by omega)
  have hbc : c = b := Bool.eq_iff_iff.2 (hc'.trans hb'.symm)
  simp only [laws_toGraph.val n xs (by omega), laws_toGraph.val m ys (by omega), Option.bind_some, hb, hc, hbc]
  obtain ⟨e1, he1, he1'⟩ := laws_eqGraph.val n n xs xs (by omega)
  obtain ⟨e2, he2, he2'⟩ := laws_eqGraph.val m m ys ys (by omega)
  have r1 : e1 = true := he1'.2 ⟨rfl, rfl⟩
  have r2 : e2 = true := he2'.2 ⟨rfl, rfl⟩
  simp [he1, he2, r1, r2]
end
end Go.Proofs.Ytlpmcplimfioeaa
