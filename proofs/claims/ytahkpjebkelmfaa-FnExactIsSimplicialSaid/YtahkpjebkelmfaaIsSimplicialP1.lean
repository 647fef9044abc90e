/- What the functions answer. -/
import Derived.Test.YtahkpjebkelmfaaIsSimplicialG1
namespace Go.Proofs.Ytahkpjebkelmfaa
open Go Go.Vm
set_option linter.unusedVariables false
set_option linter.unusedSimpArgs false
theorem wrapI {x : Int} (h1 : -9223372036854775808 ≤ x) (h2 : x ≤ 9223372036854775807) : IntKind.i64.wrap x = x := by
  have e : (2 : Int) ^ (IntKind.i64).bits = 18446744073709551616 := by decide
  have e2 : (2 : Int) ^ ((IntKind.i64).bits - 1) = 9223372036854775808 := by decide
  unfold IntKind.wrap
  simp only [e, e2, show IntKind.i64.signed = true from rfl, Bool.true_and, decide_eq_true_eq]
  split <;> omega
theorem wrapN {i : Nat} (h : i < 4611686018427387904) : IntKind.i64.wrap ((i : Int) + 1) = ((i + 1 : Nat) : Int) := by
  rw [wrapI (by omega) (by omega)]; omega
theorem idxI {α : Type} {xs : List α} {i : Nat} : (0 ≤ (i : Int) ∧ (i : Int) < (xs.length : Int)) ↔ i < xs.length := by omega
theorem ltI {i n : Nat} : (decide ((i : Int) < (n : Int))) = true ↔ i < n := by simp
theorem getD_eq {α : Type} {xs : List α} {i : Nat} {d : α} (h : i < xs.length) : xs.getD i d = xs[i] := by
  rw [List.getD_eq_getElem?_getD, List.getElem?_eq_getElem h]; rfl
def Goes {R : Type} (A B : Nat → Option R) : Prop := ∀ r, Ev B r → Ev A r
theorem Goes.refl {R : Type} (A : Nat → Option R) : Goes A A := fun _ h => h
theorem Goes.trans {R : Type} {A B C : Nat → Option R} (h : Goes A B) (k : Goes B C) : Goes A C := fun r hr => h r (k r hr)
theorem Goes.succ {R : Type} {A B : Nat → Option R} (e : ∀ k, A (k + 1) = B k) : Goes A B := fun _ h => h.succ e
theorem Goes.of_eq {R : Type} {A B : Nat → Option R} (e : ∀ k, A k = B k) : Goes A B := fun _ h => h.of_eq e
theorem Ev.loop {σ R : Type} (L : Nat → Nat → σ → Option R) (n : Nat) (I : Nat → σ → Prop) (Q : R → Prop)
    (hstep : ∀ i s, i < n → I i s → (∃ r, Ev (fun k => L k i s) r ∧ Q r) ∨ (∃ s', I (i + 1) s' ∧ Goes (fun k => L k i s) (fun k => L k (i + 1) s')))
    (hend : ∀ s, I n s → ∃ r, Ev (fun k => L k n s) r ∧ Q r) : ∀ i s, i ≤ n → I i s → ∃ r, Ev (fun k => L k i s) r ∧ Q r := by
  have key : ∀ j i s, i + j = n → I i s → ∃ r, Ev (fun k => L k i s) r ∧ Q r := by
    intro j
    induction j with
    | zero => intro i s hi h; obtain rfl : i = n := by omega
              exact hend s h
    | succ j ih =>
      intro i s hi h
      rcases hstep i s (by omega) h with h1 | ⟨s', h1, h2⟩
      · exact h1
      · obtain ⟨r, hr, hq⟩ := ih (i + 1) s' (by omega) h1
        exact ⟨r, h2 r hr, hq⟩
  exact fun i s hi h => key (n - i) i s (by omega) h
theorem Goes.loop {σ R : Type} (L : Nat → Nat → σ → Option R) (n : Nat) (I : Nat → σ → Prop)
    (hstep : ∀ i s, i < n → I i s → ∃ s', I (i + 1) s' ∧ Goes (fun k => L k i s) (fun k => L k (i + 1) s')) : ∀ i s, i ≤ n → I i s → ∃ s', I n s' ∧ Goes (fun k => L k i s) (fun k => L k n s') := by
  have key : ∀ j i s, i + j = n → I i s → ∃ s', I n s' ∧ Goes (fun k => L k i s) (fun k => L k n s') := by
    intro j
    induction j with
    | zero => intro i s hi h; obtain rfl : i = n := by omega
              exact ⟨s, h, Goes.refl _⟩
    | succ j ih =>
      intro i s hi h
      obtain ⟨s', h1, h2⟩ := hstep i s (by omega) h
      obtain ⟨s2, h3, h4⟩ := ih (i + 1) s' (by omega) h1
      exact ⟨s2, h3, h2.trans h4⟩
  exact fun i s hi h => key (n - i) i s (by omega) h
theorem Ev.all {A B : Type} {L : Nat → Nat → Option ((Bool × A) × B)} {a : A} {b : B} {n : Nat} (p : Nat → Bool) (hstep : ∀ k i, i < n → L (k + 1) i = if p i = true then L k (i + 1) else some ((false, a), b)) (hend : ∀ k, L (k + 1) n = some ((true, a), b)) (i : Nat) (hi : i ≤ n) :
    ∃ v, Ev (fun k => L k i) ((v, a), b) ∧ (v = true ↔ ∀ j, i ≤ j → j < n → p j = true) := by
  have key : ∀ m i, i + m = n → ∃ v, Ev (fun k => L k i) ((v, a), b) ∧ (v = true ↔ ∀ j, i ≤ j → j < n → p j = true) := by
    intro m
    induction m with
    | zero => intro i hi; obtain rfl : i = n := by omega
              exact ⟨true, (Ev.const _).succ hend, by simp; intro j _ _; omega⟩
    | succ m ih =>
      intro i hi
      obtain ⟨v, hv, hv'⟩ := ih (i + 1) (by omega)
      cases hp : p i with
      | false => exact ⟨false, (Ev.const _).succ fun k => by rw [hstep k i (by omega), hp]; rfl, by simp; exact ⟨i, Nat.le_refl _, by omega, hp⟩⟩
      | true =>
        refine ⟨v, hv.succ fun k => by rw [hstep k i (by omega), hp]; rfl, hv'.trans ⟨fun h j hj hn => ?_, fun h j hj hn => h j (by omega) hn⟩⟩
        by_cases hij : j = i
        · rw [hij]; exact hp
        · exact h j (by omega) hn
  exact key (n - i) i (by omega)
theorem all_eq {α : Type} {xs ys : List α} (hl : xs.length = ys.length) (q : α → α → Bool) (hq : ∀ x y, q x y = true ↔ x = y) (d : α) : (∀ j, 0 ≤ j → j < xs.length → q (xs.getD j d) (ys.getD j d) = true) ↔ xs = ys := by
  constructor
  · intro h
    refine List.ext_getElem hl fun i h1 h2 => ?_
    have := (hq _ _).1 (h i (Nat.zero_le _) h1)
    rwa [getD_eq h1, getD_eq h2] at this
  · rintro rfl j _ _
    exact (hq _ _).2 rfl
theorem Goes.fill {α R : Type} {L : Nat → Nat → List α → Option R} (xs : List α) (d : α) (hstep : ∀ k i ys, i < xs.length → ys.length = xs.length → L (k + 1) i ys = L k (i + 1) (ys.set i (xs.getD i d))) (ys : List α) (hy : ys.length = xs.length) :
    Goes (fun k => L k 0 ys) (fun k => L k xs.length xs) := by
  obtain ⟨s, ⟨hs1, hs2⟩, hs3⟩ := Goes.loop L xs.length (fun i s => s.length = xs.length ∧ s.take i = xs.take i) (fun i s hi ⟨h1, h2⟩ => ⟨s.set i (xs.getD i d), ⟨by simp [h1], by
    rw [List.take_add_one, List.take_add_one, List.take_set_of_le (Nat.le_refl _), h2]
    simp [hi, h1, getD_eq hi]⟩, Goes.succ fun k => hstep k i s hi h1⟩) 0 ys (Nat.zero_le _) ⟨hy, by simp⟩
  have : s = xs := by
    rw [List.take_of_length_le (by omega), List.take_of_length_le (Nat.le_refl _)] at hs2
    exact hs2
  rw [this] at hs3
  exact hs3
theorem ite_nb {α : Type} (b : Bool) (x y : α) : (if (!b) = true then x else y) = if b = true then y else x := by cases b <;> rfl
theorem Ev.allP {A B : Type} {L : Nat → Nat → Option ((Bool × A) × B)} {a : A} {b : B} {n : Nat} (P : Nat → Prop) (e : Bool) (hstep : ∀ i, i < n → (P i ∧ ∀ k, L (k + 1) i = L k (i + 1)) ∨ (¬ P i ∧ ∀ k, L (k + 1) i = some ((false, a), b))) (hend : Ev (fun k => L k n) ((e, a), b)) (i : Nat) (hi : i ≤ n) :
    ∃ v, Ev (fun k => L k i) ((v, a), b) ∧ (v = true ↔ e = true ∧ ∀ j, i ≤ j → j < n → P j) := by
  have key : ∀ m i, i + m = n → ∃ v, Ev (fun k => L k i) ((v, a), b) ∧ (v = true ↔ e = true ∧ ∀ j, i ≤ j → j < n → P j) := by
    intro m
    induction m with
    | zero => intro i hi; obtain rfl : i = n := by omega
              exact ⟨e, hend, ⟨fun h => ⟨h, fun j h1 h2 => by omega⟩, fun h => h.1⟩⟩
    | succ m ih =>
      intro i hi
      obtain ⟨v, hv, hv'⟩ := ih (i + 1) (by omega)
      rcases hstep i (by omega) with ⟨hp, h⟩ | ⟨hp, h⟩
      · refine ⟨v, hv.succ h, hv'.trans ⟨fun ⟨h1, h2⟩ => ⟨h1, fun j hj hn => ?_⟩, fun ⟨h1, h2⟩ => ⟨h1, fun j hj hn => h2 j (by omega) hn⟩⟩⟩
        by_cases hij : j = i
        · rw [hij]; exact hp
        · exact h2 j (by omega) hn
      · exact ⟨false, (Ev.const _).succ h, ⟨fun h => (by cases h), fun ⟨_, h2⟩ => absurd (h2 i (Nat.le_refl _) (by omega)) hp⟩⟩
  exact key (n - i) i (by omega)
theorem wrapP {i : Nat} (h : 0 < i) (h2 : i < 4611686018427387904) : IntKind.i64.wrap ((i : Int) - 1) = ((i - 1 : Nat) : Int) := by
  rw [wrapI (by omega) (by omega)]; omega
theorem Goes.foldl {α σ R : Type} {L : Nat → Nat → σ → Option R} (xs : List α) (d : α) (f : σ → α → σ) (hstep : ∀ k i s, i < xs.length → L (k + 1) i s = L k (i + 1) (f s (xs.getD i d))) (s : σ) : Goes (fun k => L k 0 s) (fun k => L k xs.length (xs.foldl f s)) := by
  have key : ∀ m i s, i + m = xs.length → Goes (fun k => L k i s) (fun k => L k xs.length ((xs.drop i).foldl f s)) := by
    intro m
    induction m with
    | zero => intro i s hi; obtain rfl : i = xs.length := by omega
              rw [List.drop_length]; exact Goes.refl _
    | succ m ih =>
      intro i s hi
      have h : i < xs.length := by omega
      refine (Goes.succ fun k => hstep k i s h).trans ?_
      rw [List.drop_eq_getElem_cons h, List.foldl_cons, ← getD_eq (d := d) h]
      exact ih (i + 1) _ (by omega)
  have := key xs.length 0 s (by omega)
  simpa using this
theorem getD_mem {α : Type} {xs : List α} {i : Nat} (d : α) (h : i < xs.length) : xs.getD i d ∈ xs := by rw [getD_eq h]; exact List.getElem_mem h
theorem Ev.allF {A B : Type} {L : Nat → Nat → Option ((Bool × A) × B)} {a : A} {b : B} {n : Nat} (P : Nat → Prop) (e : Bool) (i0 : Nat) (hstep : ∀ i, i0 ≤ i → i < n → (P i ∧ ∀ k, L (k + 1) i = L k (i + 1)) ∨ (¬ P i ∧ ∀ k, L (k + 1) i = some ((false, a), b))) (hend : Ev (fun k => L k n) ((e, a), b)) (i : Nat) (h0 : i0 ≤ i) (hi : i ≤ n) :
    ∃ v, Ev (fun k => L k i) ((v, a), b) ∧ (v = true ↔ e = true ∧ ∀ j, i ≤ j → j < n → P j) := by
  have key : ∀ m i, i0 ≤ i → i + m = n → ∃ v, Ev (fun k => L k i) ((v, a), b) ∧ (v = true ↔ e = true ∧ ∀ j, i ≤ j → j < n → P j) := by
    intro m
    induction m with
    | zero => intro i h0 hi; obtain rfl : i = n := by omega
              exact ⟨e, hend, ⟨fun h => ⟨h, fun j h1 h2 => by omega⟩, fun h => h.1⟩⟩
    | succ m ih =>
      intro i h0 hi
      obtain ⟨v, hv, hv'⟩ := ih (i + 1) (by omega) (by omega)
      rcases hstep i h0 (by omega) with ⟨hp, h⟩ | ⟨hp, h⟩
      · refine ⟨v, hv.succ h, hv'.trans ⟨fun ⟨h1, h2⟩ => ⟨h1, fun j hj hn => ?_⟩, fun ⟨h1, h2⟩ => ⟨h1, fun j hj hn => h2 j (by omega) hn⟩⟩⟩
        by_cases hij : j = i
        · rw [hij]; exact hp
        · exact h2 j (by omega) hn
      · exact ⟨false, (Ev.const _).succ h, ⟨fun h => (by cases h), fun ⟨_, h2⟩ => absurd (h2 i (Nat.le_refl _) (by omega)) hp⟩⟩
  exact key (n - i) i h0 (by omega)
open Go.Lib (compact compactUpTo compactUpTo_succ keeps)
theorem asc_ext : ∀ {xs ys : List Int}, xs.Pairwise (· < ·) → ys.Pairwise (· < ·) → (∀ s, s ∈ xs ↔ s ∈ ys) → xs = ys
  | [], ys, _, _, h => by
    cases ys with
    | nil => rfl
    | cons y ys => exact absurd ((h y).2 (by simp)) (by simp)
  | x :: xs, [], _, _, h => absurd ((h x).1 (by simp)) (by simp)
  | x :: xs, y :: ys, hx, hy, h => by
    rw [List.pairwise_cons] at hx hy
    have e : x = y := by
      have h1 := (h x).1 (by simp)
      have h2 := (h y).2 (by simp)
      simp only [List.mem_cons] at h1 h2
      rcases h1 with rfl | h1
      · rfl
      · rcases h2 with rfl | h2
        · rfl
        · have := hx.1 y h2; have := hy.1 x h1; omega
    subst e
    rw [asc_ext hx.2 hy.2 fun s => ?_]
    constructor
    · intro hs
      have := (h s).1 (by simp [hs])
      simp only [List.mem_cons] at this
      rcases this with rfl | this
      · have := hx.1 s hs; omega
      · exact this
    · intro hs
      have := (h s).2 (by simp [hs])
      simp only [List.mem_cons] at this
      rcases this with rfl | this
      · have := hy.1 s hs; omega
      · exact this
theorem compact_asc (d : Array Int) (hs : ∀ i j, i < j → j < d.size → d[i]! ≤ d[j]!) : ∀ m, m ≤ d.size → (compactUpTo d m).Pairwise (· < ·) ∧ (∀ x, x ∈ compactUpTo d m ↔ ∃ j, j < m ∧ d[j]! = x) ∧ ∀ x ∈ compactUpTo d m, x ≤ d[m - 1]!
  | 0, _ => ⟨by simp [compactUpTo], fun x => by simp [compactUpTo], fun x hx => by simp [compactUpTo] at hx⟩
  | m + 1, h => by
    obtain ⟨h1, h2, h3⟩ := compact_asc d hs m (by omega)
    have hm : ∀ x ∈ compactUpTo d m, x ≤ d[m]! := fun x hx => by
      obtain ⟨j, hj, rfl⟩ := (h2 x).1 hx
      exact hs j m hj (by omega)
    rw [compactUpTo_succ]
    by_cases hk : keeps d m = true
    · rw [if_pos hk]
      have hlt : ∀ x ∈ compactUpTo d m, x < d[m]! := fun x hx => by
        have hm0 : m ≠ 0 := by
          rintro rfl
          simp [compactUpTo] at hx
        simp only [keeps, hm0, false_or, decide_eq_true_eq, ne_eq] at hk
        have := h3 x hx
        have := hs (m - 1) m (by omega) (by omega)
        omega
      refine ⟨?_, fun x => ?_, fun x hx => ?_⟩
      · rw [List.pairwise_append]
        exact ⟨h1, by simp, fun a ha b hb => by simp only [List.mem_singleton] at hb; rw [hb]; exact hlt a ha⟩
      · rw [List.mem_append, h2, List.mem_singleton]
        constructor
        · rintro (⟨j, hj, rfl⟩ | rfl)
          · exact ⟨j, by omega, rfl⟩
          · exact ⟨m, by omega, rfl⟩
        · rintro ⟨j, hj, rfl⟩
          by_cases e : j = m
          · subst e; exact .inr rfl
          · exact .inl ⟨j, by omega, rfl⟩
      · simp only [Nat.add_sub_cancel]
        rw [List.mem_append, List.mem_singleton] at hx
        rcases hx with hx | rfl
        · exact hm x hx
        · exact Int.le_refl _
    · rw [if_neg hk, List.append_nil]
      have hm0 : m ≠ 0 ∧ d[m]! = d[m - 1]! := by
        simp only [keeps, decide_eq_true_eq, ne_eq, not_or, Classical.not_not] at hk
        exact hk
      refine ⟨h1, fun x => ?_, fun x hx => by simpa using hm x hx⟩
      rw [h2]
      constructor
      · rintro ⟨j, hj, rfl⟩; exact ⟨j, by omega, rfl⟩
      · rintro ⟨j, hj, rfl⟩
        by_cases e : j = m
        · subst e; exact ⟨j - 1, by omega, hm0.2.symm⟩
        · exact ⟨j, by omega, rfl⟩
def setI (xs : List Int) : List Int := compact (xs.mergeSort fun x y => decide (x ≤ y))
theorem setI_spec (xs : List Int) : (setI xs).Pairwise (· < ·) ∧ ∀ x, x ∈ setI xs ↔ x ∈ xs := by
  obtain ⟨ys, hys⟩ : ∃ ys, ys = xs.mergeSort fun x y => decide (x ≤ y) := ⟨_, rfl⟩
  have hp : ys.Perm xs := by rw [hys]; exact List.mergeSort_perm _ _
  have hs : ys.Pairwise (fun a b => decide (a ≤ b) = true) := by
    rw [hys]
    refine List.pairwise_mergeSort ?_ ?_ _
    · intro a b c h1 h2; simp only [decide_eq_true_eq] at *; omega
    · intro a b; simp only [Bool.or_eq_true, decide_eq_true_eq]; omega
  have hget : ∀ j (hj : j < ys.length), ys.toArray[j]! = ys[j] := fun j hj => by rw [getElem!_pos ys.toArray j (by simpa using hj)]; simp
  obtain ⟨h1, h2, -⟩ := compact_asc ys.toArray (fun i j hij hj => by
    have hj' : j < ys.length := by simpa using hj
    have := List.pairwise_iff_getElem.1 hs i j (by omega) hj' hij
    rw [hget i (by omega), hget j hj']
    simpa using this) ys.length (by simp)
  unfold setI
  rw [← hys]
  refine ⟨h1, fun x => ?_⟩
  show x ∈ compactUpTo ys.toArray ys.length ↔ _
  rw [h2, ← hp.mem_iff]
  constructor
  · rintro ⟨j, hj, rfl⟩; rw [hget j hj]; exact List.getElem_mem hj
  · intro hx
    obtain ⟨j, hj, rfl⟩ := List.getElem_of_mem hx
    exact ⟨j, hj, hget j hj⟩
theorem slices_Sort_Lint64_int64.val (xs : List Int) (h : xs.length ≤ 1048576) : slices_Sort_Lint64_int64.F (xs, ()) = some ((), (xs.mergeSort fun x y => decide (x ≤ y), ())) := by
  unfold slices_Sort_Lint64_int64.F sortIF
  rw [if_pos (show xs.length < _ by omega)]
theorem slices_Compact_Lint64_int64.val (xs : List Int) (h : xs.length ≤ 1048576) : slices_Compact_Lint64_int64.F (xs, ()) = some ((compact xs, ()), ()) := by
  unfold slices_Compact_Lint64_int64.F compIF
  rw [if_pos (show xs.length < _ by omega)]
def putL : List Int → Int → Bool → List Int
  | [], n, b => if b = true then [] else [n]
  | x :: l, n, b => if b = true then x :: putL l n true else if n ≤ x then (if n < x then n :: x :: putL l n true else x :: putL l n true) else x :: putL l n false
theorem putL_true (n : Int) : ∀ l, putL l n true = l
  | [] => rfl
  | x :: l => by simp [putL, putL_true n l]
theorem putL_spec (n : Int) : ∀ {l : List Int}, l.Pairwise (· < ·) → (putL l n false).Pairwise (· < ·) ∧ ∀ x, x ∈ putL l n false ↔ x = n ∨ x ∈ l
  | [], _ => ⟨by simp [putL], fun x => by simp [putL]⟩
  | y :: l, h => by
    rw [List.pairwise_cons] at h
    obtain ⟨h1, h2⟩ := putL_spec n h.2
    simp only [putL, Bool.false_eq_true, if_false, putL_true]
    by_cases c1 : n ≤ y
    · rw [if_pos c1]
      by_cases c2 : n < y
      · rw [if_pos c2]
        refine ⟨?_, fun x => by simp⟩
        rw [List.pairwise_cons, List.pairwise_cons]
        refine ⟨fun a ha => ?_, h.1, h.2⟩
        simp only [List.mem_cons] at ha
        rcases ha with rfl | ha
        · exact c2
        · have := h.1 a ha; omega
      · rw [if_neg c2]
        have : n = y := by omega
        subst this
        exact ⟨List.pairwise_cons.2 h, fun x => by simp⟩
    · rw [if_neg c1]
      refine ⟨List.pairwise_cons.2 ⟨fun a ha => ?_, h1⟩, fun x => ?_⟩
      · rcases (h2 a).1 ha with rfl | ha
        · omega
        · exact h.1 a ha
      · rw [List.mem_cons, h2, List.mem_cons]
        constructor
        · rintro (h | h | h)
          · exact .inr (.inl h)
          · exact .inl h
          · exact .inr (.inr h)
        · rintro (h | h | h)
          · exact .inr (.inl h)
          · exact .inl h
          · exact .inr (.inr h)
theorem putL_len (n : Int) (l : List Int) (b : Bool) : (putL l n b).length ≤ l.length + 1 := by
  induction l generalizing b with
  | nil => simp only [putL]; split <;> simp
  | cons x l ih =>
    have h1 := putL_true n l
    simp only [putL]
    split
    · rw [h1]; simp
    · split
      · split <;> rw [h1] <;> simp
      · have := ih false; simp only [List.length_cons]; omega
theorem spec_l00Put.val (xs : List Int) (n : Int) (h : xs.length ≤ 1000) : spec_l00Put.F (xs, n, ()) = some ((putL xs n false, ()), ()) := by
  refine spec_l00Put.of _ _ ?_
  have key : ∀ (m i : Nat) (b : Bool) (out : List Int), i + m = xs.length → out.length ≤ i + b.toNat → Ev (fun k => spec_l00Put.l4 k xs n b (i : Int) out) ((out ++ putL (xs.drop i) n b, ()), ()) := by
    intro m
    induction m with
    | zero =>
      intro i b out hi ho
      have ho1 : out.length ≤ i + 1 := by have := Bool.toNat_le b; omega
      have hi : i = xs.length := by omega
      subst hi
      refine (Ev.const _).succ fun k => ?_
      rw [spec_l00Put.l4_eq, if_neg (by simp), List.drop_length]
      cases b with
      | false => rw [if_pos (by simp), if_pos (by simp only [List.length_cons, List.length_nil, bigA]; omega)]; simp [putL]
      | true => rw [if_neg (by simp)]; simp [putL]
    | succ m ih =>
      intro i b out hi ho
      have ho1 : out.length ≤ i + 1 := by have := Bool.toNat_le b; omega
      have hlt : i < xs.length := by omega
      have hd : xs.drop i = xs.getD i 0 :: xs.drop (i + 1) := by rw [List.drop_eq_getElem_cons hlt, getD_eq hlt]
      have hb1 : out.length + ([xs.getD i 0] : List Int).length ≤ bigA := by simp only [List.length_cons, List.length_nil, bigA]; omega
      have hb2 : out.length + ([n] : List Int).length ≤ bigA := by simp only [List.length_cons, List.length_nil, bigA]; omega
      have hb3 : ∀ z : Int, (out ++ [n]).length + ([z] : List Int).length ≤ bigA := fun z => by simp only [List.length_append, List.length_cons, List.length_nil, bigA]; omega
      have E := fun k => spec_l00Put.l4_eq k xs n b (i : Int) out
      simp only [if_pos (ltI.2 hlt), if_pos (idxI.2 hlt), Int.toNat_natCast, wrapN (show i < 4611686018427387904 by omega), if_pos hb1] at E
      obtain ⟨y, hy⟩ : ∃ y, y = xs.getD i 0 := ⟨_, rfl⟩
      rw [← hy] at hd hb1
      simp only [← hy] at E
      rw [hd]
      cases b with
      | true =>
        have := ih (i + 1) true (out ++ [y]) (by omega) (by simp only [List.length_append, List.length_cons, List.length_nil, Bool.toNat_true, Bool.toNat_false] at *; omega)
        rw [List.append_assoc] at this
        refine Ev.succ this fun k => ?_
        rw [E, if_neg (by simp)]
      | false =>
        simp only [Bool.not_false, if_true] at E
        by_cases c1 : n ≤ y
        · by_cases c2 : n < y
          · have := ih (i + 1) true (out ++ [n] ++ [y]) (by omega) (by simp only [List.length_append, List.length_cons, List.length_nil, Bool.toNat_true, Bool.toNat_false] at *; omega)
            have e : out ++ [n] ++ [y] ++ putL (xs.drop (i + 1)) n true = out ++ putL (y :: xs.drop (i + 1)) n false := by simp [putL, c1, c2, putL_true]
            rw [e] at this
            refine Ev.succ this fun k => ?_
            rw [E, if_pos (by simpa using c1), if_pos (by simpa using c2), if_pos hb2, if_pos (hb3 _)]
          · have := ih (i + 1) true (out ++ [y]) (by omega) (by simp only [List.length_append, List.length_cons, List.length_nil, Bool.toNat_true, Bool.toNat_false] at *; omega)
            have e : out ++ [y] ++ putL (xs.drop (i + 1)) n true = out ++ putL (y :: xs.drop (i + 1)) n false := by simp [putL, c1, c2, putL_true]
            rw [e] at this
            refine Ev.succ this fun k => ?_
            rw [E, if_pos (by simpa using c1), if_neg (by simpa using c2)]
        · have := ih (i + 1) false (out ++ [y]) (by omega) (by simp only [List.length_append, List.length_cons, List.length_nil, Bool.toNat_true, Bool.toNat_false] at *; omega)
          have e : out ++ [y] ++ putL (xs.drop (i + 1)) n false = out ++ putL (y :: xs.drop (i + 1)) n false := by simp [putL, c1]
          rw [e] at this
          refine Ev.succ this fun k => ?_
          rw [E, if_neg (by simpa using c1)]
  exact (key xs.length 0 false [] (by omega) (by simp)).of_eq fun k => rfl
theorem puts_spec : ∀ (l acc : List Int), acc.Pairwise (· < ·) → (l.foldl (fun a n => putL a n false) acc).Pairwise (· < ·) ∧ ∀ x, x ∈ l.foldl (fun a n => putL a n false) acc ↔ x ∈ acc ∨ x ∈ l
  | [], acc, h => ⟨h, fun x => by simp⟩
  | n :: l, acc, h => by
    obtain ⟨h1, h2⟩ := putL_spec n h
    obtain ⟨h3, h4⟩ := puts_spec l _ h1
    refine ⟨h3, fun x => ?_⟩
    rw [List.foldl_cons, h4, h2, List.mem_cons]
    constructor
    · rintro ((h | h) | h)
      · exact .inr (.inl h)
      · exact .inl h
      · exact .inr (.inr h)
    · rintro (h | h | h)
      · exact .inl (.inr h)
      · exact .inl (.inl h)
      · exact .inr h
theorem puts_setI (l : List Int) : l.foldl (fun a n => putL a n false) [] = setI l := by
  obtain ⟨h1, h2⟩ := puts_spec l [] (by simp)
  obtain ⟨h3, h4⟩ := setI_spec l
  exact asc_ext h1 h3 fun s => by rw [h2, h4]; simp
theorem spec_l00In.val (n lo hi : Int) : spec_l00In.F (n, lo, hi, ()) = some ((decide (lo ≤ n ∧ n ≤ hi), ()), ()) := by
  rw [spec_l00In.eq, spec_l00In.T]
  by_cases h : lo ≤ n
  · rw [if_pos (by simp [h])]; simp [h]
  · rw [if_neg (by simp [h])]; simp [h]
theorem impl_within.val (n lo hi : Int) : impl_within.F (n, lo, hi, ()) = some ((decide (lo ≤ n ∧ n ≤ hi), ()), ()) := by
  rw [impl_within.eq, impl_within.T]
  by_cases h : lo ≤ n
  · rw [if_pos (by simp [h])]; simp [h]
  · rw [if_neg (by simp [h])]; simp [h]
def cmpI (x y : Int) : Int := if x < y then -1 else if x > y then 1 else 0
theorem cmp_Compare_int64.val (x y : Int) : cmp_Compare_int64.F (x, y, ()) = some ((cmpI x y, ()), ()) := by
  rw [cmp_Compare_int64.eq, cmp_Compare_int64.T, cmp_isNaN_int64.eq, cmp_isNaN_int64.T, cmp_isNaN_int64.eq, cmp_isNaN_int64.T]
  simp only [Option.bind_some, bne_self_eq_false, Bool.false_eq_true, if_false, decide_eq_true_eq, cmpI]
  repeat' split
  all_goals rfl
theorem cmp_Or_int.val2 (x y : Int) : cmp_Or_int.F ([x, y], ()) = some ((if x ≠ 0 then x else y, ()), ()) := by
  refine cmp_Or_int.of _ ⟨3, fun k hk => ?_⟩
  obtain ⟨k, rfl⟩ : ∃ j, k = j + 1 + 1 + 1 := ⟨k - 3, by omega⟩
  show cmp_Or_int.T (k + 1 + 1 + 1) [x, y] = _
  rw [cmp_Or_int.T, cmp_Or_int.l3_eq]
  by_cases hx : x = 0
  · subst hx
    simp only [List.length_cons, List.length_nil]
    rw [if_pos (by simp), if_pos (by simp), if_neg (by simp), cmp_Or_int.l3_eq]
    simp only [List.length_cons, List.length_nil]
    rw [wrapI (by omega) (by omega)]
    rw [if_pos (by simp), if_pos (by simp)]
    by_cases hy : y = 0
    · subst hy
      rw [if_neg (by simp), cmp_Or_int.l3_eq, wrapI (by omega) (by omega), if_neg (by simp)]; simp
    · rw [if_pos (by simp [hy])]; simp
  · simp only [List.length_cons, List.length_nil]
    rw [if_pos (by simp), if_pos (by simp), if_pos (by simp [hx])]
    simp [hx]
def Sm (xs : List Int) : Prop := xs.length ≤ 1048576
def SmL (xs : List (List Int)) : Prop := xs.length ≤ 1048576 ∧ ∀ x ∈ xs, Sm x
theorem sz_loop {α : Type} (L : Nat → Nat → Int → Option ((Int × Unit) × Unit)) (xs : List α) (d : α) (P : α → Prop)
    (hstep : ∀ i l, i < xs.length → 0 ≤ l → l ≤ 1048576 → (∃ r, 0 ≤ r ∧ r ≤ l ∧ P (xs.getD i d) ∧ ∀ k, L (k + 1) i l = L k (i + 1) r) ∨ ∀ k, L (k + 1) i l = some ((-1, ()), ()))
    (hend : ∀ k l, L (k + 1) xs.length l = some ((l, ()), ())) (l : Int) (h0 : 0 ≤ l) (h1 : l ≤ 1048576) :
    ∃ r, Ev (fun k => L k 0 l) ((r, ()), ()) ∧ (r = -1 ∨ 0 ≤ r ∧ r ≤ l ∧ ∀ x ∈ xs, P x) := by
  obtain ⟨r, hr, q, rfl, hq⟩ := Ev.loop (σ := Int) L xs.length (fun i s => 0 ≤ s ∧ s ≤ l ∧ ∀ j, j < i → P (xs.getD j d)) (fun r => ∃ q : Int, r = ((q, ()), ()) ∧ (q = -1 ∨ 0 ≤ q ∧ q ≤ l ∧ ∀ x ∈ xs, P x))
    (fun i s hi ⟨a, b, c⟩ => by
      rcases hstep i s hi a (by omega) with ⟨r, r0, r1, hp, e⟩ | e
      · refine .inr ⟨r, ⟨r0, by omega, fun j hj => ?_⟩, Goes.succ e⟩
        by_cases hji : j = i
        · rw [hji]; exact hp
        · exact c j (by omega)
      · exact .inl ⟨_, (Ev.const _).succ e, -1, rfl, .inl rfl⟩)
    (fun s ⟨a, b, c⟩ => ⟨_, (Ev.const _).succ fun k => hend k s, s, rfl, .inr ⟨a, b, fun x hx => by
      obtain ⟨j, hj, rfl⟩ := List.getElem_of_mem hx
      rw [← getD_eq (d := d) hj]; exact c j hj⟩⟩) 0 l (Nat.zero_le _) ⟨h0, Int.le_refl _, fun j hj => by omega⟩
  exact ⟨q, hr, hq⟩
theorem same_loop {α : Type} (L : Nat → Nat → Option ((Bool × Unit) × Unit)) (xs ys : List α) (d : α) (hl : xs.length = ys.length)
    (hstep : ∀ i, i < xs.length → ∃ b : Bool, (b = true ↔ xs.getD i d = ys.getD i d) ∧ ∀ k, L (k + 1) i = if (!b) = true then some ((false, ()), ()) else L k (i + 1))
    (hend : ∀ k, L (k + 1) xs.length = some ((true, ()), ())) : ∃ v, Ev (fun k => L k 0) ((v, ()), ()) ∧ (v = true ↔ xs = ys) := by
  obtain ⟨v, hv, hv'⟩ := Ev.allP (L := L) (a := ()) (b := ()) (n := xs.length) (fun i => xs.getD i d = ys.getD i d) true (fun i hi => by
    obtain ⟨b, hb, e⟩ := hstep i hi
    cases b with
    | true => exact .inl ⟨hb.1 rfl, fun k => by rw [e]; rfl⟩
    | false => exact .inr ⟨fun h => absurd (hb.2 h) (by simp), fun k => by rw [e]; rfl⟩) ((Ev.const _).succ hend) 0 (Nat.zero_le _)
  refine ⟨v, hv, hv'.trans ⟨fun ⟨_, h⟩ => ?_, fun h => ⟨rfl, fun j _ _ => by rw [h]⟩⟩⟩
  refine List.ext_getElem hl fun i h1 h2 => ?_
  have := h i (Nat.zero_le _) h1
  rwa [getD_eq h1, getD_eq h2] at this
theorem idx2 {i n : Nat} (h : i < n) : 0 ≤ (i : Int) ∧ (i : Int) < (n : Int) := by omega
def lexc : List Int → List Int → Int
  | [], [] => 0
  | [], _ :: _ => -1
  | _ :: _, [] => 1
  | a :: u, b :: v => if cmpI a b ≠ 0 then cmpI a b else lexc u v
theorem cmpI_cases (x y : Int) : (x < y ∧ cmpI x y = -1) ∨ (x = y ∧ cmpI x y = 0) ∨ (y < x ∧ cmpI x y = 1) := by
  unfold cmpI
  by_cases h : x < y
  · exact .inl ⟨h, if_pos h⟩
  · by_cases h2 : x > y
    · exact .inr (.inr ⟨h2, by rw [if_neg h, if_pos h2]⟩)
    · exact .inr (.inl ⟨by omega, by rw [if_neg h, if_neg h2]⟩)
theorem lexc_zero : ∀ (a b : List Int), lexc a b = 0 ↔ a = b
  | [], [] => by simp [lexc]
  | [], _ :: _ => by simp [lexc]
  | _ :: _, [] => by simp [lexc]
  | a :: u, b :: v => by
    rcases cmpI_cases a b with ⟨h, e⟩ | ⟨h, e⟩ | ⟨h, e⟩
    · simp [lexc, e]; intro h'; omega
    · subst h; simp [lexc, e, lexc_zero u v]
    · simp [lexc, e]; intro h'; omega
theorem lexc_trans : ∀ (a b c : List Int), lexc a b < 0 → lexc b c < 0 → lexc a c < 0
  | [], [], c, h1, _ => by simp [lexc] at h1
  | [], _ :: _, [], _, h2 => by simp [lexc] at h2
  | [], _ :: _, _ :: _, _, _ => by simp [lexc]
  | _ :: _, [], c, h1, _ => by simp [lexc] at h1
  | _ :: _, _ :: _, [], _, h2 => by simp [lexc] at h2
  | a :: u, b :: v, c :: w, h1, h2 => by
    have ih := lexc_trans u v w
    simp only [lexc] at h1 h2 ⊢
    rcases cmpI_cases a b with ⟨g1, e1⟩ | ⟨g1, e1⟩ | ⟨g1, e1⟩ <;> rcases cmpI_cases b c with ⟨g2, e2⟩ | ⟨g2, e2⟩ | ⟨g2, e2⟩ <;> rcases cmpI_cases a c with ⟨g3, e3⟩ | ⟨g3, e3⟩ | ⟨g3, e3⟩ <;> simp [e1, e2, e3] at h1 h2 ⊢ <;> first | omega | exact ih h1 h2
def cmpS (a b : List Int) : Int := if cmpI a.length b.length ≠ 0 then cmpI a.length b.length else lexc a b
theorem cmpS_zero (a b : List Int) : cmpS a b = 0 ↔ a = b := by
  unfold cmpS
  rcases cmpI_cases a.length b.length with ⟨h, e⟩ | ⟨h, e⟩ | ⟨h, e⟩
  · simp [e]; intro h'; rw [h'] at h; omega
  · simp [e, lexc_zero]
  · simp [e]; intro h'; rw [h'] at h; omega
theorem cmpS_trans (a b c : List Int) (h1 : cmpS a b < 0) (h2 : cmpS b c < 0) : cmpS a c < 0 := by
  unfold cmpS at *
  rcases cmpI_cases a.length b.length with ⟨g1, e1⟩ | ⟨g1, e1⟩ | ⟨g1, e1⟩ <;> rcases cmpI_cases b.length c.length with ⟨g2, e2⟩ | ⟨g2, e2⟩ | ⟨g2, e2⟩ <;> rcases cmpI_cases a.length c.length with ⟨g3, e3⟩ | ⟨g3, e3⟩ | ⟨g3, e3⟩ <;> simp [e1, e2, e3] at h1 h2 ⊢ <;> first | omega | exact lexc_trans a b c h1 h2
theorem cmpS_short {a b : List Int} (h : a.length < b.length) : cmpS a b < 0 := by
  unfold cmpS
  rcases cmpI_cases a.length b.length with ⟨g, e⟩ | ⟨g, e⟩ | ⟨g, e⟩
  · simp [e]
  · omega
  · omega
theorem cmp_Compare_int.val (x y : Int) : cmp_Compare_int.F (x, y, ()) = some ((cmpI x y, ()), ()) := by
  rw [cmp_Compare_int.eq, cmp_Compare_int.T, cmp_isNaN_int.eq, cmp_isNaN_int.T, cmp_isNaN_int.eq, cmp_isNaN_int.T]
  simp only [Option.bind_some, bne_self_eq_false, Bool.false_eq_true, if_false, decide_eq_true_eq, cmpI]
  repeat' split
  all_goals rfl
theorem lexc_drop {a b : List Int} {i : Nat} (ha : i < a.length) (hb : i < b.length) : lexc (a.drop i) (b.drop i) = if cmpI (a.getD i 0) (b.getD i 0) ≠ 0 then cmpI (a.getD i 0) (b.getD i 0) else lexc (a.drop (i + 1)) (b.drop (i + 1)) := by
  rw [List.drop_eq_getElem_cons ha, List.drop_eq_getElem_cons hb, getD_eq ha, getD_eq hb]; rfl
theorem slices_Compare_Lint64_int64.val (a b : List Int) (ha : a.length ≤ 1048576) (hb : b.length ≤ 1048576) : slices_Compare_Lint64_int64.F (a, b, ()) = some ((lexc a b, ()), ()) := by
  obtain ⟨r, hr, hq⟩ := Ev.loop (σ := Unit) (R := (Int × Unit) × Unit) (fun k i _ => slices_Compare_Lint64_int64.l2 k a b a a.length (i : Int)) a.length (fun i _ => i ≤ b.length ∧ lexc a b = lexc (a.drop i) (b.drop i)) (fun r => r = ((lexc a b, ()), ()))
    (fun i s hi ⟨h1, h2⟩ => by
      have E := fun k => slices_Compare_Lint64_int64.l2_eq k a b a a.length (i : Int)
      simp only [if_pos (ltI.2 hi), if_pos (idxI.2 hi), Int.toNat_natCast, wrapN (show i < 4611686018427387904 by omega)] at E
      by_cases hib : i < b.length
      · simp only [if_neg (show ¬ decide ((i : Int) ≥ (b.length : Int)) = true by simp; omega), if_pos (idxI.2 hib), cmp_Compare_int64.val, Option.bind_some] at E
        have hd := lexc_drop hi hib
        obtain ⟨cc, hcc⟩ : ∃ cc, cmpI (a.getD i 0) (b.getD i 0) = cc := ⟨_, rfl⟩
        rw [hcc] at hd
        simp only [hcc] at E
        by_cases hc : cc = 0
        · refine .inr ⟨(), ⟨by omega, by rw [h2, hd, if_neg (by simp [hc])]⟩, Goes.succ fun k => by rw [E, if_neg (by simp [hc])]⟩
        · exact .inl ⟨_, (Ev.const _).succ fun k => by rw [E, if_pos (by simp [hc])], by rw [h2, hd, if_pos hc]⟩
      · refine .inl ⟨_, (Ev.const _).succ fun k => by rw [E, if_pos (by simp; omega)], ?_⟩
        rw [h2, List.drop_eq_getElem_cons hi, List.drop_of_length_le (show b.length ≤ i by omega)]; rfl)
    (fun s ⟨h1, h2⟩ => by
      by_cases hl : a.length < b.length
      · refine ⟨_, (Ev.const _).succ fun k => by rw [slices_Compare_Lint64_int64.l2_eq, if_neg (by simp), if_pos (by simp; omega)], ?_⟩
        rw [h2, List.drop_of_length_le (Nat.le_refl _), List.drop_eq_getElem_cons hl]; rfl
      · refine ⟨_, (Ev.const _).succ fun k => by rw [slices_Compare_Lint64_int64.l2_eq, if_neg (by simp), if_neg (by simp; omega)], ?_⟩
        rw [h2, List.drop_of_length_le (Nat.le_refl _), List.drop_of_length_le (by omega)]; rfl) 0 () (Nat.zero_le _) ⟨Nat.zero_le _, rfl⟩
  subst hq
  exact slices_Compare_Lint64_int64.of _ _ (hr.of_eq fun k => rfl)
theorem impl_compareSimplices.val (a b : List Int) (ha : a.length ≤ 1048576) (hb : b.length ≤ 1048576) : impl_compareSimplices.F (a, b, ()) = some ((cmpS a b, ()), ()) := by
  rw [impl_compareSimplices.eq, impl_compareSimplices.T, cmp_Compare_int.val, slices_Compare_Lint64_int64.val a b ha hb]
  simp only [Option.bind_some, cmp_Or_int.val2, cmpS]
theorem spec_l05Before.val (a b : List Int) (ha : a.length ≤ 1048576) : spec_l05Before.F (a, b, ()) = some ((decide (cmpS a b < 0), ()), ()) := by
  by_cases hl : a.length = b.length
  · obtain ⟨r, hr, hq⟩ := Ev.loop (σ := Unit) (R := (Bool × Unit) × Unit) (fun k i _ => spec_l05Before.l4 k a b (i : Int)) a.length (fun i _ => lexc a b = lexc (a.drop i) (b.drop i)) (fun r => r = ((decide (lexc a b < 0), ()), ()))
      (fun i s hi h2 => by
        have hib : i < b.length := by omega
        have E := fun k => spec_l05Before.l4_eq k a b (i : Int)
        simp only [if_pos (ltI.2 hi), if_pos (idxI.2 hi), if_pos (idxI.2 hib), Int.toNat_natCast, wrapN (show i < 4611686018427387904 by omega)] at E
        have hd := lexc_drop hi hib
        obtain ⟨ai, hai⟩ : ∃ ai, a.getD i 0 = ai := ⟨_, rfl⟩
        obtain ⟨bi, hbi⟩ : ∃ bi, b.getD i 0 = bi := ⟨_, rfl⟩
        rw [hai, hbi] at hd
        simp only [hai, hbi] at E
        rcases cmpI_cases ai bi with ⟨g, e⟩ | ⟨g, e⟩ | ⟨g, e⟩
        · refine .inl ⟨_, (Ev.const _).succ fun k => by rw [E, if_pos (by simp; omega)], ?_⟩
          rw [h2, hd, if_pos (by rw [e]; omega), e]; simp [g]
        · exact .inr ⟨(), by rw [h2, hd, if_neg (by rw [e]; simp)], Goes.succ fun k => by rw [E, if_neg (by simp [g])]⟩
        · refine .inl ⟨_, (Ev.const _).succ fun k => by rw [E, if_pos (by simp; omega)], ?_⟩
          rw [h2, hd, if_pos (by rw [e]; omega), e]; simp; omega)
      (fun s h2 => ⟨_, (Ev.const _).succ fun k => by rw [spec_l05Before.l4_eq, if_neg (by simp)], by rw [h2, List.drop_of_length_le (Nat.le_refl _), List.drop_of_length_le (by omega)]; rfl⟩) 0 () (Nat.zero_le _) rfl
    subst hq
    refine spec_l05Before.of _ _ (hr.of_eq fun k => ?_) |>.trans ?_
    · rw [spec_l05Before.T, if_neg (by simp [hl])]; rfl
    · have : cmpS a b = lexc a b := by
        unfold cmpS
        rcases cmpI_cases a.length b.length with ⟨g, e⟩ | ⟨g, e⟩ | ⟨g, e⟩
        · omega
        · simp [e]
        · omega
      rw [this]
  · have : decide (cmpS a b < 0) = decide ((a.length : Int) < (b.length : Int)) := by
      unfold cmpS
      rcases cmpI_cases a.length b.length with ⟨g, e⟩ | ⟨g, e⟩ | ⟨g, e⟩
      · simp [e]; omega
      · omega
      · simp [e]; omega
    rw [this]
    exact spec_l05Before.of _ _ ((Ev.const _).of_eq fun k => by rw [spec_l05Before.T, if_pos (by simp; omega)])
def SortedS (xs : List (List Int)) : Prop := ∀ i j, i < j → j < xs.length → cmpS (xs.getD i []) (xs.getD j []) < 0
theorem sorted_adj {xs : List (List Int)} (h : ∀ i, 0 < i → i < xs.length → cmpS (xs.getD (i - 1) []) (xs.getD i []) < 0) : SortedS xs := by
  intro i j
  induction j with
  | zero => intro h1; omega
  | succ j ih =>
    intro h1 h2
    have h3 := h (j + 1) (by omega) h2
    simp only [Nat.add_sub_cancel] at h3
    by_cases hij : i = j
    · rw [hij]; exact h3
    · exact cmpS_trans _ _ _ (ih (by omega) (by omega)) h3
theorem wrapU {x : Int} (h1 : 0 ≤ x) (h2 : x < 18446744073709551616) : IntKind.u64.wrap x = x := by
  have e : (2 : Int) ^ (IntKind.u64).bits = 18446744073709551616 := by decide
  unfold IntKind.wrap
  simp only [e, show IntKind.u64.signed = false from rfl, Bool.false_and, Bool.false_eq_true, if_false]
  omega
theorem midI {i j : Nat} (h : i + j < 4611686018427387904) : IntKind.i64.wrap ((IntKind.u64.wrap (IntKind.i64.wrap ((i : Int) + (j : Int)))).fdiv (2 ^ (min (1 : Int).toNat IntKind.u64.bits))) = (((i + j) / 2 : Nat) : Int) := by
  rw [wrapI (x := (i : Int) + (j : Int)) (by omega) (by omega), wrapU (by omega) (by omega)]
  have e : (2 : Int) ^ (min (1 : Int).toNat IntKind.u64.bits) = ((2 : Nat) : Int) := by decide
  rw [e, show (i : Int) + (j : Int) = ((i + j : Nat) : Int) by omega, ← Int.ofNat_fdiv, wrapI (by omega) (by omega)]
theorem binSearch.val (xs : List (List Int)) (t : List Int) (hs : SortedS xs) (h1 : SmL xs) (h2 : t.length ≤ 1048576) :
    ∃ r : Int, ∃ b : Bool, slices_BinarySearchFunc_LLint64_Lint64_Lint64.F (xs, t, impl_compareSimplices.cloG (()), ()) = some ((r, (b, ())), ()) ∧ 0 ≤ r ∧ (b = true ↔ t ∈ xs) ∧ (b = true → r.toNat < xs.length ∧ xs.getD r.toNat [] = t) := by
  have hn := h1.1
  have hcmp : ∀ i, i < xs.length → impl_compareSimplices.cloG (()) (xs.getD i [], t, ()) = some (cmpS (xs.getD i []) t, ()) := fun i hi => by
    show (impl_compareSimplices.F (xs.getD i [], t, ())).map (·.1) = _
    rw [impl_compareSimplices.val _ _ (h1.2 _ (getD_mem _ hi)) h2]; rfl
  have key : ∀ d i j : Nat, j - i ≤ d → i ≤ j → j ≤ xs.length → (∀ m, m < i → cmpS (xs.getD m []) t < 0) → (∀ m, j ≤ m → m < xs.length → ¬ cmpS (xs.getD m []) t < 0) →
      ∃ r : Int, ∃ b : Bool, Ev (fun k => slices_BinarySearchFunc_LLint64_Lint64_Lint64.l3 k xs t (impl_compareSimplices.cloG (())) xs.length (i : Int) (j : Int)) ((r, (b, ())), ()) ∧ 0 ≤ r ∧ (b = true ↔ t ∈ xs) ∧ (b = true → r.toNat < xs.length ∧ xs.getD r.toNat [] = t) := by
    intro d
    induction d with
    | zero =>
      intro i j hd hij hj hlo hhi
      obtain rfl : i = j := by omega
      have E := fun k => slices_BinarySearchFunc_LLint64_Lint64_Lint64.l3_eq k xs t (impl_compareSimplices.cloG (())) xs.length (i : Int) (i : Int)
      simp only [if_neg (show ¬ decide ((i : Int) < (i : Int)) = true by simp)] at E
      by_cases hi : i < xs.length
      · simp only [if_pos (ltI.2 hi), if_pos (idxI.2 hi), Int.toNat_natCast, hcmp i hi, Option.bind_some] at E
        refine ⟨_, _, (Ev.const _).succ E, by omega, ?_, fun hb => ?_⟩
        rotate_left
        · simp only [beq_iff_eq, cmpS_zero] at hb
          rw [Int.toNat_natCast]; exact ⟨hi, hb⟩
        simp only [beq_iff_eq, cmpS_zero]
        refine ⟨fun h => h ▸ getD_mem [] hi, fun h => ?_⟩
        obtain ⟨m, hm, e⟩ := List.getElem_of_mem h
        have e' : xs.getD m [] = t := by rw [getD_eq hm]; exact e
        rcases Nat.lt_trichotomy m i with h3 | h3 | h3
        · have := hlo m h3
          rw [e', (cmpS_zero t t).2 rfl] at this; omega
        · rw [← h3]; exact e'
        · have := hs i m h3 hm
          rw [e'] at this
          exact absurd this (hhi i (Nat.le_refl _) hi)
      · simp only [if_neg (show ¬ decide ((i : Int) < (xs.length : Int)) = true by simp; omega)] at E
        refine ⟨_, _, (Ev.const _).succ E, by omega, ?_, fun hb => by cases hb⟩
        simp only [Bool.false_eq_true, false_iff]
        intro h
        obtain ⟨m, hm, e⟩ := List.getElem_of_mem h
        have e' : xs.getD m [] = t := by rw [getD_eq hm]; exact e
        have := hlo m (by omega)
        rw [e', (cmpS_zero t t).2 rfl] at this; omega
    | succ d ih =>
      intro i j hd hij hj hlo hhi
      by_cases he : i = j
      · exact ih i j (by omega) hij hj hlo hhi
      have E := fun k => slices_BinarySearchFunc_LLint64_Lint64_Lint64.l3_eq k xs t (impl_compareSimplices.cloG (())) xs.length (i : Int) (j : Int)
      have hm : (i + j) / 2 < xs.length := by omega
      simp only [if_pos (show decide ((i : Int) < (j : Int)) = true by simp; omega), if_neg (show ¬ (1 : Int) < 0 by omega), midI (show i + j < 4611686018427387904 by omega), if_pos (idxI.2 hm), Int.toNat_natCast, hcmp _ hm, Option.bind_some, wrapN (show (i + j) / 2 < 4611686018427387904 by omega)] at E
      by_cases hc : cmpS (xs.getD ((i + j) / 2) []) t < 0
      · obtain ⟨r, b, hr, h⟩ := ih ((i + j) / 2 + 1) j (by omega) (by omega) hj (fun m hm2 => by
          by_cases h3 : m = (i + j) / 2
          · rw [h3]; exact hc
          · exact cmpS_trans _ _ _ (hs m ((i + j) / 2) (by omega) hm) hc) hhi
        exact ⟨r, b, hr.succ fun k => by rw [E, if_pos (by simpa using hc)], h⟩
      · obtain ⟨r, b, hr, h⟩ := ih i ((i + j) / 2) (by omega) (by omega) (by omega) hlo (fun m hm2 hm3 h4 => by
          by_cases h3 : m = (i + j) / 2
          · rw [h3] at h4; exact hc h4
          · exact hc (cmpS_trans _ _ _ (hs ((i + j) / 2) m (by omega) hm3) h4))
        exact ⟨r, b, hr.succ fun k => by rw [E, if_neg (by simpa using hc)], h⟩
  obtain ⟨r, b, hr, h⟩ := key xs.length 0 xs.length (by omega) (Nat.zero_le _) (Nat.le_refl _) (fun m hm => by omega) (fun m h3 h4 => by omega)
  exact ⟨r, b, slices_BinarySearchFunc_LLint64_Lint64_Lint64.of _ _ _ (hr.of_eq fun k => rfl), h⟩
theorem impl_indexOf.val (xs : List (List Int)) (t : List Int) (hs : SortedS xs) (h1 : SmL xs) (h2 : t.length ≤ 1048576) : ∃ r : Int, impl_indexOf.F (xs, t, ()) = some ((r, ()), ()) ∧ (r < 0 ↔ t ∉ xs) := by
  obtain ⟨r, b, hr, h3, h4, -⟩ := binSearch.val xs t hs h1 h2
  rw [impl_indexOf.eq, impl_indexOf.T, hr]
  simp only [Option.bind_some]
  cases b with
  | true => exact ⟨r, by rw [if_neg (by simp)], by simp [h4.1 rfl]; omega⟩
  | false => exact ⟨-1, by rw [if_pos (by simp)], by simp; intro h; exact absurd (h4.2 h) (by simp)⟩
theorem sorted_inj {xs : List (List Int)} (hs : SortedS xs) {i j : Nat} (hi : i < xs.length) (hj : j < xs.length) (h : xs.getD i [] = xs.getD j []) : i = j := by
  rcases Nat.lt_trichotomy i j with h1 | h1 | h1
  · have := hs i j h1 hj
    rw [h, (cmpS_zero _ _).2 rfl] at this; omega
  · exact h1
  · have := hs j i h1 hi
    rw [h, (cmpS_zero _ _).2 rfl] at this; omega
theorem slices_IndexFunc_LLint64_Lint64.val (xs : List (List Int)) (f : List Int × Unit → Option (Bool × Unit)) (p : List Int → Bool) (hf : ∀ x ∈ xs, f (x, ()) = some (p x, ())) (hn : xs.length < 4611686018427387904) :
    ∃ r : Int, slices_IndexFunc_LLint64_Lint64.F (xs, f, ()) = some ((r, ()), ()) ∧ ((r = -1 ∧ ∀ x ∈ xs, p x = false) ∨ ∃ j : Nat, j < xs.length ∧ r = j ∧ p (xs.getD j []) = true ∧ ∀ i, i < j → p (xs.getD i []) = false) := by
  obtain ⟨r, hr, hq⟩ := Ev.loop (σ := Unit) (R := (Int × Unit) × Unit) (fun k i _ => slices_IndexFunc_LLint64_Lint64.l2 k xs f xs.length (i : Int)) xs.length (fun i _ => ∀ j, j < i → p (xs.getD j []) = false)
    (fun r => ∃ v : Int, r = ((v, ()), ()) ∧ ((v = -1 ∧ ∀ x ∈ xs, p x = false) ∨ ∃ j : Nat, j < xs.length ∧ v = j ∧ p (xs.getD j []) = true ∧ ∀ i, i < j → p (xs.getD i []) = false))
    (fun i s hi hI => by
      have E := fun k => slices_IndexFunc_LLint64_Lint64.l2_eq k xs f xs.length (i : Int)
      simp only [if_pos (ltI.2 hi), if_pos (idxI.2 hi), Int.toNat_natCast, hf _ (getD_mem [] hi), Option.bind_some, wrapN (show i < 4611686018427387904 by omega)] at E
      cases hp : p (xs.getD i []) with
      | true => exact .inl ⟨_, (Ev.const _).succ fun k => by rw [E, if_pos hp], i, rfl, .inr ⟨i, hi, rfl, hp, hI⟩⟩
      | false =>
        refine .inr ⟨(), fun j hj => ?_, Goes.succ fun k => by rw [E, if_neg (by rw [hp]; simp)]⟩
        by_cases hji : j = i
        · rw [hji]; exact hp
        · exact hI j (by omega))
    (fun s hI => ⟨_, (Ev.const _).succ fun k => by rw [slices_IndexFunc_LLint64_Lint64.l2_eq, if_neg (by simp)], -1, rfl, .inl ⟨rfl, fun x hx => by
      obtain ⟨j, hj, rfl⟩ := List.getElem_of_mem hx
      rw [← getD_eq (d := []) hj]; exact hI j hj⟩⟩) 0 () (Nat.zero_le _) (by intro j hj; omega)
  obtain ⟨v, rfl, hv⟩ := hq
  exact ⟨v, slices_IndexFunc_LLint64_Lint64.of _ _ (hr.of_eq fun k => rfl), hv⟩
theorem slices_ContainsFunc_LLint64_Lint64.val (xs : List (List Int)) (f : List Int × Unit → Option (Bool × Unit)) (p : List Int → Bool) (hf : ∀ x ∈ xs, f (x, ()) = some (p x, ())) (hn : xs.length < 4611686018427387904) :
    slices_ContainsFunc_LLint64_Lint64.F (xs, f, ()) = some ((xs.any p, ()), ()) := by
  obtain ⟨r, hr, h⟩ := slices_IndexFunc_LLint64_Lint64.val xs f p hf hn
  rw [slices_ContainsFunc_LLint64_Lint64.eq, slices_ContainsFunc_LLint64_Lint64.T, hr]
  simp only [Option.bind_some]
  rcases h with ⟨rfl, h⟩ | ⟨j, hj, rfl, hp, -⟩
  · have : xs.any p = false := by simp only [List.any_eq_false]; intro x hx; simp [h x hx]
    rw [this]; rfl
  · have : xs.any p = true := List.any_eq_true.2 ⟨_, getD_mem [] hj, hp⟩
    rw [this]; simp
theorem slices_IndexFunc_Lint64_int64.val (xs : List Int) (f : Int × Unit → Option (Bool × Unit)) (p : Int → Bool) (hf : ∀ x ∈ xs, f (x, ()) = some (p x, ())) (hn : xs.length < 4611686018427387904) :
    ∃ r : Int, slices_IndexFunc_Lint64_int64.F (xs, f, ()) = some ((r, ()), ()) ∧ ((r = -1 ∧ ∀ x ∈ xs, p x = false) ∨ ∃ j : Nat, j < xs.length ∧ r = j ∧ p (xs.getD j 0) = true ∧ ∀ i, i < j → p (xs.getD i 0) = false) := by
  obtain ⟨r, hr, hq⟩ := Ev.loop (σ := Unit) (R := (Int × Unit) × Unit) (fun k i _ => slices_IndexFunc_Lint64_int64.l2 k xs f xs.length (i : Int)) xs.length (fun i _ => ∀ j, j < i → p (xs.getD j 0) = false)
    (fun r => ∃ v : Int, r = ((v, ()), ()) ∧ ((v = -1 ∧ ∀ x ∈ xs, p x = false) ∨ ∃ j : Nat, j < xs.length ∧ v = j ∧ p (xs.getD j 0) = true ∧ ∀ i, i < j → p (xs.getD i 0) = false))
    (fun i s hi hI => by
      have E := fun k => slices_IndexFunc_Lint64_int64.l2_eq k xs f xs.length (i : Int)
      simp only [if_pos (ltI.2 hi), if_pos (idxI.2 hi), Int.toNat_natCast, hf _ (getD_mem 0 hi), Option.bind_some, wrapN (show i < 4611686018427387904 by omega)] at E
      cases hp : p (xs.getD i 0) with
      | true => exact .inl ⟨_, (Ev.const _).succ fun k => by rw [E, if_pos hp], i, rfl, .inr ⟨i, hi, rfl, hp, hI⟩⟩
      | false =>
        refine .inr ⟨(), fun j hj => ?_, Goes.succ fun k => by rw [E, if_neg (by rw [hp]; simp)]⟩
        by_cases hji : j = i
        · rw [hji]; exact hp
        · exact hI j (by omega))
    (fun s hI => ⟨_, (Ev.const _).succ fun k => by rw [slices_IndexFunc_Lint64_int64.l2_eq, if_neg (by simp)], -1, rfl, .inl ⟨rfl, fun x hx => by
      obtain ⟨j, hj, rfl⟩ := List.getElem_of_mem hx
      rw [← getD_eq (d := 0) hj]; exact hI j hj⟩⟩) 0 () (Nat.zero_le _) (by intro j hj; omega)
  obtain ⟨v, rfl, hv⟩ := hq
  exact ⟨v, slices_IndexFunc_Lint64_int64.of _ _ (hr.of_eq fun k => rfl), hv⟩
theorem slices_ContainsFunc_Lint64_int64.val (xs : List Int) (f : Int × Unit → Option (Bool × Unit)) (p : Int → Bool) (hf : ∀ x ∈ xs, f (x, ()) = some (p x, ())) (hn : xs.length < 4611686018427387904) :
    slices_ContainsFunc_Lint64_int64.F (xs, f, ()) = some ((xs.any p, ()), ()) := by
  obtain ⟨r, hr, h⟩ := slices_IndexFunc_Lint64_int64.val xs f p hf hn
  rw [slices_ContainsFunc_Lint64_int64.eq, slices_ContainsFunc_Lint64_int64.T, hr]
  simp only [Option.bind_some]
  rcases h with ⟨rfl, h⟩ | ⟨j, hj, rfl, hp, -⟩
  · have : xs.any p = false := by simp only [List.any_eq_false]; intro x hx; simp [h x hx]
    rw [this]; rfl
  · have : xs.any p = true := List.any_eq_true.2 ⟨_, getD_mem 0 hj, hp⟩
    rw [this]; simp
def Rising (xs : List Int) : Prop := ∀ i, 0 < i → i < xs.length → xs.getD (i - 1) 0 < xs.getD i 0
def AllIn (lo hi : Int) (xs : List Int) : Prop := ∀ a ∈ xs, lo ≤ a ∧ a ≤ hi
theorem allIn_iff {lo hi : Int} {xs : List Int} : AllIn lo hi xs ↔ ∀ i, i < xs.length → lo ≤ xs.getD i 0 ∧ xs.getD i 0 ≤ hi := by
  refine ⟨fun h i hi => h _ (getD_mem 0 hi), fun h a ha => ?_⟩
  obtain ⟨j, hj, rfl⟩ := List.getElem_of_mem ha
  have := h j hj
  rwa [getD_eq hj] at this
theorem spec_l00Rises.val (xs : List Int) (lo hi : Int) (hn : xs.length < 4611686018427387904) : ∃ v, spec_l00Rises.F (xs, lo, hi, ()) = some ((v, ()), ()) ∧ (v = true ↔ AllIn lo hi xs ∧ Rising xs) := by
  obtain ⟨v, hv, hv'⟩ := Ev.allP (L := fun k i => spec_l00Rises.l2 k xs lo hi (i : Int)) (a := ()) (b := ()) (n := xs.length) (fun i => (lo ≤ xs.getD i 0 ∧ xs.getD i 0 ≤ hi) ∧ (0 < i → xs.getD (i - 1) 0 < xs.getD i 0)) true (fun i hi2 => by
    have E := fun k => spec_l00Rises.l2_eq k xs lo hi (i : Int)
    simp only [if_pos (ltI.2 hi2), if_pos (idxI.2 hi2), Int.toNat_natCast, spec_l00In.val, Option.bind_some, wrapN (show i < 4611686018427387904 by omega)] at E
    by_cases h : lo ≤ xs.getD i 0 ∧ xs.getD i 0 ≤ hi
    · simp only [decide_eq_true h, Bool.not_true, Bool.false_eq_true, if_false] at E
      by_cases h0 : 0 < i
      · have h1 : i - 1 < xs.length := by omega
        simp only [if_pos (show decide ((i : Int) > 0) = true by simp; omega), wrapP h0 (show i < 4611686018427387904 by omega), if_pos (idxI.2 h1), Int.toNat_natCast] at E
        by_cases h2 : xs.getD (i - 1) 0 < xs.getD i 0
        · exact .inl ⟨⟨h, fun _ => h2⟩, fun k => by rw [E, if_neg (by simp only [decide_eq_true_eq]; omega)]⟩
        · exact .inr ⟨fun hh => h2 (hh.2 h0), fun k => by rw [E, if_pos (by simp only [decide_eq_true_eq]; omega)]⟩
      · exact .inl ⟨⟨h, fun h1 => absurd h1 h0⟩, fun k => by rw [E, if_neg (by simp only [decide_eq_true_eq]; omega)]⟩
    · exact .inr ⟨fun hh => h hh.1, fun k => by rw [E, if_pos (by rw [decide_eq_false h]; rfl)]⟩) ((Ev.const _).succ fun k => by rw [spec_l00Rises.l2_eq, if_neg (by simp)]) 0 (Nat.zero_le _)
  refine ⟨v, spec_l00Rises.of _ _ _ (hv.of_eq fun k => rfl), hv'.trans ?_⟩
  rw [allIn_iff]
  exact ⟨fun ⟨_, h⟩ => ⟨fun i hi => (h i (Nat.zero_le _) hi).1, fun i h0 hi => (h i (Nat.zero_le _) hi).2 h0⟩, fun ⟨h1, h2⟩ => ⟨rfl, fun i _ hi => ⟨h1 i hi, fun h0 => h2 i h0 hi⟩⟩⟩
theorem impl_isRising.val (xs : List Int) (hn : xs.length < 4611686018427387904) : ∃ v, impl_isRising.F (xs, ()) = some ((v, ()), ()) ∧ (v = true ↔ Rising xs) := by
  by_cases hz : xs.length = 0
  · exact ⟨true, impl_isRising.of _ (((Ev.const _).succ fun k => by rw [impl_isRising.T, impl_isRising.l2_eq, if_neg (by simp [hz])]).of_eq fun k => rfl), by simp; intro i h1 h2; omega⟩
  obtain ⟨v, hv, hv'⟩ := Ev.allF (L := fun k i => impl_isRising.l2 k xs (i : Int)) (a := ()) (b := ()) (n := xs.length) (fun i => 0 < i → xs.getD (i - 1) 0 < xs.getD i 0) true 1 (fun i h0 hi2 => by
    have E := fun k => impl_isRising.l2_eq k xs (i : Int)
    have h0 : 0 < i := h0
    · have h1 : i - 1 < xs.length := by omega
      simp only [if_pos (ltI.2 hi2), if_pos (idxI.2 hi2), Int.toNat_natCast, wrapN (show i < 4611686018427387904 by omega), wrapP h0 (show i < 4611686018427387904 by omega), if_pos (idxI.2 h1)] at E
      by_cases h2 : xs.getD (i - 1) 0 < xs.getD i 0
      · exact .inl ⟨fun _ => h2, fun k => by rw [E, if_neg (by simp only [decide_eq_true_eq]; omega)]⟩
      · exact .inr ⟨fun hh => h2 (hh h0), fun k => by rw [E, if_pos (by simp only [decide_eq_true_eq]; omega)]⟩) ((Ev.const _).succ fun k => by rw [impl_isRising.l2_eq, if_neg (by simp)]) 1 (Nat.le_refl _) (by omega)
  refine ⟨v, impl_isRising.of _ (hv.of_eq fun k => rfl), hv'.trans ?_⟩
  exact ⟨fun ⟨_, h⟩ i h0 hi => h i h0 hi h0, fun h => ⟨rfl, fun i _ hi h0 => h i h0 hi⟩⟩
theorem spec_l00Same.same (xs ys : List Int) (h : Sm xs) : ∃ b, spec_l00Same.F (xs, ys, ()) = some ((b, ()), ()) ∧ (b = true ↔ xs = ys) := by
  have hn : xs.length ≤ 1048576 := h
  by_cases hl : xs.length = ys.length
  · obtain ⟨b, hb, hb'⟩ := same_loop (fun k i => spec_l00Same.l4 k xs ys (i : Int)) xs ys 0 hl (fun i hi => ⟨xs.getD i 0 == ys.getD i 0, by simp, fun k => by
      rw [spec_l00Same.l4_eq, if_pos (ltI.2 hi), if_pos (idxI.2 hi), if_pos (idx2 (hl ▸ hi))]; simp only [Int.toNat_natCast]; rw [wrapN (by omega)]; rfl⟩) (fun k => by rw [spec_l00Same.l4_eq, if_neg (by simp)])
    exact ⟨b, spec_l00Same.of _ _ (hb.of_eq fun k => by rw [spec_l00Same.T, if_neg (by simp [hl])]; rfl), hb'⟩
  · exact ⟨false, spec_l00Same.of _ _ ((Ev.const _).of_eq fun k => by rw [spec_l00Same.T, if_pos (by simp; omega)]), by simp; intro e; exact hl (by rw [e])⟩
def dropAt (s : List Int) (k : Nat) : List Int := s.take k ++ s.drop (k + 1)
theorem dropAt_length {s : List Int} {k : Nat} (h : k < s.length) : (dropAt s k).length = s.length - 1 := by simp [dropAt]; omega
def SimpOk (s : List Int) : Prop := (1 ≤ s.length ∧ s.length ≤ 4) ∧ AllIn 0 9 s ∧ Rising s
def CplxOk (c : List (List Int)) : Prop := c.length ≤ 48 ∧ ∀ i, i < c.length → SimpOk (c.getD i []) ∧ (0 < i → cmpS (c.getD (i - 1) []) (c.getD i []) < 0) ∧ (1 < (c.getD i []).length → ∀ k, k < (c.getD i []).length → dropAt (c.getD i []) k ∈ c)
theorem CplxOk.sorted {c : List (List Int)} (h : CplxOk c) : SortedS c := sorted_adj fun i h0 hi => (h.2 i hi).2.1 h0
theorem CplxOk.small {c : List (List Int)} (h : CplxOk c) : SmL c := ⟨by have := h.1; omega, fun x hx => by
  obtain ⟨j, hj, rfl⟩ := List.getElem_of_mem hx
  have := (h.2 j hj).1.1.2
  rw [getD_eq hj] at this
  unfold Sm; omega⟩
theorem spec_l05Find.val (c : List (List Int)) (s : List Int) (h : SmL c) : ∃ r : Int, spec_l05Find.F (c, s, ()) = some ((r, ()), ()) ∧ (r < 0 ↔ s ∉ c) := by
  have hn := h.1
  obtain ⟨v, hv, r, hv', hr⟩ := Ev.loop (σ := Unit) (R := (Int × Unit) × Unit) (fun k i _ => spec_l05Find.l2 k c s (i : Int)) c.length (fun i _ => ∀ j, j < i → c.getD j [] ≠ s) (fun v => ∃ r : Int, v = ((r, ()), ()) ∧ (r < 0 ↔ s ∉ c))
    (fun i _ hi hI => by
      have E := fun k => spec_l05Find.l2_eq k c s (i : Int)
      obtain ⟨b, hb, hb'⟩ := spec_l00Same.same (c.getD i []) s (h.2 _ (getD_mem _ hi))
      simp only [if_pos (ltI.2 hi), if_pos (idxI.2 hi), Int.toNat_natCast, hb, Option.bind_some, wrapN (show i < 4611686018427387904 by omega)] at E
      cases b with
      | true =>
        have hm : s ∈ c := hb'.1 rfl ▸ getD_mem [] hi
        exact .inl ⟨_, (Ev.const _).succ fun k => by rw [E, if_pos rfl], _, rfl, by simp [hm]⟩
      | false =>
        refine .inr ⟨(), fun j hj => ?_, Goes.succ fun k => by rw [E, if_neg (by simp)]⟩
        by_cases hji : j = i
        · rw [hji]; exact fun e => absurd (hb'.2 e) (by simp)
        · exact hI j (by omega))
    (fun _ hI => ⟨_, (Ev.const _).succ fun k => by rw [spec_l05Find.l2_eq, if_neg (by simp)], _, rfl, by
      have : s ∉ c := fun hm => by
        obtain ⟨j, hj, e⟩ := List.getElem_of_mem hm
        exact hI j hj (by rw [getD_eq hj]; exact e)
      simp [this]⟩) 0 () (Nat.zero_le _) (by intro j hj; omega)
  subst hv'
  exact ⟨r, spec_l05Find.of _ _ (hv.of_eq fun k => rfl), hr⟩
theorem spec_l05Find.val2 (c : List (List Int)) (n : Nat) (hn : n < c.length) (hs : SortedS c) (h : SmL c) : spec_l05Find.F (c, c.getD n [], ()) = some (((n : Int), ()), ()) := by
  have hl := h.1
  obtain ⟨v, hv, hv'⟩ := Ev.loop (σ := Unit) (R := (Int × Unit) × Unit) (fun k i _ => spec_l05Find.l2 k c (c.getD n []) (i : Int)) c.length (fun i _ => i ≤ n) (fun v => v = (((n : Int), ()), ()))
    (fun i _ hi hI => by
      have E := fun k => spec_l05Find.l2_eq k c (c.getD n []) (i : Int)
      obtain ⟨b, hb, hb'⟩ := spec_l00Same.same (c.getD i []) (c.getD n []) (h.2 _ (getD_mem _ hi))
      simp only [if_pos (ltI.2 hi), if_pos (idxI.2 hi), Int.toNat_natCast, hb, Option.bind_some, wrapN (show i < 4611686018427387904 by omega)] at E
      cases b with
      | true =>
        have := sorted_inj hs hi hn (hb'.1 rfl)
        exact .inl ⟨_, (Ev.const _).succ fun k => by rw [E, if_pos rfl], by rw [this]⟩
      | false =>
        refine .inr ⟨(), ?_, Goes.succ fun k => by rw [E, if_neg (by simp)]⟩
        have : i ≠ n := fun e => absurd (hb'.2 (by rw [e])) (by simp)
        omega)
    (fun _ hI => by omega) 0 () (Nat.zero_le _) (Nat.zero_le _)
  subst hv'
  exact spec_l05Find.of _ _ (hv.of_eq fun k => rfl)
theorem cutA (s : List Int) (k : Nat) : cutL s (0 : Int) (k : Int) = s.take k := by simp [cutL]
theorem cutB (s : List Int) (k : Nat) : cutL s ((k : Nat) : Int) (s.length : Int) = s.drop k := by simp [cutL]
theorem spec_l05Drop.val (s : List Int) (k : Nat) (hk : k < s.length) (hs : s.length ≤ 1048576) : spec_l05Drop.F (s, (k : Int), ()) = some ((dropAt s k, ()), ()) := by
  rw [spec_l05Drop.eq, spec_l05Drop.T, if_pos (by omega), cutA, spec_l00Own.eq, spec_l00Own.T, if_pos (by simp only [List.length_nil, List.length_take, bigA]; omega)]
  simp only [Option.bind_some]
  rw [wrapN (by omega), if_pos (by omega), cutB, if_pos (by simp only [List.nil_append, List.length_take, List.length_drop, bigA]; omega)]
  rfl
theorem slices_Concat_Lint64_int64.val2 (a b : List Int) (ha : a.length ≤ 1048576) (hb : b.length ≤ 1048576) : slices_Concat_Lint64_int64.F ([a, b], ()) = some ((a ++ b, ()), ()) := by
  have w1 : IntKind.i64.wrap (0 + (a.length : Int)) = (a.length : Int) := by rw [wrapI (by omega) (by omega)]; omega
  have w2 : IntKind.i64.wrap ((a.length : Int) + (b.length : Int)) = (a.length : Int) + (b.length : Int) := wrapI (by omega) (by omega)
  have w3 : IntKind.i64.wrap ((0 : Int) + 1) = 1 := wrapI (by omega) (by omega)
  have w4 : IntKind.i64.wrap ((1 : Int) + 1) = 2 := wrapI (by omega) (by omega)
  refine slices_Concat_Lint64_int64.of _ ⟨6, fun k hk => ?_⟩
  obtain ⟨k, rfl⟩ : ∃ j, k = j + 1 + 1 + 1 + 1 + 1 + 1 := ⟨k - 6, by omega⟩
  show slices_Concat_Lint64_int64.T (k + 1 + 1 + 1 + 1 + 1 + 1) [a, b] = _
  have e0 : ((([a, b] : List (List Int)).length : Nat) : Int) = 2 := rfl
  rw [slices_Concat_Lint64_int64.T, e0, slices_Concat_Lint64_int64.l3_eq, if_pos (by decide), if_pos (by rw [e0]; decide)]
  simp only [Int.toNat_zero, List.getD_cons_zero, w1, w3]
  rw [if_neg (by simp only [decide_eq_true_eq]; omega), slices_Concat_Lint64_int64.l3_eq, if_pos (by decide), if_pos (by rw [e0]; decide)]
  simp only [show (1 : Int).toNat = 1 from rfl, List.getD_cons_succ, List.getD_cons_zero, w2, w4]
  rw [if_neg (by simp only [decide_eq_true_eq]; omega), slices_Concat_Lint64_int64.l3_eq, if_neg (by decide), if_pos (by simp only [bigN]; omega), e0, slices_Concat_Lint64_int64.l11_eq, if_pos (by decide), if_pos (by rw [e0]; decide)]
  simp only [Int.toNat_zero, List.getD_cons_zero, w3]
  rw [if_pos (by simp only [List.length_nil, bigA]; omega), slices_Concat_Lint64_int64.l11_eq, if_pos (by decide), if_pos (by rw [e0]; decide)]
  simp only [show (1 : Int).toNat = 1 from rfl, List.getD_cons_succ, List.getD_cons_zero, w4, List.nil_append]
  rw [if_pos (by simp only [bigA]; omega), slices_Concat_Lint64_int64.l11_eq, if_neg (by decide)]
def faces (s : List Int) : List (List Int) := if 1 < s.length then (List.range s.length).map (dropAt s) else []
theorem impl_facesOf.val (s : List Int) (hs : s.length ≤ 1048576) : impl_facesOf.F (s, ()) = some ((faces s, ()), ()) := by
  by_cases h1 : 1 < s.length
  · obtain ⟨r, hr, hg⟩ := Goes.loop (R := (List (List Int) × Unit) × Unit) (fun k i (x : List (List Int)) => impl_facesOf.l3 k s s.length (i : Int) x) s.length (fun i x => x = (List.range i).map (dropAt s)) (fun i x hi hx => ⟨_, rfl, Goes.succ fun k => by
      rw [impl_facesOf.l3_eq, if_pos (ltI.2 hi), if_pos (by simp; omega), if_pos (by omega), wrapN (by omega), if_pos (by omega), cutA, cutB, slices_Concat_Lint64_int64.val2 _ _ (by simp; omega) (by simp; omega)]
      simp only [Option.bind_some]
      rw [if_pos (by rw [hx]; simp only [List.length_map, List.length_range, List.length_cons, List.length_nil, bigA]; omega), hx, List.range_succ, List.map_append]
      rfl⟩) 0 [] (Nat.zero_le _) rfl
    have : faces s = r := by rw [faces, if_pos h1, hr]
    rw [this]
    exact impl_facesOf.of _ ((hg _ ((Ev.const _).succ fun k => by rw [impl_facesOf.l3_eq, if_neg (by simp)])).of_eq fun k => rfl)
  · obtain ⟨r, hr, hg⟩ := Goes.loop (R := (List (List Int) × Unit) × Unit) (fun k i (x : List (List Int)) => impl_facesOf.l3 k s s.length (i : Int) x) s.length (fun i x => x = []) (fun i x hi hx => ⟨_, hx, Goes.succ fun k => by
      rw [impl_facesOf.l3_eq, if_pos (ltI.2 hi), if_neg (by simp; omega), wrapN (by omega)]⟩) 0 [] (Nat.zero_le _) rfl
    have : faces s = r := by rw [faces, if_neg h1, hr]
    rw [this]
    exact impl_facesOf.of _ ((hg _ ((Ev.const _).succ fun k => by rw [impl_facesOf.l3_eq, if_neg (by simp)])).of_eq fun k => rfl)
theorem impl_ValidSimplex.val (s : List Int) (hs : s.length ≤ 1048576) : ∃ v, impl_ValidSimplex.F (s, ()) = some ((v, ()), ()) ∧ (v = true ↔ SimpOk s) := by
  obtain ⟨v1, h1, h1'⟩ := impl_isRising.val s (by omega)
  have h2 := slices_ContainsFunc_Lint64_int64.val s (impl_ValidSimplex_1.cloG (())) (fun a => !decide (0 ≤ a ∧ a ≤ 9)) (fun a _ => by
    show (impl_ValidSimplex_1.F (a, ())).map (·.1) = _
    rw [impl_ValidSimplex_1.eq, impl_ValidSimplex_1.T, impl_isVertex.eq, impl_isVertex.T, impl_within.val]; rfl) (by omega)
  rw [impl_ValidSimplex.eq, impl_ValidSimplex.T, h1, h2]
  simp only [Option.bind_some]
  unfold SimpOk
  by_cases g1 : 1 ≤ s.length
  · by_cases g2 : s.length ≤ 4
    · rw [if_pos (by simp; omega), if_pos (by simp; omega)]
      cases v1 with
      | true =>
        refine ⟨_, by rw [if_pos rfl], ?_⟩
        have hr := h1'.1 rfl
        simp only [Bool.not_eq_true', List.any_eq_false, Bool.not_eq_eq_eq_not, Bool.not_true, AllIn, g1, g2, hr, and_self, and_true, true_and]
        simp
      | false => exact ⟨false, by rw [if_neg (by simp)], by simp; intro _ _ _ hr; exact absurd (h1'.2 hr) (by simp)⟩
    · exact ⟨false, by rw [if_pos (by simp; omega), if_neg (by simp; omega)], by simp; intro _ h; omega⟩
  · exact ⟨false, by rw [if_neg (by simp; omega)], by simp; intro h; omega⟩
theorem spec_l05Simplex.val (s : List Int) (hs : s.length ≤ 1048576) : ∃ v, spec_l05Simplex.F (s, ()) = some ((v, ()), ()) ∧ (v = true ↔ SimpOk s) := by
  obtain ⟨v1, h1, h1'⟩ := spec_l00Rises.val s 0 9 (by omega)
  rw [spec_l05Simplex.eq, spec_l05Simplex.T, h1, spec_l00In.val]
  simp only [Option.bind_some]
  unfold SimpOk
  by_cases g : 1 ≤ (s.length : Int) ∧ (s.length : Int) ≤ 4
  · rw [if_pos (by simp only [decide_eq_true_eq]; exact g)]
    exact ⟨v1, rfl, h1'.trans ⟨fun h => ⟨by omega, h⟩, fun h => h.2⟩⟩
  · exact ⟨false, by rw [if_neg (by simp only [decide_eq_true_eq]; exact g)], by simp; intro a b; omega⟩
theorem spec_l05Ok.val (c : List (List Int)) (h : SmL c) : ∃ v, spec_l05Ok.F (c, ()) = some ((v, ()), ()) ∧ (v = true ↔ CplxOk c) := by
  by_cases hn : c.length ≤ 48
  · obtain ⟨v, hv, hv'⟩ := Ev.loop (σ := Unit) (R := (Bool × Unit) × Unit) (fun k i _ => spec_l05Ok.l4 k c (i : Int)) c.length (fun i _ => ∀ j, j < i → SimpOk (c.getD j []) ∧ (0 < j → cmpS (c.getD (j - 1) []) (c.getD j []) < 0) ∧ (1 < (c.getD j []).length → ∀ k, k < (c.getD j []).length → dropAt (c.getD j []) k ∈ c)) (fun r => ∃ v, r = ((v, ()), ()) ∧ (v = true ↔ CplxOk c))
      (fun i _ hi hI => by
        have hsm : (c.getD i []).length ≤ 1048576 := h.2 _ (getD_mem _ hi)
        obtain ⟨s, hs⟩ : ∃ s, c.getD i [] = s := ⟨_, rfl⟩
        have E := fun k => spec_l05Ok.l4_eq k c (i : Int)
        obtain ⟨b, hb, hb'⟩ := spec_l05Simplex.val s (hs ▸ hsm)
        rw [hs] at hsm
        simp only [if_pos (ltI.2 hi), if_pos (idxI.2 hi), Int.toNat_natCast, hs, hb, Option.bind_some] at E
        have bad : (¬ (SimpOk s ∧ (0 < i → cmpS (c.getD (i - 1) []) s < 0) ∧ (1 < s.length → ∀ k, k < s.length → dropAt s k ∈ c))) → ∃ v, (((false, ()), ()) : (Bool × Unit) × Unit) = ((v, ()), ()) ∧ (v = true ↔ CplxOk c) := fun hno => ⟨false, rfl, by simp; intro hc; exact hno (by have := hc.2 i hi; rw [hs] at this; exact this)⟩
        cases b with
        | false => exact .inl ⟨_, (Ev.const _).succ fun k => by rw [E]; rfl, bad fun hc => absurd (hb'.2 hc.1) (by simp)⟩
        | true =>
          have hsimp := hb'.1 rfl
          simp only [Bool.not_true, Bool.false_eq_true, if_false] at E
          have inner : (∃ r, Ev (fun k => spec_l05Ok.l10 k c (i : Int) s ((0 : Nat) : Int)) r ∧ r = ((false, ()), ()) ∧ ¬ (1 < s.length → ∀ k, k < s.length → dropAt s k ∈ c)) ∨ ((1 < s.length → ∀ k, k < s.length → dropAt s k ∈ c) ∧ Goes (fun k => spec_l05Ok.l10 k c (i : Int) s ((0 : Nat) : Int)) (fun k => spec_l05Ok.l4 k c ((i + 1 : Nat) : Int))) := by
            by_cases h1 : 1 < s.length
            · by_cases hall : ∀ k, k < s.length → dropAt s k ∈ c
              · refine .inr ⟨fun _ => hall, ?_⟩
                obtain ⟨_, _, hg⟩ := Goes.loop (σ := Unit) (R := (Bool × Unit) × Unit) (fun k j _ => spec_l05Ok.l10 k c (i : Int) s (j : Int)) s.length (fun _ _ => True) (fun j _ hj _ => ⟨(), trivial, Goes.succ fun k => by
                  obtain ⟨r, hr, hr'⟩ := spec_l05Find.val c (dropAt s j) h
                  rw [spec_l05Ok.l10_eq, if_pos (ltI.2 hj), if_pos (by simp; omega), spec_l05Drop.val s j hj hsm]
                  simp only [Option.bind_some, hr]
                  rw [if_neg (by simp only [decide_eq_true_eq, hr']; exact fun hh => hh (hall j hj)), wrapN (by omega)]⟩) 0 () (Nat.zero_le _) trivial
                exact hg.trans (Goes.succ fun k => by rw [spec_l05Ok.l10_eq, if_neg (by simp), wrapN (by omega)])
              · left
                obtain ⟨v, hv, hv'⟩ := Ev.loop (σ := Unit) (R := (Bool × Unit) × Unit) (fun k j _ => spec_l05Ok.l10 k c (i : Int) s (j : Int)) s.length (fun j _ => ∀ k, k < j → dropAt s k ∈ c) (fun r => r = ((false, ()), ())) (fun j _ hj hJ => by
                  obtain ⟨r, hr, hr'⟩ := spec_l05Find.val c (dropAt s j) h
                  have E2 := fun k => spec_l05Ok.l10_eq k c (i : Int) s (j : Int)
                  simp only [if_pos (ltI.2 hj), if_pos (show decide ((s.length : Int) > 1) = true by simp; omega), spec_l05Drop.val s j hj hsm, Option.bind_some, hr, wrapN (show j < 4611686018427387904 by omega)] at E2
                  by_cases hd : dropAt s j ∈ c
                  · refine .inr ⟨(), fun k hk => ?_, Goes.succ fun k => by rw [E2, if_neg (by simp only [decide_eq_true_eq, hr']; exact fun hh => hh hd)]⟩
                    by_cases hkj : k = j
                    · rw [hkj]; exact hd
                    · exact hJ k (by omega)
                  · exact .inl ⟨_, (Ev.const _).succ fun k => by rw [E2, if_pos (by simp only [decide_eq_true_eq, hr']; exact hd)], rfl⟩) (fun _ hJ => absurd hJ hall) 0 () (Nat.zero_le _) (by intro k hk; omega)
                exact ⟨v, hv, hv', fun hh => hall (hh h1)⟩
            · refine .inr ⟨fun hh => absurd hh h1, Goes.succ fun k => ?_⟩
              rw [spec_l05Ok.l10_eq]
              by_cases h0 : (0 : Nat) < s.length
              · rw [if_pos (ltI.2 h0), if_neg (by simp; omega), wrapN (by omega)]
              · rw [if_neg (by simp only [decide_eq_true_eq]; omega), wrapN (by omega)]
          have pre : ((0 < i → cmpS (c.getD (i - 1) []) s < 0) ∧ ∀ k, spec_l05Ok.l4 (k + 1) c (i : Int) = spec_l05Ok.l10 k c (i : Int) s ((0 : Nat) : Int)) ∨ ((∀ k, spec_l05Ok.l4 (k + 1) c (i : Int) = some ((false, ()), ())) ∧ ¬ (0 < i → cmpS (c.getD (i - 1) []) s < 0)) := by
            by_cases h0 : 0 < i
            · have h1 : i - 1 < c.length := by omega
              simp only [if_pos (show decide ((i : Int) > 0) = true by simp; omega), wrapP h0 (show i < 4611686018427387904 by omega), if_pos (idxI.2 h1), Int.toNat_natCast, spec_l05Before.val _ s (h.2 _ (getD_mem _ h1)), Option.bind_some] at E
              by_cases hlt : cmpS (c.getD (i - 1) []) s < 0
              · exact .inl ⟨fun _ => hlt, fun k => by rw [E, if_neg (by simp only [decide_eq_true hlt]; simp)]; rfl⟩
              · exact .inr ⟨fun k => by rw [E, if_pos (by simp only [decide_eq_false hlt]; rfl)], fun hh => hlt (hh h0)⟩
            · simp only [if_neg (show ¬ decide ((i : Int) > 0) = true by simp; omega)] at E
              exact .inl ⟨fun h => absurd h h0, fun k => by rw [E]; rfl⟩
          rcases pre with ⟨hlt, E3⟩ | ⟨E4, hno⟩
          · rcases inner with ⟨r, hr, rfl, hno⟩ | ⟨hyes, hg⟩
            · exact .inl ⟨_, hr.succ E3, bad fun hc => hno hc.2.2⟩
            · refine .inr ⟨(), fun j hj => ?_, (Goes.succ E3).trans hg⟩
              by_cases hji : j = i
              · rw [hji, hs]; exact ⟨hsimp, hlt, hyes⟩
              · exact hI j (by omega)
          · exact .inl ⟨_, (Ev.const _).succ E4, bad fun hc => hno hc.2.1⟩)
      (fun _ hI => ⟨_, (Ev.const _).succ fun k => by rw [spec_l05Ok.l4_eq, if_neg (by simp)], true, rfl, by simp; exact ⟨hn, hI⟩⟩) 0 () (Nat.zero_le _) (by intro j hj; omega)
    obtain ⟨b, rfl, hb⟩ := hv'
    exact ⟨b, spec_l05Ok.of _ (hv.of_eq fun k => by rw [spec_l05Ok.T, if_neg (by simp; omega)]; rfl), hb⟩
  · exact ⟨false, spec_l05Ok.of _ ((Ev.const _).of_eq fun k => by rw [spec_l05Ok.T, if_pos (by simp; omega)]), by simp; intro hc; exact hn hc.1⟩
theorem mem_faces {s f : List Int} : f ∈ faces s ↔ 1 < s.length ∧ ∃ k, k < s.length ∧ dropAt s k = f := by
  unfold faces
  by_cases h : 1 < s.length
  · rw [if_pos h]; simp [h]
  · rw [if_neg h]; simp [h]
theorem take_getD {c : List (List Int)} {i m : Nat} (h : m < i) : (c.take i).getD m [] = c.getD m [] := by
  simp only [List.getD_eq_getElem?_getD, List.getElem?_take, h, if_true]
theorem mem_take_of {c : List (List Int)} {i m : Nat} (h : m < i) (hm : m < c.length) : c.getD m [] ∈ c.take i := by
  rw [← take_getD h]
  exact getD_mem [] (by simp; omega)
def OkAt (c : List (List Int)) (j : Nat) : Prop := SimpOk (c.getD j []) ∧ (0 < j → cmpS (c.getD (j - 1) []) (c.getD j []) < 0) ∧ ∀ f ∈ faces (c.getD j []), f ∈ c.take j
theorem okAt_iff (c : List (List Int)) : (c.length ≤ 48 ∧ ∀ j, j < c.length → OkAt c j) ↔ CplxOk c := by
  constructor
  · rintro ⟨h1, h2⟩
    refine ⟨h1, fun i hi => ⟨(h2 i hi).1, (h2 i hi).2.1, fun hl k hk => List.mem_of_mem_take ((h2 i hi).2.2 _ (mem_faces.2 ⟨hl, k, hk, rfl⟩))⟩⟩
  · intro h
    refine ⟨h.1, fun j hj => ⟨(h.2 j hj).1, (h.2 j hj).2.1, fun f hf => ?_⟩⟩
    obtain ⟨hl, k, hk, rfl⟩ := mem_faces.1 hf
    have hm := (h.2 j hj).2.2 hl k hk
    obtain ⟨m, hm1, e⟩ := List.getElem_of_mem hm
    have e' : c.getD m [] = dropAt (c.getD j []) k := by rw [getD_eq hm1]; exact e
    have hlen := dropAt_length hk
    have hshort : cmpS (dropAt (c.getD j []) k) (c.getD j []) < 0 := cmpS_short (by omega)
    by_cases hmj : m < j
    · rw [← e']; exact mem_take_of hmj hm1
    · exfalso
      by_cases hmj2 : m = j
      · rw [hmj2] at e'
        rw [← e', (cmpS_zero _ _).2 rfl] at hshort; omega
      · have h3 := h.sorted j m (by omega) hm1
        rw [e'] at h3
        have := cmpS_trans _ _ _ hshort h3
        rw [(cmpS_zero _ _).2 rfl] at this; omega
theorem impl_ValidComplex.val (c : List (List Int)) (h : SmL c) : ∃ v, impl_ValidComplex.F (c, ()) = some ((v, ()), ()) ∧ (v = true ↔ CplxOk c) := by
  have hn := h.1
  obtain ⟨v, hv, hv'⟩ := Ev.loop (σ := Unit) (R := (Bool × Unit) × Unit) (fun k i _ => impl_ValidComplex.l2 k c c.length (i : Int) c) c.length (fun i _ => ∀ j, j < i → OkAt c j) (fun r => ∃ v, r = ((v, ()), ()) ∧ (v = true ↔ c.length ≤ 48 ∧ ∀ j, j < c.length → OkAt c j))
    (fun i _ hi hI => by
      have hsm : (c.getD i []).length ≤ 1048576 := h.2 _ (getD_mem _ hi)
      have hsorted : SortedS (c.take i) := sorted_adj fun m h0 hm => by
        have hm' : m < i := by simp at hm; omega
        rw [take_getD (by omega), take_getD hm']
        exact (hI m hm').2.1 h0
      have hsmall : SmL (c.take i) := ⟨by simp; omega, fun x hx => h.2 x (List.mem_of_mem_take hx)⟩
      have hclo : ∀ f : List Int, f.length ≤ 1048576 → impl_ValidComplex_1.cloG (c, (i : Int), ()) (f, ()) = some (decide (f ∉ c.take i), ()) := fun f hf => by
        show (impl_ValidComplex_1.F (f, c, (i : Int), ())).map (·.1) = _
        obtain ⟨r, hr, hr'⟩ := impl_indexOf.val (c.take i) f hsorted hsmall hf
        rw [impl_ValidComplex_1.eq, impl_ValidComplex_1.T, if_pos (by omega)]
        have : cutL c (0 : Int) (i : Int) = c.take i := by simp [cutL]
        rw [this, hr]
        simp only [Option.bind_some, Option.map_some, hr']
      obtain ⟨s, hs⟩ : ∃ s, c.getD i [] = s := ⟨_, rfl⟩
      have E := fun k => impl_ValidComplex.l2_eq k c c.length (i : Int) c
      obtain ⟨b, hb, hb'⟩ := impl_ValidSimplex.val s (hs ▸ hsm)
      rw [hs] at hsm
      have hfl : ∀ f ∈ faces s, f.length ≤ 1048576 := fun f hf => by
        obtain ⟨_, k, hk, rfl⟩ := mem_faces.1 hf
        have := dropAt_length hk; omega
      have hcf := slices_ContainsFunc_LLint64_Lint64.val (faces s) (impl_ValidComplex_1.cloG (c, (i : Int), ())) (fun f => decide (f ∉ c.take i)) (fun f hf => hclo f (hfl f hf)) (by
        unfold faces; split
        · simp; omega
        · simp)
      simp only [if_pos (ltI.2 hi), if_pos (idxI.2 hi), Int.toNat_natCast, hs, hb, Option.bind_some, impl_facesOf.val s hsm, hcf, wrapN (show i < 4611686018427387904 by omega)] at E
      have bad : ¬ OkAt c i → ∃ v, (((false, ()), ()) : (Bool × Unit) × Unit) = ((v, ()), ()) ∧ (v = true ↔ c.length ≤ 48 ∧ ∀ j, j < c.length → OkAt c j) := fun hno => ⟨false, rfl, by simp only [Bool.false_eq_true, false_iff]; exact fun hc => hno (hc.2 i hi)⟩
      cases b with
      | false => exact .inl ⟨_, (Ev.const _).succ fun k => by rw [E]; rfl, bad fun hc => absurd (hb'.2 (hs ▸ hc.1)) (by simp)⟩
      | true =>
        have hsimp := hb'.1 rfl
        simp only [Bool.not_true, Bool.false_eq_true, if_false] at E
        have pre : ((0 < i → cmpS (c.getD (i - 1) []) s < 0) ∧ ∀ k, impl_ValidComplex.l2 (k + 1) c c.length (i : Int) c = if ((faces s).any fun f => decide (f ∉ c.take i)) = true then some ((false, ()), ()) else impl_ValidComplex.l2 k c c.length ((i + 1 : Nat) : Int) c) ∨ ((∀ k, impl_ValidComplex.l2 (k + 1) c c.length (i : Int) c = some ((false, ()), ())) ∧ ¬ (0 < i → cmpS (c.getD (i - 1) []) s < 0)) := by
          by_cases h0 : 0 < i
          · have h1 : i - 1 < c.length := by omega
            simp only [if_pos (show decide ((i : Int) > 0) = true by simp; omega), wrapP h0 (show i < 4611686018427387904 by omega), if_pos (idxI.2 h1), Int.toNat_natCast, impl_compareSimplices.val _ s (h.2 _ (getD_mem _ h1)) hsm, Option.bind_some] at E
            by_cases hlt : cmpS (c.getD (i - 1) []) s < 0
            · exact .inl ⟨fun _ => hlt, fun k => by rw [E, if_neg (by simp only [decide_eq_true_eq]; omega)]⟩
            · exact .inr ⟨fun k => by rw [E, if_pos (by simp only [decide_eq_true_eq]; omega)], fun hh => hlt (hh h0)⟩
          · simp only [if_neg (show ¬ decide ((i : Int) > 0) = true by simp; omega)] at E
            exact .inl ⟨fun h => absurd h h0, fun k => by rw [E]⟩
        rcases pre with ⟨hlt, E3⟩ | ⟨E4, hno⟩
        · by_cases hf : ∀ f ∈ faces s, f ∈ c.take i
          · refine .inr ⟨(), fun j hj => ?_, Goes.succ fun k => by rw [E3, if_neg (by simp only [List.any_eq_true, decide_eq_true_eq, not_exists, not_and, Classical.not_not]; exact hf)]⟩
            by_cases hji : j = i
            · rw [hji]; exact ⟨hs ▸ hsimp, fun h0 => by rw [hs]; exact hlt h0, fun f hff => hf f (hs ▸ hff)⟩
            · exact hI j (by omega)
          · refine .inl ⟨_, (Ev.const _).succ fun k => by rw [E3, if_pos (by simp only [List.any_eq_true, decide_eq_true_eq]; simpa using hf)], bad fun hc => hf fun f hff => hc.2.2 f (hs ▸ hff)⟩
        · exact .inl ⟨_, (Ev.const _).succ E4, bad fun hc => hno (by have := hc.2.1; rw [hs] at this; exact this)⟩)
    (fun _ hI => ⟨_, (Ev.const _).succ fun k => by rw [impl_ValidComplex.l2_eq, if_neg (by simp)], _, rfl, by simp only [decide_eq_true_eq]; exact ⟨fun h1 => ⟨by omega, hI⟩, fun h1 => by omega⟩⟩) 0 () (Nat.zero_le _) (by intro j hj; omega)
  obtain ⟨b, rfl, hb⟩ := hv'
  exact ⟨b, impl_ValidComplex.of _ (hv.of_eq fun k => rfl), hb.trans (okAt_iff c)⟩
def idxIn (c : List (List Int)) (f : List Int) : Nat := c.findIdx fun x => decide (x = f)
theorem idxIn_spec {c : List (List Int)} {f : List Int} (h : f ∈ c) : idxIn c f < c.length ∧ c.getD (idxIn c f) [] = f := by
  have h1 : idxIn c f < c.length := List.findIdx_lt_length_of_exists ⟨f, h, by simp⟩
  refine ⟨h1, ?_⟩
  rw [getD_eq h1]
  have := List.findIdx_getElem (p := fun x => decide (x = f)) (xs := c) (w := h1)
  exact of_decide_eq_true this
theorem face_mem {c : List (List Int)} (h : CplxOk c) {i : Nat} (hi : i < c.length) {f : List Int} (hf : f ∈ faces (c.getD i [])) : f ∈ c :=
  List.mem_of_mem_take ((((okAt_iff c).2 h).2 i hi).2.2 f hf)
theorem find_idx {c : List (List Int)} (h : CplxOk c) {f : List Int} (hf : f ∈ c) : spec_l05Find.F (c, f, ()) = some ((((idxIn c f : Nat) : Int), ()), ()) := by
  obtain ⟨h1, h2⟩ := idxIn_spec hf
  have := spec_l05Find.val2 c (idxIn c f) h1 h.sorted h.small
  rwa [h2] at this
def ofDim (c : List (List Int)) (d : Int) (i : Nat) : List Int := ((List.range i).filter fun j => ((c.getD j []).length : Int) == d + 1).map fun (j : Nat) => (j : Int)
theorem ofDim_succ (c : List (List Int)) (d : Int) (i : Nat) : ofDim c d (i + 1) = if ((c.getD i []).length : Int) == d + 1 then ofDim c d i ++ [(i : Int)] else ofDim c d i := by
  simp only [ofDim, List.range_succ, List.filter_append, List.map_append]
  split
  · rename_i h; rw [List.filter_cons_of_pos (by exact h)]; simp
  · rename_i h; rw [List.filter_cons_of_neg (by exact h)]; simp
theorem ofDim_length (c : List (List Int)) (d : Int) (i : Nat) : (ofDim c d i).length ≤ i := by
  simp only [ofDim, List.length_map]
  exact Nat.le_trans (List.length_filter_le _ _) (by simp)
theorem spec_l05Of.val (c : List (List Int)) (d : Int) (hd : -1 ≤ d ∧ d ≤ 1000) (hn : c.length ≤ 1048576) : spec_l05Of.F (c, d, ()) = some ((ofDim c d c.length, ()), ()) := by
  refine spec_l05Of.of _ _ ?_
  obtain ⟨s, hs, hg⟩ := Goes.loop (R := ((List Int × Unit) × Unit)) (fun k i (x : List Int) => spec_l05Of.l3 k c d (i : Int) x) c.length (fun i x => x = ofDim c d i) (fun i x hi h2 => ⟨_, rfl, Goes.succ fun k => by
    have hl := ofDim_length c d i
    rw [spec_l05Of.l3_eq, if_pos (ltI.2 hi), if_pos (idxI.2 hi), wrapI (x := d + 1) (by omega) (by omega), ofDim_succ]
    simp only [Int.toNat_natCast]
    by_cases h : (((c.getD i []).length : Int) == d + 1) = true
    · rw [if_pos h, if_pos h, if_pos (by rw [h2]; simp only [List.length_cons, List.length_nil, bigA]; omega), wrapN (by omega), h2]
    · rw [if_neg h, if_neg h, wrapN (by omega), h2]⟩) 0 [] (Nat.zero_le _) rfl
  refine Ev.of_eq (hg _ ((Ev.const _).succ fun k => ?_)) fun k => rfl
  rw [spec_l05Of.l3_eq, if_neg (by simp), hs]
def vts (c : List (List Int)) : List Int := (c.filter fun s => s.length == 1).map fun s => s.getD 0 0
theorem vts_take (c : List (List Int)) {i : Nat} (hi : i < c.length) : vts (c.take (i + 1)) = vts (c.take i) ++ (if (c.getD i []).length = 1 then [(c.getD i []).getD 0 0] else []) := by
  unfold vts
  rw [List.take_add_one, List.getElem?_eq_getElem hi, Option.toList_some, List.filter_append, List.map_append, getD_eq hi]
  congr 1
  by_cases h : c[i].length = 1 <;> simp [h]
theorem vts_len (c : List (List Int)) (i : Nat) : (vts (c.take i)).length ≤ i := by
  unfold vts
  rw [List.length_map]
  exact Nat.le_trans (List.length_filter_le _ _) (by simp; omega)
theorem impl_verticesOf.val (c : List (List Int)) (hn : c.length ≤ 1048576) : impl_verticesOf.F (c, ()) = some ((vts c, ()), ()) := by
  refine impl_verticesOf.of _ ?_
  obtain ⟨s, hs, hg⟩ := Goes.loop (R := ((List Int × Unit) × Unit)) (fun k i (x : List Int) => impl_verticesOf.l3 k c (c.length : Int) (i : Int) x) c.length (fun i x => x = vts (c.take i)) (fun i x hi h2 => ⟨_, rfl, Goes.succ fun k => by
    have hl := vts_len c i
    rw [impl_verticesOf.l3_eq, if_pos (ltI.2 hi), if_pos (idxI.2 hi)]
    simp only [Int.toNat_natCast]
    rw [vts_take c hi, wrapN (by omega), ← h2]
    by_cases h1 : (c.getD i []).length = 1
    · rw [if_pos (by simp only [beq_iff_eq]; omega), if_pos (by omega), if_pos (by rw [h2]; simp only [List.length_cons, List.length_nil, bigA]; omega), if_pos h1]; rfl
    · rw [if_neg (by simp only [beq_iff_eq]; omega), if_neg h1, List.append_nil]⟩) 0 [] (Nat.zero_le _) rfl
  rw [List.take_of_length_le (Nat.le_refl _)] at hs
  refine Ev.of_eq (hg _ ((Ev.const _).succ fun k => ?_)) fun k => rfl
  rw [impl_verticesOf.l3_eq, if_neg (by simp), hs]
theorem ofDim_len (c : List (List Int)) : (ofDim c 0 c.length).length = (vts c).length := by
  have key : ∀ i, i ≤ c.length → (ofDim c 0 i).length = (vts (c.take i)).length := by
    intro i
    induction i with
    | zero => intro _; rfl
    | succ i ih =>
      intro hi
      rw [ofDim_succ, vts_take c (by omega)]
      by_cases h1 : (c.getD i []).length = 1
      · rw [if_pos (by simp only [beq_iff_eq]; omega), if_pos h1, List.length_append, List.length_append, ih (by omega)]; rfl
      · rw [if_neg (by simp only [beq_iff_eq]; omega), if_neg h1, List.append_nil, ih (by omega)]
  have := key c.length (Nat.le_refl _)
  rwa [List.take_of_length_le (Nat.le_refl _)] at this
theorem vert_mem {c : List (List Int)} (h : CplxOk c) : ∀ (n : Nat) (s : List Int), s ∈ c → s.length ≤ n → ∀ v ∈ s, [v] ∈ c := by
  intro n
  induction n with
  | zero => intro s hs hl v hv; have : s = [] := List.length_eq_zero_iff.1 (by omega); subst this; simp at hv
  | succ n ih =>
    intro s hs hl v hv
    by_cases h1 : 1 < s.length
    · obtain ⟨i, hi, hic⟩ : ∃ i, i < c.length ∧ c.getD i [] = s := by
        obtain ⟨i, hi, rfl⟩ := List.getElem_of_mem hs
        exact ⟨i, hi, getD_eq hi⟩
      obtain ⟨j, hj, hjv⟩ := List.getElem_of_mem hv
      obtain ⟨k, hk, hkj⟩ : ∃ k, k < s.length ∧ k ≠ j := by
        by_cases e : j = 0
        · exact ⟨1, h1, by omega⟩
        · exact ⟨0, by omega, by omega⟩
      have hmem : dropAt s k ∈ c := face_mem h hi (by rw [hic]; exact mem_faces.2 ⟨h1, k, hk, rfl⟩)
      refine ih (dropAt s k) hmem (by rw [dropAt_length hk]; omega) v ?_
      unfold dropAt
      rw [List.mem_append]
      by_cases h2 : j < k
      · left; rw [List.mem_take_iff_getElem]; exact ⟨j, by omega, hjv⟩
      · right; rw [List.mem_drop_iff_getElem]
        refine ⟨j - (k + 1), by omega, ?_⟩
        rw [← hjv]; congr 1; omega
    · cases s with
      | nil => simp at hv
      | cons a t =>
        have : t = [] := List.length_eq_zero_iff.1 (by simp only [List.length_cons] at h1; omega)
        subst this
        simp only [List.mem_singleton] at hv
        subst hv; exact hs
theorem ones_first : ∀ {c : List (List Int)}, (∀ s ∈ c, 1 ≤ s.length) → c.Pairwise (fun x y => x.length ≤ y.length) → ∃ B, c = (c.filter fun s => s.length == 1) ++ B ∧ ∀ s ∈ B, s.length ≠ 1
  | [], _, _ => ⟨[], rfl, by simp⟩
  | x :: c, h1, h2 => by
    rw [List.pairwise_cons] at h2
    obtain ⟨B, hB, hB'⟩ := ones_first (fun s hs => h1 s (by simp [hs])) h2.2
    by_cases hx : x.length = 1
    · exact ⟨B, by rw [List.filter_cons, if_pos (by simpa using hx), List.cons_append, ← hB], hB'⟩
    · have hall : ∀ s ∈ x :: c, s.length ≠ 1 := fun s hs => by
        have hx1 := h1 x (by simp)
        simp only [List.mem_cons] at hs
        rcases hs with rfl | hs
        · exact hx
        · have := h2.1 s hs; omega
      have hf : (x :: c).filter (fun s => s.length == 1) = [] := by
        rw [List.filter_eq_nil_iff]
        intro s hs
        simpa using hall s hs
      exact ⟨x :: c, by rw [hf]; rfl, hall⟩
def idxV (xs : List Int) (v : Int) : Nat := xs.findIdx fun x => decide (x = v)
theorem idxV_lt {xs : List Int} {v : Int} (h : v ∈ xs) : idxV xs v < xs.length := List.findIdx_lt_length_of_exists ⟨v, h, by simp⟩
theorem findIdx_ones (v : Int) : ∀ {A : List (List Int)} (B : List (List Int)), (∀ s ∈ A, s.length = 1) → [v] ∈ A → idxIn (A ++ B) [v] = idxV (A.map fun s => s.getD 0 0) v
  | [], _, _, h => by simp at h
  | s :: A, B, h1, h2 => by
    have hs := h1 s (by simp)
    obtain ⟨a, rfl⟩ : ∃ a, s = [a] := by
      cases s with
      | nil => simp at hs
      | cons a t => exact ⟨a, by rw [List.length_eq_zero_iff.1 (show t.length = 0 by simpa using hs)]⟩
    unfold idxIn idxV
    rw [List.cons_append, List.map_cons, List.findIdx_cons, List.findIdx_cons]
    by_cases e : a = v
    · subst e; simp
    · have h3 : [v] ∈ A := by
        simp only [List.mem_cons, List.cons.injEq, and_true] at h2
        exact h2.resolve_left fun hh => e hh.symm
      have ih := findIdx_ones v B (fun s hs => h1 s (by simp [hs])) h3
      unfold idxIn idxV at ih
      have d1 : decide ([a] = [v]) = false := by simp [e]
      have d2 : decide (([a] : List Int).getD 0 0 = v) = false := by simp [e]
      rw [d1, d2, cond_false, cond_false, ih]
theorem idx_vts {c : List (List Int)} (h : CplxOk c) {v : Int} (hv : [v] ∈ c) : idxIn c [v] = idxV (vts c) v ∧ v ∈ vts c := by
  have hpw : c.Pairwise (fun x y => x.length ≤ y.length) := by
    rw [List.pairwise_iff_getElem]
    intro i j hi hj hij
    have := h.sorted i j hij hj
    rw [getD_eq hi, getD_eq hj] at this
    refine Classical.byContradiction fun hc => ?_
    have h2 := cmpS_short (a := c[j]) (b := c[i]) (by omega)
    have h3 := cmpS_trans _ _ _ this h2
    have h4 := (cmpS_zero c[i] c[i]).2 rfl
    omega
  obtain ⟨B, hB, hB'⟩ := ones_first (fun s hs => by
    obtain ⟨i, hi, rfl⟩ := List.getElem_of_mem hs
    have := (h.2 i hi).1.1.1
    rwa [getD_eq hi] at this) hpw
  have hA : [v] ∈ c.filter fun s => s.length == 1 := List.mem_filter.2 ⟨hv, rfl⟩
  refine ⟨?_, ?_⟩
  · unfold vts
    conv => lhs; rw [hB]
    exact findIdx_ones v B (fun s hs => by simpa using (List.mem_filter.1 hs).2) hA
  · unfold vts
    rw [List.mem_map]
    exact ⟨[v], hA, rfl⟩
theorem slices_Index_Lint64_int64.val (xs : List Int) (v : Int) (hn : xs.length ≤ 1048576) (hv : v ∈ xs) : slices_Index_Lint64_int64.F (xs, v, ()) = some ((((idxV xs v : Nat) : Int), ()), ()) := by
  refine slices_Index_Lint64_int64.of _ _ ?_
  have hlt := idxV_lt hv
  obtain ⟨x, -, hg⟩ := Goes.loop (σ := Unit) (R := ((Int × Unit) × Unit)) (fun k i _ => slices_Index_Lint64_int64.l2 k xs v (xs.length : Int) (i : Int)) (idxV xs v) (fun _ _ => True) (fun i _ hi _ => ⟨(), trivial, Goes.succ fun k => by
    have hne : xs[i]'(by omega) ≠ v := by simpa using List.not_of_lt_findIdx hi
    rw [slices_Index_Lint64_int64.l2_eq, if_pos (ltI.2 (by omega)), if_pos (idxI.2 (by omega))]
    simp only [Int.toNat_natCast]
    rw [if_neg (by
      rw [getD_eq (by omega)]
      simp only [beq_iff_eq]
      exact fun e => hne e.symm), wrapN (by omega)]⟩) 0 () (Nat.zero_le _) trivial
  refine Ev.of_eq (hg _ ((Ev.const _).succ fun k => ?_)) fun k => rfl
  have heq : xs[idxV xs v] = v := of_decide_eq_true (List.findIdx_getElem (xs := xs) (p := fun x => decide (x = v)) (w := hlt))
  rw [slices_Index_Lint64_int64.l2_eq, if_pos (ltI.2 hlt), if_pos (idxI.2 hlt)]
  simp only [Int.toNat_natCast]
  rw [if_pos (by
    rw [getD_eq hlt]
    simp only [beq_iff_eq]
    exact heq.symm)]
def imgL (c : List (List Int)) (im s : List Int) : List Int := s.map fun v => im.getD (idxV (vts c) v) 0
def imgS (c : List (List Int)) (im s : List Int) : List Int := setI (imgL c im s)
theorem setI_len (xs : List Int) : (setI xs).length ≤ xs.length := by
  have h := compact_len (xs.mergeSort fun x y => decide (x ≤ y))
  rwa [List.length_mergeSort] at h
theorem imgS_len (c : List (List Int)) (im s : List Int) : (imgS c im s).length ≤ s.length := by
  have := setI_len (imgL c im s)
  rwa [imgL, List.length_map] at this
theorem impl_imageOf.val (c : List (List Int)) (im s : List Int) (h : CplxOk c) (hs : s ∈ c) (hs4 : s.length ≤ 4) (hl : im.length = (vts c).length) : impl_imageOf.F (c, im, s, ()) = some ((imgS c im s, ()), ()) := by
  have hn := h.1
  have hvl := vts_len c c.length
  rw [List.take_of_length_le (Nat.le_refl _)] at hvl
  refine impl_imageOf.of _ _ _ ?_
  obtain ⟨x, hx, hg⟩ := Goes.loop (R := ((List Int × Unit) × Unit)) (fun k i (x : List Int) => impl_imageOf.l4 k im s (s.length : Int) (i : Int) (vts c) x) s.length (fun i x => x = imgL c im (s.take i)) (fun i x hi h2 => ⟨_, rfl, Goes.succ fun k => by
    obtain ⟨-, hm⟩ := idx_vts h (vert_mem h 4 s hs hs4 _ (getD_mem 0 hi))
    have hlt := idxV_lt hm
    rw [impl_imageOf.l4_eq, if_pos (ltI.2 hi), if_pos (idxI.2 hi)]
    simp only [Int.toNat_natCast, slices_Index_Lint64_int64.val _ _ (show (vts c).length ≤ 1048576 by omega) hm, Option.bind_some]
    rw [if_pos (idxI.2 (by omega)), if_pos (by rw [h2]; simp only [imgL, List.length_map, List.length_take, List.length_cons, List.length_nil, bigA]; omega), wrapN (by omega), h2, imgL, imgL, List.take_add_one, List.getElem?_eq_getElem hi, Option.toList_some, List.map_append, getD_eq hi]
    rfl⟩) 0 [] (Nat.zero_le _) rfl
  rw [List.take_of_length_le (Nat.le_refl _)] at hx
  have hxl : x.length = s.length := by rw [hx]; simp [imgL]
  refine Ev.of_eq (hg _ ((Ev.const _).succ fun k => ?_)) fun k => ?_
  · rw [impl_imageOf.l4_eq, if_neg (by simp), slices_Sort_Lint64_int64.val _ (by omega)]
    simp only [Option.bind_some]
    rw [slices_Compact_Lint64_int64.val _ (by rw [List.length_mergeSort]; omega), hx]; rfl
  · rw [impl_imageOf.T, impl_verticesOf.val c (by omega)]; rfl
theorem cut_one (s : List Int) {i : Nat} (hi : i < s.length) : cutL s (i : Int) ((i + 1 : Nat) : Int) = [s.getD i 0] := by
  unfold cutL
  simp only [Int.toNat_natCast]
  rw [getD_eq hi]
  apply List.ext_getElem
  · simp; omega
  · intro j h1 h2
    have : j = 0 := by simpa using h2
    subst this
    simp
theorem spec_l13Image.val (c : List (List Int)) (im s : List Int) (h : CplxOk c) (hs : s ∈ c) (hs4 : s.length ≤ 4) (hl : im.length = (vts c).length) : spec_l13Image.F (c, im, s, ()) = some ((imgS c im s, ()), ()) := by
  have hn := h.1
  refine spec_l13Image.of _ _ _ ?_
  obtain ⟨x, ⟨hx, hxl⟩, hg⟩ := Goes.loop (R := ((List Int × Unit) × Unit)) (fun k i (x : List Int) => spec_l13Image.l3 k c im s (i : Int) x) s.length (fun i x => x = (imgL c im (s.take i)).foldl (fun a n => putL a n false) [] ∧ x.length ≤ i) (fun i x hi ⟨h2, h3⟩ => by
    have hv := vert_mem h 4 s hs hs4 _ (getD_mem 0 hi)
    obtain ⟨hidx, hm⟩ := idx_vts h hv
    have hlt := idxV_lt hm
    refine ⟨putL x (im.getD (idxV (vts c) (s.getD i 0)) 0) false, ⟨?_, by have := putL_len (im.getD (idxV (vts c) (s.getD i 0)) 0) x false; omega⟩, Goes.succ fun k => ?_⟩
    · rw [imgL, List.take_add_one, List.getElem?_eq_getElem hi, Option.toList_some, List.map_append, List.foldl_append, ← imgL, ← h2, getD_eq hi]; rfl
    · rw [spec_l13Image.l3_eq, if_pos (ltI.2 hi), wrapN (by omega), if_pos (by omega), cut_one s hi]
      simp only [find_idx h hv, Option.bind_some, hidx]
      rw [if_pos (idxI.2 (by omega))]
      simp only [Int.toNat_natCast, spec_l00Put.val x _ (by omega), Option.bind_some]) 0 [] (Nat.zero_le _) ⟨rfl, by simp⟩
  rw [List.take_of_length_le (Nat.le_refl _)] at hx
  refine Ev.of_eq (hg _ ((Ev.const _).succ fun k => ?_)) fun k => rfl
  rw [spec_l13Image.l3_eq, if_neg (by simp), hx, puts_setI]; rfl
def MapOk (c b : List (List Int)) (im : List Int) : Prop := im.length = (vts c).length ∧ ∀ s ∈ c, imgS c im s ∈ b
theorem cplx4 {c : List (List Int)} (h : CplxOk c) {s : List Int} (hs : s ∈ c) : s.length ≤ 4 := by
  obtain ⟨i, hi, rfl⟩ := List.getElem_of_mem hs
  have := (h.2 i hi).1.1.2
  rwa [getD_eq hi] at this
theorem spec_l13Map.val (c b : List (List Int)) (im : List Int) (h : CplxOk c) (hb : SmL b) (him : im.length ≤ 1048576) : ∃ v, spec_l13Map.F (c, b, im, ()) = some ((v, ()), ()) ∧ (v = true ↔ MapOk c b im) := by
  have hn := h.1
  have ho := spec_l05Of.val c 0 (by omega) (by omega)
  by_cases hl : im.length = (vts c).length
  · obtain ⟨v, hv, hv'⟩ := Ev.allP (L := fun k i => spec_l13Map.l4 k c b im (i : Int)) (a := ()) (b := ()) (n := c.length) (fun i => imgS c im (c.getD i []) ∈ b) true (fun i hi => by
      have E := fun k => spec_l13Map.l4_eq k c b im (i : Int)
      obtain ⟨r, hr, hr'⟩ := spec_l05Find.val b (imgS c im (c.getD i [])) hb
      have hm := getD_mem ([] : List Int) hi
      simp only [if_pos (ltI.2 hi), if_pos (idxI.2 hi), Int.toNat_natCast, spec_l13Image.val c im _ h hm (cplx4 h hm) hl, hr, Option.bind_some, wrapN (show i < 4611686018427387904 by omega)] at E
      by_cases hmb : imgS c im (c.getD i []) ∈ b
      · exact .inl ⟨hmb, fun k => by rw [E, if_neg (by simp only [decide_eq_true_eq, hr']; exact fun hh => hh hmb)]⟩
      · exact .inr ⟨hmb, fun k => by rw [E, if_pos (by simp only [decide_eq_true_eq, hr']; exact hmb)]⟩) ((Ev.const _).succ fun k => by rw [spec_l13Map.l4_eq, if_neg (by simp)]) 0 (Nat.zero_le _)
    refine ⟨v, spec_l13Map.of _ _ _ (hv.of_eq fun k => ?_), hv'.trans ⟨fun ⟨_, h⟩ => ⟨hl, fun s hs => ?_⟩, fun h => ⟨rfl, fun j _ hj => h.2 _ (getD_mem _ hj)⟩⟩⟩
    · rw [spec_l13Map.T, ho]
      simp only [Option.bind_some]
      rw [if_neg (by rw [ofDim_len]; simp [hl])]; rfl
    · obtain ⟨j, hj, rfl⟩ := List.getElem_of_mem hs
      have := h j (Nat.zero_le _) hj
      rwa [getD_eq hj] at this
  · refine ⟨false, spec_l13Map.of _ _ _ ((Ev.const _).of_eq fun k => ?_), by simp only [Bool.false_eq_true, false_iff]; exact fun h => hl h.1⟩
    rw [spec_l13Map.T, ho]
    simp only [Option.bind_some]
    rw [if_pos (by rw [ofDim_len]; simp; omega)]
theorem impl_isMap.val (c b : List (List Int)) (im : List Int) (h : CplxOk c) (hb : CplxOk b) (him : im.length ≤ 1048576) : ∃ v, impl_isMap.F (c, b, im, ()) = some ((v, ()), ()) ∧ (v = true ↔ MapOk c b im) := by
  have hn := h.1
  rw [impl_isMap.eq, impl_isMap.T, impl_verticesOf.val c (by omega)]
  simp only [Option.bind_some]
  by_cases hl : im.length = (vts c).length
  · have hcf := slices_ContainsFunc_LLint64_Lint64.val c (impl_isMap_1.cloG (b, c, im, ())) (fun s => decide (imgS c im s ∉ b)) (fun s hs => by
      obtain ⟨r, hr, hr'⟩ := impl_indexOf.val b (imgS c im s) hb.sorted hb.small (by have := imgS_len c im s; have := cplx4 h hs; omega)
      show (impl_isMap_1.F (s, b, c, im, ())).map (·.1) = _
      rw [impl_isMap_1.eq, impl_isMap_1.T, impl_imageOf.val c im s h hs (cplx4 h hs) hl]
      simp only [Option.bind_some, hr, Option.map_some, hr']) (by omega)
    rw [if_neg (by simp [hl]), hcf]
    refine ⟨_, rfl, ?_⟩
    simp [MapOk, hl]
  · rw [if_pos (by simp; omega)]
    exact ⟨false, rfl, by simp only [Bool.false_eq_true, false_iff]; exact fun h => hl h.1⟩
theorem laws_toInt64S.val (xs : List Int) (h : xs.length ≤ 1099511627776) : laws_toInt64S.F (xs, ()) = some ((xs, ()), ()) := by
  refine laws_toInt64S.of xs ?_
  have := Goes.fill (L := fun k i ys => laws_toInt64S.l3 k xs (i : Int) ys) xs 0 (fun k i ys hi hy => by
    rw [laws_toInt64S.l3_eq, if_pos (ltI.2 hi), if_pos (idxI.2 hi), if_pos (by omega), wrapN (by omega)]
    simp only [Int.toNat_natCast]) (List.replicate xs.length 0) (by simp)
  refine Ev.of_eq (this _ ((Ev.const _).succ fun k => ?_)) fun k => ?_
  · rw [laws_toInt64S.l3_eq, if_neg (by simp)]
  · rw [laws_toInt64S.T, if_pos (by simp only [bigN]; omega)]; rfl
theorem laws_eqInt64S.val (xs ys : List Int) (hn : xs.length < 4611686018427387904) : ∃ b, laws_eqInt64S.F (xs, ys, ()) = some ((b, ()), ()) ∧ (b = true ↔ xs = ys) := by
  by_cases hl : xs.length = ys.length
  · obtain ⟨b, hb, hb'⟩ := Ev.all (L := fun k i => laws_eqInt64S.l4 k xs ys (i : Int)) (a := ()) (b := ()) (n := xs.length) (fun i => xs.getD i 0 == ys.getD i 0) (fun k i hi => by
      rw [laws_eqInt64S.l4_eq, if_pos (ltI.2 hi), if_pos (idxI.2 hi), if_pos (by omega), wrapN (by omega)]
      simp only [Int.toNat_natCast]
      exact ite_nb _ _ _) (fun k => by rw [laws_eqInt64S.l4_eq, if_neg (by simp)]) 0 (Nat.zero_le _)
    refine ⟨b, laws_eqInt64S.of _ _ (hb.of_eq fun k => ?_), by rw [hb', all_eq hl (fun x y => x == y) (by simp)]⟩
    rw [laws_eqInt64S.T, if_neg (by simp [hl])]
    rfl
  · refine ⟨false, laws_eqInt64S.of _ _ ((Ev.const _).of_eq fun k => ?_), by simp; intro e; exact hl (by rw [e])⟩
    rw [laws_eqInt64S.T, if_pos (by simp; omega)]
theorem laws_eqInt64S.refl (xs : List Int) (hn : xs.length < 4611686018427387904) : laws_eqInt64S.F (xs, xs, ()) = some ((true, ()), ()) := by
  obtain ⟨b, hb, hb'⟩ := laws_eqInt64S.val xs xs hn
  rw [hb, hb'.2 rfl]
theorem laws_szInt64S.val (xs : List Int) (l : Int) (h0 : 0 ≤ l) (h1 : l ≤ 1048576) (hx : xs.length ≤ maxLen) : ∃ r, laws_szInt64S.F (xs, l, ()) = some ((r, ()), ()) ∧ (r = -1 ∨ 0 ≤ r ∧ r ≤ l ∧ Sm xs) := by
  have : xs.length ≤ 9223372036854775807 := hx
  rw [laws_szInt64S.eq, laws_szInt64S.T, wrapI (by omega) (by omega)]
  by_cases h : l < xs.length
  · exact ⟨-1, by rw [if_pos (by simp; omega)], .inl rfl⟩
  · exact ⟨_, by rw [if_neg (by simp; omega)], .inr ⟨by omega, by omega, by unfold Sm; omega⟩⟩
theorem laws_szInt64SS.val (xs : List (List Int)) (l : Int) (h0 : 0 ≤ l) (h1 : l ≤ 1048576) (hx : xs.length ≤ maxLen) (hr : ∀ x ∈ xs, x.length ≤ maxLen) : ∃ r, laws_szInt64SS.F (xs, l, ()) = some ((r, ()), ()) ∧ (r = -1 ∨ 0 ≤ r ∧ r ≤ l ∧ SmL xs) := by
  have : xs.length ≤ 9223372036854775807 := hx
  by_cases h : l < xs.length
  · exact ⟨-1, laws_szInt64SS.of _ _ ((Ev.const _).of_eq fun k => by rw [laws_szInt64SS.T, wrapI (by omega) (by omega), if_pos (by simp; omega)]), .inl rfl⟩
  obtain ⟨r, hv, h2⟩ := sz_loop (fun k i s => laws_szInt64SS.l5 k xs s (i : Int)) xs [] Sm (fun i s hi s0 s1 => by
    have E := fun k => laws_szInt64SS.l5_eq k xs s (i : Int)
    obtain ⟨r, hr1, hr2⟩ := laws_szInt64S.val (xs.getD i []) s s0 s1 (hr _ (getD_mem _ hi))
    simp only [if_pos (ltI.2 hi), if_pos (idxI.2 hi), Int.toNat_natCast, hr1, Option.bind_some, wrapN (show i < 4611686018427387904 by omega)] at E
    rcases hr2 with rfl | ⟨a, b, c⟩
    · exact .inr fun k => by rw [E, if_pos (by simp)]
    · exact .inl ⟨r, a, b, c, fun k => by rw [E, if_neg (by simp; omega)]⟩) (fun k l => by rw [laws_szInt64SS.l5_eq, if_neg (by simp)]) (l - xs.length) (by omega) (by omega)
  refine ⟨r, laws_szInt64SS.of _ _ (hv.of_eq fun k => by rw [laws_szInt64SS.T, wrapI (by omega) (by omega), if_neg (by simp; omega)]; rfl), ?_⟩
  rcases h2 with h2 | ⟨a, b, c⟩
  · exact .inl h2
  · exact .inr ⟨a, by omega, by omega, c⟩
theorem laws_szComplex.val (xs : List (List Int)) (l : Int) (h0 : 0 ≤ l) (h1 : l ≤ 1048576) (hx : xs.length ≤ maxLen) (hr : ∀ x ∈ xs, x.length ≤ maxLen) : ∃ r, laws_szComplex.F (xs, l, ()) = some ((r, ()), ()) ∧ (r = -1 ∨ 0 ≤ r ∧ r ≤ l ∧ SmL xs) := by
  obtain ⟨r, h2, h3⟩ := laws_szInt64SS.val xs l h0 h1 hx hr
  rw [laws_szComplex.eq, laws_szComplex.T, h2]
  simp only [Option.bind_some]
  rcases h3 with rfl | ⟨a, b, c⟩
  · exact ⟨-1, by rw [if_pos (by simp)], .inl rfl⟩
  · exact ⟨r, by rw [if_neg (by simp; omega)], .inr ⟨a, b, c⟩⟩
theorem laws_toInt64SS.val (xs : List (List Int)) (h : SmL xs) : laws_toInt64SS.F (xs, ()) = some ((xs, ()), ()) := by
  have hl := h.1
  refine laws_toInt64SS.of xs ?_
  have := Goes.fill (L := fun k i ys => laws_toInt64SS.l3 k xs (i : Int) ys) xs [] (fun k i ys hi hy => by
    have hs : (xs.getD i []).length ≤ 1048576 := h.2 _ (getD_mem _ hi)
    rw [laws_toInt64SS.l3_eq, if_pos (ltI.2 hi), if_pos (idxI.2 hi)]
    simp only [Int.toNat_natCast, laws_toInt64S.val (xs.getD i []) (by omega), Option.bind_some]
    rw [if_pos (by omega), wrapN (by omega)]) (List.replicate xs.length []) (by simp)
  refine Ev.of_eq (this _ ((Ev.const _).succ fun k => ?_)) fun k => ?_
  · rw [laws_toInt64SS.l3_eq, if_neg (by simp)]
  · rw [laws_toInt64SS.T, if_pos (by simp only [bigN]; omega)]; rfl
theorem laws_toComplex.val (xs : List (List Int)) (h : SmL xs) : laws_toComplex.F (xs, ()) = some ((xs, ()), ()) := by
  rw [laws_toComplex.eq, laws_toComplex.T, laws_toInt64SS.val xs h]; rfl
theorem laws_eqInt64SS.same (xs ys : List (List Int)) (h : SmL xs) : ∃ b, laws_eqInt64SS.F (xs, ys, ()) = some ((b, ()), ()) ∧ (b = true ↔ xs = ys) := by
  have hn := h.1
  by_cases hl : xs.length = ys.length
  · obtain ⟨b, hb, hb'⟩ := same_loop (fun k i => laws_eqInt64SS.l4 k xs ys (i : Int)) xs ys [] hl (fun i hi => by
      have hs : (xs.getD i []).length ≤ 1048576 := h.2 _ (getD_mem _ hi)
      obtain ⟨c, hc, hc'⟩ := laws_eqInt64S.val (xs.getD i []) (ys.getD i []) (by omega)
      exact ⟨c, hc', fun k => by rw [laws_eqInt64SS.l4_eq, if_pos (ltI.2 hi), if_pos (idxI.2 hi), if_pos (idx2 (hl ▸ hi))]; simp only [Int.toNat_natCast, hc, Option.bind_some]; rw [wrapN (by omega)]⟩) (fun k => by rw [laws_eqInt64SS.l4_eq, if_neg (by simp)])
    exact ⟨b, laws_eqInt64SS.of _ _ (hb.of_eq fun k => by rw [laws_eqInt64SS.T, if_neg (by simp [hl])]; rfl), hb'⟩
  · exact ⟨false, laws_eqInt64SS.of _ _ ((Ev.const _).of_eq fun k => by rw [laws_eqInt64SS.T, if_pos (by simp; omega)]), by simp; intro e; exact hl (by rw [e])⟩
theorem laws_eqComplex.same (xs ys : List (List Int)) (h : SmL xs) : ∃ b, laws_eqComplex.F (xs, ys, ()) = some ((b, ()), ()) ∧ (b = true ↔ xs = ys) := by
  obtain ⟨b, hb, hb'⟩ := laws_eqInt64SS.same xs ys h
  rw [laws_eqComplex.eq, laws_eqComplex.T, hb]
  exact ⟨b, by cases b <;> rfl, hb'⟩
theorem isSimplicial_both (c b : List (List Int)) (im : List Int) (hc : SmL c) (hb : SmL b) (him : im.length ≤ 1048576) : ∃ v, spec_IsSimplicial.F (c, b, im, ()) = some ((v, ()), ()) ∧ impl_IsSimplicial.F (c, b, im, ()) = some ((v, ()), ()) := by
  obtain ⟨v1, a1, a1'⟩ := spec_l05Ok.val c hc
  obtain ⟨v2, a2, a2'⟩ := spec_l05Ok.val b hb
  obtain ⟨u1, b1, b1'⟩ := impl_ValidComplex.val c hc
  obtain ⟨u2, b2, b2'⟩ := impl_ValidComplex.val b hb
  obtain rfl : u1 = v1 := Bool.eq_iff_iff.2 (b1'.trans a1'.symm)
  obtain rfl : u2 = v2 := Bool.eq_iff_iff.2 (b2'.trans a2'.symm)
  rw [spec_IsSimplicial.eq, spec_IsSimplicial.T, impl_IsSimplicial.eq, impl_IsSimplicial.T, impl_IsMap.eq, impl_IsMap.T, a1, a2, b1, b2]
  simp only [Option.bind_some]
  cases u1 with
  | false => exact ⟨false, rfl, rfl⟩
  | true => cases u2 with
    | false => exact ⟨false, rfl, rfl⟩
    | true =>
      obtain ⟨v, e1, e1'⟩ := spec_l13Map.val c b im (a1'.1 rfl) hb him
      obtain ⟨w, e2, e2'⟩ := impl_isMap.val c b im (a1'.1 rfl) (a2'.1 rfl) him
      obtain rfl : w = v := Bool.eq_iff_iff.2 (e2'.trans e1'.symm)
      exact ⟨w, by simp only [if_true, e1, Option.bind_some], by simp only [if_true, e2, Option.bind_some]⟩
theorem cpx_wf {s : List (List Int)} (h : wfT (.sl (.sl (.int .i64))) s) : s.length ≤ maxLen ∧ ∀ x ∈ s, x.length ≤ maxLen := ⟨h.1, fun x hx => (h.2 x hx).1⟩
theorem laws_FnExactIsSimplicial.pure (d : Ins laws_FnExactIsSimplicial.sig.ps) (h : wfIns laws_FnExactIsSimplicial.sig.ps d) : ∃ mu, laws_FnExactIsSimplicial.F d = some ((true, ()), mu) := by
  obtain ⟨s, t, u, ⟨⟩⟩ := d
  obtain ⟨hs, ht, hu, _⟩ := h
  obtain ⟨w1, w2⟩ := cpx_wf hs
  obtain ⟨u1, u2⟩ := cpx_wf ht
  refine ⟨(), ?_⟩
  rw [laws_FnExactIsSimplicial.eq, laws_FnExactIsSimplicial.T]
  by_cases hus : u.length ≤ 1048576
  · rw [if_neg (by simp; omega)]
    obtain ⟨r1, e1, k1⟩ := laws_szComplex.val s 1048576 (by omega) (by omega) w1 w2
    simp only [e1, Option.bind_some]
    rcases k1 with rfl | ⟨a1, b1, c1⟩
    · rw [if_pos (by simp)]
    rw [if_neg (by simp; omega)]
    obtain ⟨r2, e2, k2⟩ := laws_szComplex.val t r1 a1 b1 u1 u2
    simp only [e2, Option.bind_some]
    rcases k2 with rfl | ⟨a2, b2, c2⟩
    · rw [if_pos (by simp)]
    rw [if_neg (by simp; omega)]
    obtain ⟨v, p1, p2⟩ := isSimplicial_both s t u c1 c2 hus
    obtain ⟨f1, g1, g1'⟩ := laws_eqComplex.same s s c1
    obtain ⟨f2, g2, g2'⟩ := laws_eqComplex.same t t c2
    obtain rfl : f1 = true := g1'.2 rfl
    obtain rfl : f2 = true := g2'.2 rfl
    have g3 := laws_eqInt64S.refl u (by omega)
    have t3 := laws_toInt64S.val u (by omega)
    simp [laws_toComplex.val s c1, laws_toComplex.val t c2, t3, p1, p2, g1, g2, g3]
  · rw [if_pos (by simp; omega)]
end Go.Proofs.Ytahkpjebkelmfaa
