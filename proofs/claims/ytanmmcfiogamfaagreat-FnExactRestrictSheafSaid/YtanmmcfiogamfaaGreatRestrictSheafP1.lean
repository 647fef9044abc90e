/- What the functions answer. -/
import Derived.Test.YtanmmcfiogamfaaGreatRestrictSheafG2
namespace Go.Proofs.YtanmmcfiogamfaaGreat
open Go Go.Vm
set_option linter.unusedVariables false
set_option linter.unusedSimpArgs false
abbrev EdgeV := Int × Int × Int
theorem wrapI {x : Int} (h1 : -9223372036854775808 ≤ x) (h2 : x ≤ 9223372036854775807) : IntKind.i64.wrap x = x := by
  have e : (2 : Int) ^ (IntKind.i64).bits = 18446744073709551616 := by decide
  have e2 : (2 : Int) ^ ((IntKind.i64).bits - 1) = 9223372036854775808 := by decide
  unfold IntKind.wrap
  simp only [e, e2, show IntKind.i64.signed = true from rfl, Bool.true_and, decide_eq_true_eq]
  split <;> omega
theorem wrapN {i : Nat} (h : i < 4611686018427387904) : IntKind.i64.wrap ((i : Int) + 1) = ((i + 1 : Nat) : Int) := by
  rw [wrapI (by omega) (by omega)]; omega
theorem idxI {α : Type} {xs : List α} {i : Nat} : (0 ≤ (i : Int) ∧ (i : Int) < (xs.length : Int)) ↔ i < xs.length := by omega
theorem ltI {i n : Nat} : (decide ((i : Int) < (n : Int))) = true ↔ i < n := by simp
theorem getD_eq {α : Type} {xs : List α} {i : Nat} {d : α} (h : i < xs.length) : xs.getD i d = xs[i] := by
  rw [List.getD_eq_getElem?_getD, List.getElem?_eq_getElem h]; rfl
def Goes {R : Type} (A B : Nat → Option R) : Prop := ∀ r, Ev B r → Ev A r
theorem Goes.refl {R : Type} (A : Nat → Option R) : Goes A A := fun _ h => h
theorem Goes.trans {R : Type} {A B C : Nat → Option R} (h : Goes A B) (k : Goes B C) : Goes A C := fun r hr => h r (k r hr)
theorem Goes.succ {R : Type} {A B : Nat → Option R} (e : ∀ k, A (k + 1) = B k) : Goes A B := fun _ h => h.succ e
theorem Goes.of_eq {R : Type} {A B : Nat → Option R} (e : ∀ k, A k = B k) : Goes A B := fun _ h => h.of_eq e
theorem Ev.loop {σ R : Type} (L : Nat → Nat → σ → Option R) (n : Nat) (I : Nat → σ → Prop) (Q : R → Prop)
    (hstep : ∀ i s, i < n → I i s → (∃ r, Ev (fun k => L k i s) r ∧ Q r) ∨ (∃ s', I (i + 1) s' ∧ Goes (fun k => L k i s) (fun k => L k (i + 1) s')))
    (hend : ∀ s, I n s → ∃ r, Ev (fun k => L k n s) r ∧ Q r) : ∀ i s, i ≤ n → I i s → ∃ r, Ev (fun k => L k i s) r ∧ Q r := by
  have key : ∀ j i s, i + j = n → I i s → ∃ r, Ev (fun k => L k i s) r ∧ Q r := by
    intro j
    induction j with
    | zero => intro i s hi h; obtain rfl : i = n := by omega
              exact hend s h
    | succ j ih =>
      intro i s hi h
      rcases hstep i s (by omega) h with h1 | ⟨s', h1, h2⟩
      · exact h1
      · obtain ⟨r, hr, hq⟩ := ih (i + 1) s' (by omega) h1
        exact ⟨r, h2 r hr, hq⟩
  exact fun i s hi h => key (n - i) i s (by omega) h
theorem Goes.loop {σ R : Type} (L : Nat → Nat → σ → Option R) (n : Nat) (I : Nat → σ → Prop)
    (hstep : ∀ i s, i < n → I i s → ∃ s', I (i + 1) s' ∧ Goes (fun k => L k i s) (fun k => L k (i + 1) s')) : ∀ i s, i ≤ n → I i s → ∃ s', I n s' ∧ Goes (fun k => L k i s) (fun k => L k n s') := by
  have key : ∀ j i s, i + j = n → I i s → ∃ s', I n s' ∧ Goes (fun k => L k i s) (fun k => L k n s') := by
    intro j
    induction j with
    | zero => intro i s hi h; obtain rfl : i = n := by omega
              exact ⟨s, h, Goes.refl _⟩
    | succ j ih =>
      intro i s hi h
      obtain ⟨s', h1, h2⟩ := hstep i s (by omega) h
      obtain ⟨s2, h3, h4⟩ := ih (i + 1) s' (by omega) h1
      exact ⟨s2, h3, h2.trans h4⟩
  exact fun i s hi h => key (n - i) i s (by omega) h
theorem Ev.all {A B : Type} {L : Nat → Nat → Option ((Bool × A) × B)} {a : A} {b : B} {n : Nat} (p : Nat → Bool) (hstep : ∀ k i, i < n → L (k + 1) i = if p i = true then L k (i + 1) else some ((false, a), b)) (hend : ∀ k, L (k + 1) n = some ((true, a), b)) (i : Nat) (hi : i ≤ n) :
    ∃ v, Ev (fun k => L k i) ((v, a), b) ∧ (v = true ↔ ∀ j, i ≤ j → j < n → p j = true) := by
  have key : ∀ m i, i + m = n → ∃ v, Ev (fun k => L k i) ((v, a), b) ∧ (v = true ↔ ∀ j, i ≤ j → j < n → p j = true) := by
    intro m
    induction m with
    | zero => intro i hi; obtain rfl : i = n := by omega
              exact ⟨true, (Ev.const _).succ hend, by simp; intro j _ _; omega⟩
    | succ m ih =>
      intro i hi
      obtain ⟨v, hv, hv'⟩ := ih (i + 1) (by omega)
      cases hp : p i with
      | false => exact ⟨false, (Ev.const _).succ fun k => by rw [hstep k i (by omega), hp]; rfl, by simp; exact ⟨i, Nat.le_refl _, by omega, hp⟩⟩
      | true =>
        refine ⟨v, hv.succ fun k => by rw [hstep k i (by omega), hp]; rfl, hv'.trans ⟨fun h j hj hn => ?_, fun h j hj hn => h j (by omega) hn⟩⟩
        by_cases hij : j = i
        · rw [hij]; exact hp
        · exact h j (by omega) hn
  exact key (n - i) i (by omega)
theorem all_eq {α : Type} {xs ys : List α} (hl : xs.length = ys.length) (q : α → α → Bool) (hq : ∀ x y, q x y = true ↔ x = y) (d : α) : (∀ j, 0 ≤ j → j < xs.length → q (xs.getD j d) (ys.getD j d) = true) ↔ xs = ys := by
  constructor
  · intro h
    refine List.ext_getElem hl fun i h1 h2 => ?_
    have := (hq _ _).1 (h i (Nat.zero_le _) h1)
    rwa [getD_eq h1, getD_eq h2] at this
  · rintro rfl j _ _
    exact (hq _ _).2 rfl
theorem Goes.fill {α R : Type} {L : Nat → Nat → List α → Option R} (xs : List α) (d : α) (hstep : ∀ k i ys, i < xs.length → ys.length = xs.length → L (k + 1) i ys = L k (i + 1) (ys.set i (xs.getD i d))) (ys : List α) (hy : ys.length = xs.length) :
    Goes (fun k => L k 0 ys) (fun k => L k xs.length xs) := by
  obtain ⟨s, ⟨hs1, hs2⟩, hs3⟩ := Goes.loop L xs.length (fun i s => s.length = xs.length ∧ s.take i = xs.take i) (fun i s hi ⟨h1, h2⟩ => ⟨s.set i (xs.getD i d), ⟨by simp [h1], by
    rw [List.take_add_one, List.take_add_one, List.take_set_of_le (Nat.le_refl _), h2]
    simp [hi, h1, getD_eq hi]⟩, Goes.succ fun k => hstep k i s hi h1⟩) 0 ys (Nat.zero_le _) ⟨hy, by simp⟩
  have : s = xs := by
    rw [List.take_of_length_le (by omega), List.take_of_length_le (Nat.le_refl _)] at hs2
    exact hs2
  rw [this] at hs3
  exact hs3
theorem ite_nb {α : Type} (b : Bool) (x y : α) : (if (!b) = true then x else y) = if b = true then y else x := by cases b <;> rfl
theorem Ev.allP {A B : Type} {L : Nat → Nat → Option ((Bool × A) × B)} {a : A} {b : B} {n : Nat} (P : Nat → Prop) (e : Bool) (hstep : ∀ i, i < n → (P i ∧ ∀ k, L (k + 1) i = L k (i + 1)) ∨ (¬ P i ∧ ∀ k, L (k + 1) i = some ((false, a), b))) (hend : Ev (fun k => L k n) ((e, a), b)) (i : Nat) (hi : i ≤ n) :
    ∃ v, Ev (fun k => L k i) ((v, a), b) ∧ (v = true ↔ e = true ∧ ∀ j, i ≤ j → j < n → P j) := by
  have key : ∀ m i, i + m = n → ∃ v, Ev (fun k => L k i) ((v, a), b) ∧ (v = true ↔ e = true ∧ ∀ j, i ≤ j → j < n → P j) := by
    intro m
    induction m with
    | zero => intro i hi; obtain rfl : i = n := by omega
              exact ⟨e, hend, ⟨fun h => ⟨h, fun j h1 h2 => by omega⟩, fun h => h.1⟩⟩
    | succ m ih =>
      intro i hi
      obtain ⟨v, hv, hv'⟩ := ih (i + 1) (by omega)
      rcases hstep i (by omega) with ⟨hp, h⟩ | ⟨hp, h⟩
      · refine ⟨v, hv.succ h, hv'.trans ⟨fun ⟨h1, h2⟩ => ⟨h1, fun j hj hn => ?_⟩, fun ⟨h1, h2⟩ => ⟨h1, fun j hj hn => h2 j (by omega) hn⟩⟩⟩
        by_cases hij : j = i
        · rw [hij]; exact hp
        · exact h2 j (by omega) hn
      · exact ⟨false, (Ev.const _).succ h, ⟨fun h => (by cases h), fun ⟨_, h2⟩ => absurd (h2 i (Nat.le_refl _) (by omega)) hp⟩⟩
  exact key (n - i) i (by omega)
theorem wrapP {i : Nat} (h : 0 < i) (h2 : i < 4611686018427387904) : IntKind.i64.wrap ((i : Int) - 1) = ((i - 1 : Nat) : Int) := by
  rw [wrapI (by omega) (by omega)]; omega
theorem Goes.foldl {α σ R : Type} {L : Nat → Nat → σ → Option R} (xs : List α) (d : α) (f : σ → α → σ) (hstep : ∀ k i s, i < xs.length → L (k + 1) i s = L k (i + 1) (f s (xs.getD i d))) (s : σ) : Goes (fun k => L k 0 s) (fun k => L k xs.length (xs.foldl f s)) := by
  have key : ∀ m i s, i + m = xs.length → Goes (fun k => L k i s) (fun k => L k xs.length ((xs.drop i).foldl f s)) := by
    intro m
    induction m with
    | zero => intro i s hi; obtain rfl : i = xs.length := by omega
              rw [List.drop_length]; exact Goes.refl _
    | succ m ih =>
      intro i s hi
      have h : i < xs.length := by omega
      refine (Goes.succ fun k => hstep k i s h).trans ?_
      rw [List.drop_eq_getElem_cons h, List.foldl_cons, ← getD_eq (d := d) h]
      exact ih (i + 1) _ (by omega)
  have := key xs.length 0 s (by omega)
  simpa using this
theorem getD_mem {α : Type} {xs : List α} {i : Nat} (d : α) (h : i < xs.length) : xs.getD i d ∈ xs := by rw [getD_eq h]; exact List.getElem_mem h
theorem Ev.allF {A B : Type} {L : Nat → Nat → Option ((Bool × A) × B)} {a : A} {b : B} {n : Nat} (P : Nat → Prop) (e : Bool) (i0 : Nat) (hstep : ∀ i, i0 ≤ i → i < n → (P i ∧ ∀ k, L (k + 1) i = L k (i + 1)) ∨ (¬ P i ∧ ∀ k, L (k + 1) i = some ((false, a), b))) (hend : Ev (fun k => L k n) ((e, a), b)) (i : Nat) (h0 : i0 ≤ i) (hi : i ≤ n) :
    ∃ v, Ev (fun k => L k i) ((v, a), b) ∧ (v = true ↔ e = true ∧ ∀ j, i ≤ j → j < n → P j) := by
  have key : ∀ m i, i0 ≤ i → i + m = n → ∃ v, Ev (fun k => L k i) ((v, a), b) ∧ (v = true ↔ e = true ∧ ∀ j, i ≤ j → j < n → P j) := by
    intro m
    induction m with
    | zero => intro i h0 hi; obtain rfl : i = n := by omega
              exact ⟨e, hend, ⟨fun h => ⟨h, fun j h1 h2 => by omega⟩, fun h => h.1⟩⟩
    | succ m ih =>
      intro i h0 hi
      obtain ⟨v, hv, hv'⟩ := ih (i + 1) (by omega) (by omega)
      rcases hstep i h0 (by omega) with ⟨hp, h⟩ | ⟨hp, h⟩
      · refine ⟨v, hv.succ h, hv'.trans ⟨fun ⟨h1, h2⟩ => ⟨h1, fun j hj hn => ?_⟩, fun ⟨h1, h2⟩ => ⟨h1, fun j hj hn => h2 j (by omega) hn⟩⟩⟩
        by_cases hij : j = i
        · rw [hij]; exact hp
        · exact h2 j (by omega) hn
      · exact ⟨false, (Ev.const _).succ h, ⟨fun h => (by cases h), fun ⟨_, h2⟩ => absurd (h2 i (Nat.le_refl _) (by omega)) hp⟩⟩
  exact key (n - i) i h0 (by omega)
open Go.Lib (compact compactUpTo compactUpTo_succ keeps)
theorem asc_ext : ∀ {xs ys : List Int}, xs.Pairwise (· < ·) → ys.Pairwise (· < ·) → (∀ s, s ∈ xs ↔ s ∈ ys) → xs = ys
  | [], ys, _, _, h => by
    cases ys with
    | nil => rfl
    | cons y ys => exact absurd ((h y).2 (by simp)) (by simp)
  | x :: xs, [], _, _, h => absurd ((h x).1 (by simp)) (by simp)
  | x :: xs, y :: ys, hx, hy, h => by
    rw [List.pairwise_cons] at hx hy
    have e : x = y := by
      have h1 := (h x).1 (by simp)
      have h2 := (h y).2 (by simp)
      simp only [List.mem_cons] at h1 h2
      rcases h1 with rfl | h1
      · rfl
      · rcases h2 with rfl | h2
        · rfl
        · have := hx.1 y h2; have := hy.1 x h1; omega
    subst e
    rw [asc_ext hx.2 hy.2 fun s => ?_]
    constructor
    · intro hs
      have := (h s).1 (by simp [hs])
      simp only [List.mem_cons] at this
      rcases this with rfl | this
      · have := hx.1 s hs; omega
      · exact this
    · intro hs
      have := (h s).2 (by simp [hs])
      simp only [List.mem_cons] at this
      rcases this with rfl | this
      · have := hy.1 s hs; omega
      · exact this
theorem compact_asc (d : Array Int) (hs : ∀ i j, i < j → j < d.size → d[i]! ≤ d[j]!) : ∀ m, m ≤ d.size → (compactUpTo d m).Pairwise (· < ·) ∧ (∀ x, x ∈ compactUpTo d m ↔ ∃ j, j < m ∧ d[j]! = x) ∧ ∀ x ∈ compactUpTo d m, x ≤ d[m - 1]!
  | 0, _ => ⟨by simp [compactUpTo], fun x => by simp [compactUpTo], fun x hx => by simp [compactUpTo] at hx⟩
  | m + 1, h => by
    obtain ⟨h1, h2, h3⟩ := compact_asc d hs m (by omega)
    have hm : ∀ x ∈ compactUpTo d m, x ≤ d[m]! := fun x hx => by
      obtain ⟨j, hj, rfl⟩ := (h2 x).1 hx
      exact hs j m hj (by omega)
    rw [compactUpTo_succ]
    by_cases hk : keeps d m = true
    · rw [if_pos hk]
      have hlt : ∀ x ∈ compactUpTo d m, x < d[m]! := fun x hx => by
        have hm0 : m ≠ 0 := by
          rintro rfl
          simp [compactUpTo] at hx
        simp only [keeps, hm0, false_or, decide_eq_true_eq, ne_eq] at hk
        have := h3 x hx
        have := hs (m - 1) m (by omega) (by omega)
        omega
      refine ⟨?_, fun x => ?_, fun x hx => ?_⟩
      · rw [List.pairwise_append]
        exact ⟨h1, by simp, fun a ha b hb => by simp only [List.mem_singleton] at hb; rw [hb]; exact hlt a ha⟩
      · rw [List.mem_append, h2, List.mem_singleton]
        constructor
        · rintro (⟨j, hj, rfl⟩ | rfl)
          · exact ⟨j, by omega, rfl⟩
          · exact ⟨m, by omega, rfl⟩
        · rintro ⟨j, hj, rfl⟩
          by_cases e : j = m
          · subst e; exact .inr rfl
          · exact .inl ⟨j, by omega, rfl⟩
      · simp only [Nat.add_sub_cancel]
        rw [List.mem_append, List.mem_singleton] at hx
        rcases hx with hx | rfl
        · exact hm x hx
        · exact Int.le_refl _
    · rw [if_neg hk, List.append_nil]
      have hm0 : m ≠ 0 ∧ d[m]! = d[m - 1]! := by
        simp only [keeps, decide_eq_true_eq, ne_eq, not_or, Classical.not_not] at hk
        exact hk
      refine ⟨h1, fun x => ?_, fun x hx => by simpa using hm x hx⟩
      rw [h2]
      constructor
      · rintro ⟨j, hj, rfl⟩; exact ⟨j, by omega, rfl⟩
      · rintro ⟨j, hj, rfl⟩
        by_cases e : j = m
        · subst e; exact ⟨j - 1, by omega, hm0.2.symm⟩
        · exact ⟨j, by omega, rfl⟩
def setI (xs : List Int) : List Int := compact (xs.mergeSort fun x y => decide (x ≤ y))
theorem setI_spec (xs : List Int) : (setI xs).Pairwise (· < ·) ∧ ∀ x, x ∈ setI xs ↔ x ∈ xs := by
  obtain ⟨ys, hys⟩ : ∃ ys, ys = xs.mergeSort fun x y => decide (x ≤ y) := ⟨_, rfl⟩
  have hp : ys.Perm xs := by rw [hys]; exact List.mergeSort_perm _ _
  have hs : ys.Pairwise (fun a b => decide (a ≤ b) = true) := by
    rw [hys]
    refine List.pairwise_mergeSort ?_ ?_ _
    · intro a b c h1 h2; simp only [decide_eq_true_eq] at *; omega
    · intro a b; simp only [Bool.or_eq_true, decide_eq_true_eq]; omega
  have hget : ∀ j (hj : j < ys.length), ys.toArray[j]! = ys[j] := fun j hj => by rw [getElem!_pos ys.toArray j (by simpa using hj)]; simp
  obtain ⟨h1, h2, -⟩ := compact_asc ys.toArray (fun i j hij hj => by
    have hj' : j < ys.length := by simpa using hj
    have := List.pairwise_iff_getElem.1 hs i j (by omega) hj' hij
    rw [hget i (by omega), hget j hj']
    simpa using this) ys.length (by simp)
  unfold setI
  rw [← hys]
  refine ⟨h1, fun x => ?_⟩
  show x ∈ compactUpTo ys.toArray ys.length ↔ _
  rw [h2, ← hp.mem_iff]
  constructor
  · rintro ⟨j, hj, rfl⟩; rw [hget j hj]; exact List.getElem_mem hj
  · intro hx
    obtain ⟨j, hj, rfl⟩ := List.getElem_of_mem hx
    exact ⟨j, hj, hget j hj⟩
theorem slices_Sort_Lint64_int64.val (xs : List Int) (h : xs.length ≤ 1048576) : slices_Sort_Lint64_int64.F (xs, ()) = some ((), (xs.mergeSort fun x y => decide (x ≤ y), ())) := by
  unfold slices_Sort_Lint64_int64.F sortIF
  rw [if_pos (show xs.length < _ by omega)]
theorem slices_Compact_Lint64_int64.val (xs : List Int) (h : xs.length ≤ 1048576) : slices_Compact_Lint64_int64.F (xs, ()) = some ((compact xs, ()), ()) := by
  unfold slices_Compact_Lint64_int64.F compIF
  rw [if_pos (show xs.length < _ by omega)]
def putL : List Int → Int → Bool → List Int
  | [], n, b => if b = true then [] else [n]
  | x :: l, n, b => if b = true then x :: putL l n true else if n ≤ x then (if n < x then n :: x :: putL l n true else x :: putL l n true) else x :: putL l n false
theorem putL_true (n : Int) : ∀ l, putL l n true = l
  | [] => rfl
  | x :: l => by simp [putL, putL_true n l]
theorem putL_spec (n : Int) : ∀ {l : List Int}, l.Pairwise (· < ·) → (putL l n false).Pairwise (· < ·) ∧ ∀ x, x ∈ putL l n false ↔ x = n ∨ x ∈ l
  | [], _ => ⟨by simp [putL], fun x => by simp [putL]⟩
  | y :: l, h => by
    rw [List.pairwise_cons] at h
    obtain ⟨h1, h2⟩ := putL_spec n h.2
    simp only [putL, Bool.false_eq_true, if_false, putL_true]
    by_cases c1 : n ≤ y
    · rw [if_pos c1]
      by_cases c2 : n < y
      · rw [if_pos c2]
        refine ⟨?_, fun x => by simp⟩
        rw [List.pairwise_cons, List.pairwise_cons]
        refine ⟨fun a ha => ?_, h.1, h.2⟩
        simp only [List.mem_cons] at ha
        rcases ha with rfl | ha
        · exact c2
        · have := h.1 a ha; omega
      · rw [if_neg c2]
        have : n = y := by omega
        subst this
        exact ⟨List.pairwise_cons.2 h, fun x => by simp⟩
    · rw [if_neg c1]
      refine ⟨List.pairwise_cons.2 ⟨fun a ha => ?_, h1⟩, fun x => ?_⟩
      · rcases (h2 a).1 ha with rfl | ha
        · omega
        · exact h.1 a ha
      · rw [List.mem_cons, h2, List.mem_cons]
        constructor
        · rintro (h | h | h)
          · exact .inr (.inl h)
          · exact .inl h
          · exact .inr (.inr h)
        · rintro (h | h | h)
          · exact .inr (.inl h)
          · exact .inl h
          · exact .inr (.inr h)
theorem putL_len (n : Int) (l : List Int) (b : Bool) : (putL l n b).length ≤ l.length + 1 := by
  induction l generalizing b with
  | nil => simp only [putL]; split <;> simp
  | cons x l ih =>
    have h1 := putL_true n l
    simp only [putL]
    split
    · rw [h1]; simp
    · split
      · split <;> rw [h1] <;> simp
      · have := ih false; simp only [List.length_cons]; omega
theorem spec_l00Put.val (xs : List Int) (n : Int) (h : xs.length ≤ 1000) : spec_l00Put.F (xs, n, ()) = some ((putL xs n false, ()), ()) := by
  refine spec_l00Put.of _ _ ?_
  have key : ∀ (m i : Nat) (b : Bool) (out : List Int), i + m = xs.length → out.length ≤ i + b.toNat → Ev (fun k => spec_l00Put.l4 k xs n b (i : Int) out) ((out ++ putL (xs.drop i) n b, ()), ()) := by
    intro m
    induction m with
    | zero =>
      intro i b out hi ho
      have ho1 : out.length ≤ i + 1 := by have := Bool.toNat_le b; omega
      have hi : i = xs.length := by omega
      subst hi
      refine (Ev.const _).succ fun k => ?_
      rw [spec_l00Put.l4_eq, if_neg (by simp), List.drop_length]
      cases b with
      | false => rw [if_pos (by simp), if_pos (by simp only [List.length_cons, List.length_nil, bigA]; omega)]; simp [putL]
      | true => rw [if_neg (by simp)]; simp [putL]
    | succ m ih =>
      intro i b out hi ho
      have ho1 : out.length ≤ i + 1 := by have := Bool.toNat_le b; omega
      have hlt : i < xs.length := by omega
      have hd : xs.drop i = xs.getD i 0 :: xs.drop (i + 1) := by rw [List.drop_eq_getElem_cons hlt, getD_eq hlt]
      have hb1 : out.length + ([xs.getD i 0] : List Int).length ≤ bigA := by simp only [List.length_cons, List.length_nil, bigA]; omega
      have hb2 : out.length + ([n] : List Int).length ≤ bigA := by simp only [List.length_cons, List.length_nil, bigA]; omega
      have hb3 : ∀ z : Int, (out ++ [n]).length + ([z] : List Int).length ≤ bigA := fun z => by simp only [List.length_append, List.length_cons, List.length_nil, bigA]; omega
      have E := fun k => spec_l00Put.l4_eq k xs n b (i : Int) out
      simp only [if_pos (ltI.2 hlt), if_pos (idxI.2 hlt), Int.toNat_natCast, wrapN (show i < 4611686018427387904 by omega), if_pos hb1] at E
      obtain ⟨y, hy⟩ : ∃ y, y = xs.getD i 0 := ⟨_, rfl⟩
      rw [← hy] at hd hb1
      simp only [← hy] at E
      rw [hd]
      cases b with
      | true =>
        have := ih (i + 1) true (out ++ [y]) (by omega) (by simp only [List.length_append, List.length_cons, List.length_nil, Bool.toNat_true, Bool.toNat_false] at *; omega)
        rw [List.append_assoc] at this
        refine Ev.succ this fun k => ?_
        rw [E, if_neg (by simp)]
      | false =>
        simp only [Bool.not_false, if_true] at E
        by_cases c1 : n ≤ y
        · by_cases c2 : n < y
          · have := ih (i + 1) true (out ++ [n] ++ [y]) (by omega) (by simp only [List.length_append, List.length_cons, List.length_nil, Bool.toNat_true, Bool.toNat_false] at *; omega)
            have e : out ++ [n] ++ [y] ++ putL (xs.drop (i + 1)) n true = out ++ putL (y :: xs.drop (i + 1)) n false := by simp [putL, c1, c2, putL_true]
            rw [e] at this
            refine Ev.succ this fun k => ?_
            rw [E, if_pos (by simpa using c1), if_pos (by simpa using c2), if_pos hb2, if_pos (hb3 _)]
          · have := ih (i + 1) true (out ++ [y]) (by omega) (by simp only [List.length_append, List.length_cons, List.length_nil, Bool.toNat_true, Bool.toNat_false] at *; omega)
            have e : out ++ [y] ++ putL (xs.drop (i + 1)) n true = out ++ putL (y :: xs.drop (i + 1)) n false := by simp [putL, c1, c2, putL_true]
            rw [e] at this
            refine Ev.succ this fun k => ?_
            rw [E, if_pos (by simpa using c1), if_neg (by simpa using c2)]
        · have := ih (i + 1) false (out ++ [y]) (by omega) (by simp only [List.length_append, List.length_cons, List.length_nil, Bool.toNat_true, Bool.toNat_false] at *; omega)
          have e : out ++ [y] ++ putL (xs.drop (i + 1)) n false = out ++ putL (y :: xs.drop (i + 1)) n false := by simp [putL, c1]
          rw [e] at this
          refine Ev.succ this fun k => ?_
          rw [E, if_neg (by simpa using c1)]
  exact (key xs.length 0 false [] (by omega) (by simp)).of_eq fun k => rfl
theorem puts_spec : ∀ (l acc : List Int), acc.Pairwise (· < ·) → (l.foldl (fun a n => putL a n false) acc).Pairwise (· < ·) ∧ ∀ x, x ∈ l.foldl (fun a n => putL a n false) acc ↔ x ∈ acc ∨ x ∈ l
  | [], acc, h => ⟨h, fun x => by simp⟩
  | n :: l, acc, h => by
    obtain ⟨h1, h2⟩ := putL_spec n h
    obtain ⟨h3, h4⟩ := puts_spec l _ h1
    refine ⟨h3, fun x => ?_⟩
    rw [List.foldl_cons, h4, h2, List.mem_cons]
    constructor
    · rintro ((h | h) | h)
      · exact .inr (.inl h)
      · exact .inl h
      · exact .inr (.inr h)
    · rintro (h | h | h)
      · exact .inl (.inr h)
      · exact .inl (.inl h)
      · exact .inr h
theorem puts_setI (l : List Int) : l.foldl (fun a n => putL a n false) [] = setI l := by
  obtain ⟨h1, h2⟩ := puts_spec l [] (by simp)
  obtain ⟨h3, h4⟩ := setI_spec l
  exact asc_ext h1 h3 fun s => by rw [h2, h4]; simp
theorem spec_l00In.val (n lo hi : Int) : spec_l00In.F (n, lo, hi, ()) = some ((decide (lo ≤ n ∧ n ≤ hi), ()), ()) := by
  rw [spec_l00In.eq, spec_l00In.T]
  by_cases h : lo ≤ n
  · rw [if_pos (by simp [h])]; simp [h]
  · rw [if_neg (by simp [h])]; simp [h]
theorem impl_within.val (n lo hi : Int) : impl_within.F (n, lo, hi, ()) = some ((decide (lo ≤ n ∧ n ≤ hi), ()), ()) := by
  rw [impl_within.eq, impl_within.T]
  by_cases h : lo ≤ n
  · rw [if_pos (by simp [h])]; simp [h]
  · rw [if_neg (by simp [h])]; simp [h]
def cmpI (x y : Int) : Int := if x < y then -1 else if x > y then 1 else 0
theorem cmp_Compare_int64.val (x y : Int) : cmp_Compare_int64.F (x, y, ()) = some ((cmpI x y, ()), ()) := by
  rw [cmp_Compare_int64.eq, cmp_Compare_int64.T, cmp_isNaN_int64.eq, cmp_isNaN_int64.T, cmp_isNaN_int64.eq, cmp_isNaN_int64.T]
  simp only [Option.bind_some, bne_self_eq_false, Bool.false_eq_true, if_false, decide_eq_true_eq, cmpI]
  repeat' split
  all_goals rfl
theorem cmp_Or_int.val2 (x y : Int) : cmp_Or_int.F ([x, y], ()) = some ((if x ≠ 0 then x else y, ()), ()) := by
  refine cmp_Or_int.of _ ⟨3, fun k hk => ?_⟩
  obtain ⟨k, rfl⟩ : ∃ j, k = j + 1 + 1 + 1 := ⟨k - 3, by omega⟩
  show cmp_Or_int.T (k + 1 + 1 + 1) [x, y] = _
  rw [cmp_Or_int.T, cmp_Or_int.l3_eq]
  by_cases hx : x = 0
  · subst hx
    simp only [List.length_cons, List.length_nil]
    rw [if_pos (by simp), if_pos (by simp), if_neg (by simp), cmp_Or_int.l3_eq]
    simp only [List.length_cons, List.length_nil]
    rw [wrapI (by omega) (by omega)]
    rw [if_pos (by simp), if_pos (by simp)]
    by_cases hy : y = 0
    · subst hy
      rw [if_neg (by simp), cmp_Or_int.l3_eq, wrapI (by omega) (by omega), if_neg (by simp)]; simp
    · rw [if_pos (by simp [hy])]; simp
  · simp only [List.length_cons, List.length_nil]
    rw [if_pos (by simp), if_pos (by simp), if_pos (by simp [hx])]
    simp [hx]
abbrev MatV := Int × Int × Int × List Int
abbrev ShfV := List (List Int) × Int × List Int × List MatV
def Sm (xs : List Int) : Prop := xs.length ≤ 1048576
def SmL (xs : List (List Int)) : Prop := xs.length ≤ 1048576 ∧ ∀ x ∈ xs, Sm x
def SmM (m : MatV) : Prop := Sm m.2.2.2
def SmMs (ms : List MatV) : Prop := ms.length ≤ 1048576 ∧ ∀ m ∈ ms, SmM m
def SmSh (s : ShfV) : Prop := SmL s.1 ∧ Sm s.2.2.1 ∧ SmMs s.2.2.2
theorem sz_loop {α : Type} (L : Nat → Nat → Int → Option ((Int × Unit) × Unit)) (xs : List α) (d : α) (P : α → Prop)
    (hstep : ∀ i l, i < xs.length → 0 ≤ l → l ≤ 1048576 → (∃ r, 0 ≤ r ∧ r ≤ l ∧ P (xs.getD i d) ∧ ∀ k, L (k + 1) i l = L k (i + 1) r) ∨ ∀ k, L (k + 1) i l = some ((-1, ()), ()))
    (hend : ∀ k l, L (k + 1) xs.length l = some ((l, ()), ())) (l : Int) (h0 : 0 ≤ l) (h1 : l ≤ 1048576) :
    ∃ r, Ev (fun k => L k 0 l) ((r, ()), ()) ∧ (r = -1 ∨ 0 ≤ r ∧ r ≤ l ∧ ∀ x ∈ xs, P x) := by
  obtain ⟨r, hr, q, rfl, hq⟩ := Ev.loop (σ := Int) L xs.length (fun i s => 0 ≤ s ∧ s ≤ l ∧ ∀ j, j < i → P (xs.getD j d)) (fun r => ∃ q : Int, r = ((q, ()), ()) ∧ (q = -1 ∨ 0 ≤ q ∧ q ≤ l ∧ ∀ x ∈ xs, P x))
    (fun i s hi ⟨a, b, c⟩ => by
      rcases hstep i s hi a (by omega) with ⟨r, r0, r1, hp, e⟩ | e
      · refine .inr ⟨r, ⟨r0, by omega, fun j hj => ?_⟩, Goes.succ e⟩
        by_cases hji : j = i
        · rw [hji]; exact hp
        · exact c j (by omega)
      · exact .inl ⟨_, (Ev.const _).succ e, -1, rfl, .inl rfl⟩)
    (fun s ⟨a, b, c⟩ => ⟨_, (Ev.const _).succ fun k => hend k s, s, rfl, .inr ⟨a, b, fun x hx => by
      obtain ⟨j, hj, rfl⟩ := List.getElem_of_mem hx
      rw [← getD_eq (d := d) hj]; exact c j hj⟩⟩) 0 l (Nat.zero_le _) ⟨h0, Int.le_refl _, fun j hj => by omega⟩
  exact ⟨q, hr, hq⟩
theorem same_loop {α : Type} (L : Nat → Nat → Option ((Bool × Unit) × Unit)) (xs ys : List α) (d : α) (hl : xs.length = ys.length)
    (hstep : ∀ i, i < xs.length → ∃ b : Bool, (b = true ↔ xs.getD i d = ys.getD i d) ∧ ∀ k, L (k + 1) i = if (!b) = true then some ((false, ()), ()) else L k (i + 1))
    (hend : ∀ k, L (k + 1) xs.length = some ((true, ()), ())) : ∃ v, Ev (fun k => L k 0) ((v, ()), ()) ∧ (v = true ↔ xs = ys) := by
  obtain ⟨v, hv, hv'⟩ := Ev.allP (L := L) (a := ()) (b := ()) (n := xs.length) (fun i => xs.getD i d = ys.getD i d) true (fun i hi => by
    obtain ⟨b, hb, e⟩ := hstep i hi
    cases b with
    | true => exact .inl ⟨hb.1 rfl, fun k => by rw [e]; rfl⟩
    | false => exact .inr ⟨fun h => absurd (hb.2 h) (by simp), fun k => by rw [e]; rfl⟩) ((Ev.const _).succ hend) 0 (Nat.zero_le _)
  refine ⟨v, hv, hv'.trans ⟨fun ⟨_, h⟩ => ?_, fun h => ⟨rfl, fun j _ _ => by rw [h]⟩⟩⟩
  refine List.ext_getElem hl fun i h1 h2 => ?_
  have := h i (Nat.zero_le _) h1
  rwa [getD_eq h1, getD_eq h2] at this
theorem idx2 {i n : Nat} (h : i < n) : 0 ≤ (i : Int) ∧ (i : Int) < (n : Int) := by omega
def lexc : List Int → List Int → Int
  | [], [] => 0
  | [], _ :: _ => -1
  | _ :: _, [] => 1
  | a :: u, b :: v => if cmpI a b ≠ 0 then cmpI a b else lexc u v
theorem cmpI_cases (x y : Int) : (x < y ∧ cmpI x y = -1) ∨ (x = y ∧ cmpI x y = 0) ∨ (y < x ∧ cmpI x y = 1) := by
  unfold cmpI
  by_cases h : x < y
  · exact .inl ⟨h, if_pos h⟩
  · by_cases h2 : x > y
    · exact .inr (.inr ⟨h2, by rw [if_neg h, if_pos h2]⟩)
    · exact .inr (.inl ⟨by omega, by rw [if_neg h, if_neg h2]⟩)
theorem lexc_zero : ∀ (a b : List Int), lexc a b = 0 ↔ a = b
  | [], [] => by simp [lexc]
  | [], _ :: _ => by simp [lexc]
  | _ :: _, [] => by simp [lexc]
  | a :: u, b :: v => by
    rcases cmpI_cases a b with ⟨h, e⟩ | ⟨h, e⟩ | ⟨h, e⟩
    · simp [lexc, e]; intro h'; omega
    · subst h; simp [lexc, e, lexc_zero u v]
    · simp [lexc, e]; intro h'; omega
theorem lexc_trans : ∀ (a b c : List Int), lexc a b < 0 → lexc b c < 0 → lexc a c < 0
  | [], [], c, h1, _ => by simp [lexc] at h1
  | [], _ :: _, [], _, h2 => by simp [lexc] at h2
  | [], _ :: _, _ :: _, _, _ => by simp [lexc]
  | _ :: _, [], c, h1, _ => by simp [lexc] at h1
  | _ :: _, _ :: _, [], _, h2 => by simp [lexc] at h2
  | a :: u, b :: v, c :: w, h1, h2 => by
    have ih := lexc_trans u v w
    simp only [lexc] at h1 h2 ⊢
    rcases cmpI_cases a b with ⟨g1, e1⟩ | ⟨g1, e1⟩ | ⟨g1, e1⟩ <;> rcases cmpI_cases b c with ⟨g2, e2⟩ | ⟨g2, e2⟩ | ⟨g2, e2⟩ <;> rcases cmpI_cases a c with ⟨g3, e3⟩ | ⟨g3, e3⟩ | ⟨g3, e3⟩ <;> simp [e1, e2, e3] at h1 h2 ⊢ <;> first | omega | exact ih h1 h2
def cmpS (a b : List Int) : Int := if cmpI a.length b.length ≠ 0 then cmpI a.length b.length else lexc a b
theorem cmpS_zero (a b : List Int) : cmpS a b = 0 ↔ a = b := by
  unfold cmpS
  rcases cmpI_cases a.length b.length with ⟨h, e⟩ | ⟨h, e⟩ | ⟨h, e⟩
  · simp [e]; intro h'; rw [h'] at h; omega
  · simp [e, lexc_zero]
  · simp [e]; intro h'; rw [h'] at h; omega
theorem cmpS_trans (a b c : List Int) (h1 : cmpS a b < 0) (h2 : cmpS b c < 0) : cmpS a c < 0 := by
  unfold cmpS at *
  rcases cmpI_cases a.length b.length with ⟨g1, e1⟩ | ⟨g1, e1⟩ | ⟨g1, e1⟩ <;> rcases cmpI_cases b.length c.length with ⟨g2, e2⟩ | ⟨g2, e2⟩ | ⟨g2, e2⟩ <;> rcases cmpI_cases a.length c.length with ⟨g3, e3⟩ | ⟨g3, e3⟩ | ⟨g3, e3⟩ <;> simp [e1, e2, e3] at h1 h2 ⊢ <;> first | omega | exact lexc_trans a b c h1 h2
theorem cmpS_short {a b : List Int} (h : a.length < b.length) : cmpS a b < 0 := by
  unfold cmpS
  rcases cmpI_cases a.length b.length with ⟨g, e⟩ | ⟨g, e⟩ | ⟨g, e⟩
  · simp [e]
  · omega
  · omega
theorem cmp_Compare_int.val (x y : Int) : cmp_Compare_int.F (x, y, ()) = some ((cmpI x y, ()), ()) := by
  rw [cmp_Compare_int.eq, cmp_Compare_int.T, cmp_isNaN_int.eq, cmp_isNaN_int.T, cmp_isNaN_int.eq, cmp_isNaN_int.T]
  simp only [Option.bind_some, bne_self_eq_false, Bool.false_eq_true, if_false, decide_eq_true_eq, cmpI]
  repeat' split
  all_goals rfl
theorem lexc_drop {a b : List Int} {i : Nat} (ha : i < a.length) (hb : i < b.length) : lexc (a.drop i) (b.drop i) = if cmpI (a.getD i 0) (b.getD i 0) ≠ 0 then cmpI (a.getD i 0) (b.getD i 0) else lexc (a.drop (i + 1)) (b.drop (i + 1)) := by
  rw [List.drop_eq_getElem_cons ha, List.drop_eq_getElem_cons hb, getD_eq ha, getD_eq hb]; rfl
theorem slices_Compare_Lint64_int64.val (a b : List Int) (ha : a.length ≤ 1048576) (hb : b.length ≤ 1048576) : slices_Compare_Lint64_int64.F (a, b, ()) = some ((lexc a b, ()), ()) := by
  obtain ⟨r, hr, hq⟩ := Ev.loop (σ := Unit) (R := (Int × Unit) × Unit) (fun k i _ => slices_Compare_Lint64_int64.l2 k a b a a.length (i : Int)) a.length (fun i _ => i ≤ b.length ∧ lexc a b = lexc (a.drop i) (b.drop i)) (fun r => r = ((lexc a b, ()), ()))
    (fun i s hi ⟨h1, h2⟩ => by
      have E := fun k => slices_Compare_Lint64_int64.l2_eq k a b a a.length (i : Int)
      simp only [if_pos (ltI.2 hi), if_pos (idxI.2 hi), Int.toNat_natCast, wrapN (show i < 4611686018427387904 by omega)] at E
      by_cases hib : i < b.length
      · simp only [if_neg (show ¬ decide ((i : Int) ≥ (b.length : Int)) = true by simp; omega), if_pos (idxI.2 hib), cmp_Compare_int64.val, Option.bind_some] at E
        have hd := lexc_drop hi hib
        obtain ⟨cc, hcc⟩ : ∃ cc, cmpI (a.getD i 0) (b.getD i 0) = cc := ⟨_, rfl⟩
        rw [hcc] at hd
        simp only [hcc] at E
        by_cases hc : cc = 0
        · refine .inr ⟨(), ⟨by omega, by rw [h2, hd, if_neg (by simp [hc])]⟩, Goes.succ fun k => by rw [E, if_neg (by simp [hc])]⟩
        · exact .inl ⟨_, (Ev.const _).succ fun k => by rw [E, if_pos (by simp [hc])], by rw [h2, hd, if_pos hc]⟩
      · refine .inl ⟨_, (Ev.const _).succ fun k => by rw [E, if_pos (by simp; omega)], ?_⟩
        rw [h2, List.drop_eq_getElem_cons hi, List.drop_of_length_le (show b.length ≤ i by omega)]; rfl)
    (fun s ⟨h1, h2⟩ => by
      by_cases hl : a.length < b.length
      · refine ⟨_, (Ev.const _).succ fun k => by rw [slices_Compare_Lint64_int64.l2_eq, if_neg (by simp), if_pos (by simp; omega)], ?_⟩
        rw [h2, List.drop_of_length_le (Nat.le_refl _), List.drop_eq_getElem_cons hl]; rfl
      · refine ⟨_, (Ev.const _).succ fun k => by rw [slices_Compare_Lint64_int64.l2_eq, if_neg (by simp), if_neg (by simp; omega)], ?_⟩
        rw [h2, List.drop_of_length_le (Nat.le_refl _), List.drop_of_length_le (by omega)]; rfl) 0 () (Nat.zero_le _) ⟨Nat.zero_le _, rfl⟩
  subst hq
  exact slices_Compare_Lint64_int64.of _ _ (hr.of_eq fun k => rfl)
theorem impl_compareSimplices.val (a b : List Int) (ha : a.length ≤ 1048576) (hb : b.length ≤ 1048576) : impl_compareSimplices.F (a, b, ()) = some ((cmpS a b, ()), ()) := by
  rw [impl_compareSimplices.eq, impl_compareSimplices.T, cmp_Compare_int.val, slices_Compare_Lint64_int64.val a b ha hb]
  simp only [Option.bind_some, cmp_Or_int.val2, cmpS]
theorem spec_l05Before.val (a b : List Int) (ha : a.length ≤ 1048576) : spec_l05Before.F (a, b, ()) = some ((decide (cmpS a b < 0), ()), ()) := by
  by_cases hl : a.length = b.length
  · obtain ⟨r, hr, hq⟩ := Ev.loop (σ := Unit) (R := (Bool × Unit) × Unit) (fun k i _ => spec_l05Before.l4 k a b (i : Int)) a.length (fun i _ => lexc a b = lexc (a.drop i) (b.drop i)) (fun r => r = ((decide (lexc a b < 0), ()), ()))
      (fun i s hi h2 => by
        have hib : i < b.length := by omega
        have E := fun k => spec_l05Before.l4_eq k a b (i : Int)
        simp only [if_pos (ltI.2 hi), if_pos (idxI.2 hi), if_pos (idxI.2 hib), Int.toNat_natCast, wrapN (show i < 4611686018427387904 by omega)] at E
        have hd := lexc_drop hi hib
        obtain ⟨ai, hai⟩ : ∃ ai, a.getD i 0 = ai := ⟨_, rfl⟩
        obtain ⟨bi, hbi⟩ : ∃ bi, b.getD i 0 = bi := ⟨_, rfl⟩
        rw [hai, hbi] at hd
        simp only [hai, hbi] at E
        rcases cmpI_cases ai bi with ⟨g, e⟩ | ⟨g, e⟩ | ⟨g, e⟩
        · refine .inl ⟨_, (Ev.const _).succ fun k => by rw [E, if_pos (by simp; omega)], ?_⟩
          rw [h2, hd, if_pos (by rw [e]; omega), e]; simp [g]
        · exact .inr ⟨(), by rw [h2, hd, if_neg (by rw [e]; simp)], Goes.succ fun k => by rw [E, if_neg (by simp [g])]⟩
        · refine .inl ⟨_, (Ev.const _).succ fun k => by rw [E, if_pos (by simp; omega)], ?_⟩
          rw [h2, hd, if_pos (by rw [e]; omega), e]; simp; omega)
      (fun s h2 => ⟨_, (Ev.const _).succ fun k => by rw [spec_l05Before.l4_eq, if_neg (by simp)], by rw [h2, List.drop_of_length_le (Nat.le_refl _), List.drop_of_length_le (by omega)]; rfl⟩) 0 () (Nat.zero_le _) rfl
    subst hq
    refine spec_l05Before.of _ _ (hr.of_eq fun k => ?_) |>.trans ?_
    · rw [spec_l05Before.T, if_neg (by simp [hl])]; rfl
    · have : cmpS a b = lexc a b := by
        unfold cmpS
        rcases cmpI_cases a.length b.length with ⟨g, e⟩ | ⟨g, e⟩ | ⟨g, e⟩
        · omega
        · simp [e]
        · omega
      rw [this]
  · have : decide (cmpS a b < 0) = decide ((a.length : Int) < (b.length : Int)) := by
      unfold cmpS
      rcases cmpI_cases a.length b.length with ⟨g, e⟩ | ⟨g, e⟩ | ⟨g, e⟩
      · simp [e]; omega
      · omega
      · simp [e]; omega
    rw [this]
    exact spec_l05Before.of _ _ ((Ev.const _).of_eq fun k => by rw [spec_l05Before.T, if_pos (by simp; omega)])
def SortedS (xs : List (List Int)) : Prop := ∀ i j, i < j → j < xs.length → cmpS (xs.getD i []) (xs.getD j []) < 0
theorem sorted_adj {xs : List (List Int)} (h : ∀ i, 0 < i → i < xs.length → cmpS (xs.getD (i - 1) []) (xs.getD i []) < 0) : SortedS xs := by
  intro i j
  induction j with
  | zero => intro h1; omega
  | succ j ih =>
    intro h1 h2
    have h3 := h (j + 1) (by omega) h2
    simp only [Nat.add_sub_cancel] at h3
    by_cases hij : i = j
    · rw [hij]; exact h3
    · exact cmpS_trans _ _ _ (ih (by omega) (by omega)) h3
theorem wrapU {x : Int} (h1 : 0 ≤ x) (h2 : x < 18446744073709551616) : IntKind.u64.wrap x = x := by
  have e : (2 : Int) ^ (IntKind.u64).bits = 18446744073709551616 := by decide
  unfold IntKind.wrap
  simp only [e, show IntKind.u64.signed = false from rfl, Bool.false_and, Bool.false_eq_true, if_false]
  omega
theorem midI {i j : Nat} (h : i + j < 4611686018427387904) : IntKind.i64.wrap ((IntKind.u64.wrap (IntKind.i64.wrap ((i : Int) + (j : Int)))).fdiv (2 ^ (min (1 : Int).toNat IntKind.u64.bits))) = (((i + j) / 2 : Nat) : Int) := by
  rw [wrapI (x := (i : Int) + (j : Int)) (by omega) (by omega), wrapU (by omega) (by omega)]
  have e : (2 : Int) ^ (min (1 : Int).toNat IntKind.u64.bits) = ((2 : Nat) : Int) := by decide
  rw [e, show (i : Int) + (j : Int) = ((i + j : Nat) : Int) by omega, ← Int.ofNat_fdiv, wrapI (by omega) (by omega)]
theorem binSearch.val (xs : List (List Int)) (t : List Int) (hs : SortedS xs) (h1 : SmL xs) (h2 : t.length ≤ 1048576) :
    ∃ r : Int, ∃ b : Bool, slices_BinarySearchFunc_LLint64_Lint64_Lint64.F (xs, t, impl_compareSimplices.cloG (()), ()) = some ((r, (b, ())), ()) ∧ 0 ≤ r ∧ (b = true ↔ t ∈ xs) ∧ (b = true → r.toNat < xs.length ∧ xs.getD r.toNat [] = t) := by
  have hn := h1.1
  have hcmp : ∀ i, i < xs.length → impl_compareSimplices.cloG (()) (xs.getD i [], t, ()) = some (cmpS (xs.getD i []) t, ()) := fun i hi => by
    show (impl_compareSimplices.F (xs.getD i [], t, ())).map (·.1) = _
    rw [impl_compareSimplices.val _ _ (h1.2 _ (getD_mem _ hi)) h2]; rfl
  have key : ∀ d i j : Nat, j - i ≤ d → i ≤ j → j ≤ xs.length → (∀ m, m < i → cmpS (xs.getD m []) t < 0) → (∀ m, j ≤ m → m < xs.length → ¬ cmpS (xs.getD m []) t < 0) →
      ∃ r : Int, ∃ b : Bool, Ev (fun k => slices_BinarySearchFunc_LLint64_Lint64_Lint64.l3 k xs t (impl_compareSimplices.cloG (())) xs.length (i : Int) (j : Int)) ((r, (b, ())), ()) ∧ 0 ≤ r ∧ (b = true ↔ t ∈ xs) ∧ (b = true → r.toNat < xs.length ∧ xs.getD r.toNat [] = t) := by
    intro d
    induction d with
    | zero =>
      intro i j hd hij hj hlo hhi
      obtain rfl : i = j := by omega
      have E := fun k => slices_BinarySearchFunc_LLint64_Lint64_Lint64.l3_eq k xs t (impl_compareSimplices.cloG (())) xs.length (i : Int) (i : Int)
      simp only [if_neg (show ¬ decide ((i : Int) < (i : Int)) = true by simp)] at E
      by_cases hi : i < xs.length
      · simp only [if_pos (ltI.2 hi), if_pos (idxI.2 hi), Int.toNat_natCast, hcmp i hi, Option.bind_some] at E
        refine ⟨_, _, (Ev.const _).succ E, by omega, ?_, fun hb => ?_⟩
        rotate_left
        · simp only [beq_iff_eq, cmpS_zero] at hb
          rw [Int.toNat_natCast]; exact ⟨hi, hb⟩
        simp only [beq_iff_eq, cmpS_zero]
        refine ⟨fun h => h ▸ getD_mem [] hi, fun h => ?_⟩
        obtain ⟨m, hm, e⟩ := List.getElem_of_mem h
        have e' : xs.getD m [] = t := by rw [getD_eq hm]; exact e
        rcases Nat.lt_trichotomy m i with h3 | h3 | h3
        · have := hlo m h3
          rw [e', (cmpS_zero t t).2 rfl] at this; omega
        · rw [← h3]; exact e'
        · have := hs i m h3 hm
          rw [e'] at this
          exact absurd this (hhi i (Nat.le_refl _) hi)
      · simp only [if_neg (show ¬ decide ((i : Int) < (xs.length : Int)) = true by simp; omega)] at E
        refine ⟨_, _, (Ev.const _).succ E, by omega, ?_, fun hb => by cases hb⟩
        simp only [Bool.false_eq_true, false_iff]
        intro h
        obtain ⟨m, hm, e⟩ := List.getElem_of_mem h
        have e' : xs.getD m [] = t := by rw [getD_eq hm]; exact e
        have := hlo m (by omega)
        rw [e', (cmpS_zero t t).2 rfl] at this; omega
    | succ d ih =>
      intro i j hd hij hj hlo hhi
      by_cases he : i = j
      · exact ih i j (by omega) hij hj hlo hhi
      have E := fun k => slices_BinarySearchFunc_LLint64_Lint64_Lint64.l3_eq k xs t (impl_compareSimplices.cloG (())) xs.length (i : Int) (j : Int)
      have hm : (i + j) / 2 < xs.length := by omega
      simp only [if_pos (show decide ((i : Int) < (j : Int)) = true by simp; omega), if_neg (show ¬ (1 : Int) < 0 by omega), midI (show i + j < 4611686018427387904 by omega), if_pos (idxI.2 hm), Int.toNat_natCast, hcmp _ hm, Option.bind_some, wrapN (show (i + j) / 2 < 4611686018427387904 by omega)] at E
      by_cases hc : cmpS (xs.getD ((i + j) / 2) []) t < 0
      · obtain ⟨r, b, hr, h⟩ := ih ((i + j) / 2 + 1) j (by omega) (by omega) hj (fun m hm2 => by
          by_cases h3 : m = (i + j) / 2
          · rw [h3]; exact hc
          · exact cmpS_trans _ _ _ (hs m ((i + j) / 2) (by omega) hm) hc) hhi
        exact ⟨r, b, hr.succ fun k => by rw [E, if_pos (by simpa using hc)], h⟩
      · obtain ⟨r, b, hr, h⟩ := ih i ((i + j) / 2) (by omega) (by omega) (by omega) hlo (fun m hm2 hm3 h4 => by
          by_cases h3 : m = (i + j) / 2
          · rw [h3] at h4; exact hc h4
          · exact hc (cmpS_trans _ _ _ (hs ((i + j) / 2) m (by omega) hm3) h4))
        exact ⟨r, b, hr.succ fun k => by rw [E, if_neg (by simpa using hc)], h⟩
  obtain ⟨r, b, hr, h⟩ := key xs.length 0 xs.length (by omega) (Nat.zero_le _) (Nat.le_refl _) (fun m hm => by omega) (fun m h3 h4 => by omega)
  exact ⟨r, b, slices_BinarySearchFunc_LLint64_Lint64_Lint64.of _ _ _ (hr.of_eq fun k => rfl), h⟩
theorem impl_indexOf.val (xs : List (List Int)) (t : List Int) (hs : SortedS xs) (h1 : SmL xs) (h2 : t.length ≤ 1048576) : ∃ r : Int, impl_indexOf.F (xs, t, ()) = some ((r, ()), ()) ∧ (r < 0 ↔ t ∉ xs) := by
  obtain ⟨r, b, hr, h3, h4, -⟩ := binSearch.val xs t hs h1 h2
  rw [impl_indexOf.eq, impl_indexOf.T, hr]
  simp only [Option.bind_some]
  cases b with
  | true => exact ⟨r, by rw [if_neg (by simp)], by simp [h4.1 rfl]; omega⟩
  | false => exact ⟨-1, by rw [if_pos (by simp)], by simp; intro h; exact absurd (h4.2 h) (by simp)⟩
theorem sorted_inj {xs : List (List Int)} (hs : SortedS xs) {i j : Nat} (hi : i < xs.length) (hj : j < xs.length) (h : xs.getD i [] = xs.getD j []) : i = j := by
  rcases Nat.lt_trichotomy i j with h1 | h1 | h1
  · have := hs i j h1 hj
    rw [h, (cmpS_zero _ _).2 rfl] at this; omega
  · exact h1
  · have := hs j i h1 hi
    rw [h, (cmpS_zero _ _).2 rfl] at this; omega
theorem impl_indexOf.val2 (xs : List (List Int)) (j : Nat) (hj : j < xs.length) (hs : SortedS xs) (h1 : SmL xs) : impl_indexOf.F (xs, xs.getD j [], ()) = some (((j : Int), ()), ()) := by
  obtain ⟨r, b, hr, h3, h4, h5⟩ := binSearch.val xs (xs.getD j []) hs h1 (h1.2 _ (getD_mem _ hj))
  have hb : b = true := h4.2 (getD_mem _ hj)
  obtain ⟨h6, h7⟩ := h5 hb
  have := sorted_inj hs h6 hj h7
  rw [impl_indexOf.eq, impl_indexOf.T, hr, hb]
  simp only [Option.bind_some, Bool.not_true, Bool.false_eq_true, if_false]
  rw [show r = (j : Int) by omega]
theorem slices_IndexFunc_LLint64_Lint64.val (xs : List (List Int)) (f : List Int × Unit → Option (Bool × Unit)) (p : List Int → Bool) (hf : ∀ x ∈ xs, f (x, ()) = some (p x, ())) (hn : xs.length < 4611686018427387904) :
    ∃ r : Int, slices_IndexFunc_LLint64_Lint64.F (xs, f, ()) = some ((r, ()), ()) ∧ ((r = -1 ∧ ∀ x ∈ xs, p x = false) ∨ ∃ j : Nat, j < xs.length ∧ r = j ∧ p (xs.getD j []) = true ∧ ∀ i, i < j → p (xs.getD i []) = false) := by
  obtain ⟨r, hr, hq⟩ := Ev.loop (σ := Unit) (R := (Int × Unit) × Unit) (fun k i _ => slices_IndexFunc_LLint64_Lint64.l2 k xs f xs.length (i : Int)) xs.length (fun i _ => ∀ j, j < i → p (xs.getD j []) = false)
    (fun r => ∃ v : Int, r = ((v, ()), ()) ∧ ((v = -1 ∧ ∀ x ∈ xs, p x = false) ∨ ∃ j : Nat, j < xs.length ∧ v = j ∧ p (xs.getD j []) = true ∧ ∀ i, i < j → p (xs.getD i []) = false))
    (fun i s hi hI => by
      have E := fun k => slices_IndexFunc_LLint64_Lint64.l2_eq k xs f xs.length (i : Int)
      simp only [if_pos (ltI.2 hi), if_pos (idxI.2 hi), Int.toNat_natCast, hf _ (getD_mem [] hi), Option.bind_some, wrapN (show i < 4611686018427387904 by omega)] at E
      cases hp : p (xs.getD i []) with
      | true => exact .inl ⟨_, (Ev.const _).succ fun k => by rw [E, if_pos hp], i, rfl, .inr ⟨i, hi, rfl, hp, hI⟩⟩
      | false =>
        refine .inr ⟨(), fun j hj => ?_, Goes.succ fun k => by rw [E, if_neg (by rw [hp]; simp)]⟩
        by_cases hji : j = i
        · rw [hji]; exact hp
        · exact hI j (by omega))
    (fun s hI => ⟨_, (Ev.const _).succ fun k => by rw [slices_IndexFunc_LLint64_Lint64.l2_eq, if_neg (by simp)], -1, rfl, .inl ⟨rfl, fun x hx => by
      obtain ⟨j, hj, rfl⟩ := List.getElem_of_mem hx
      rw [← getD_eq (d := []) hj]; exact hI j hj⟩⟩) 0 () (Nat.zero_le _) (by intro j hj; omega)
  obtain ⟨v, rfl, hv⟩ := hq
  exact ⟨v, slices_IndexFunc_LLint64_Lint64.of _ _ (hr.of_eq fun k => rfl), hv⟩
theorem slices_ContainsFunc_LLint64_Lint64.val (xs : List (List Int)) (f : List Int × Unit → Option (Bool × Unit)) (p : List Int → Bool) (hf : ∀ x ∈ xs, f (x, ()) = some (p x, ())) (hn : xs.length < 4611686018427387904) :
    slices_ContainsFunc_LLint64_Lint64.F (xs, f, ()) = some ((xs.any p, ()), ()) := by
  obtain ⟨r, hr, h⟩ := slices_IndexFunc_LLint64_Lint64.val xs f p hf hn
  rw [slices_ContainsFunc_LLint64_Lint64.eq, slices_ContainsFunc_LLint64_Lint64.T, hr]
  simp only [Option.bind_some]
  rcases h with ⟨rfl, h⟩ | ⟨j, hj, rfl, hp, -⟩
  · have : xs.any p = false := by simp only [List.any_eq_false]; intro x hx; simp [h x hx]
    rw [this]; rfl
  · have : xs.any p = true := List.any_eq_true.2 ⟨_, getD_mem [] hj, hp⟩
    rw [this]; simp
theorem slices_IndexFunc_Lint64_int64.val (xs : List Int) (f : Int × Unit → Option (Bool × Unit)) (p : Int → Bool) (hf : ∀ x ∈ xs, f (x, ()) = some (p x, ())) (hn : xs.length < 4611686018427387904) :
    ∃ r : Int, slices_IndexFunc_Lint64_int64.F (xs, f, ()) = some ((r, ()), ()) ∧ ((r = -1 ∧ ∀ x ∈ xs, p x = false) ∨ ∃ j : Nat, j < xs.length ∧ r = j ∧ p (xs.getD j 0) = true ∧ ∀ i, i < j → p (xs.getD i 0) = false) := by
  obtain ⟨r, hr, hq⟩ := Ev.loop (σ := Unit) (R := (Int × Unit) × Unit) (fun k i _ => slices_IndexFunc_Lint64_int64.l2 k xs f xs.length (i : Int)) xs.length (fun i _ => ∀ j, j < i → p (xs.getD j 0) = false)
    (fun r => ∃ v : Int, r = ((v, ()), ()) ∧ ((v = -1 ∧ ∀ x ∈ xs, p x = false) ∨ ∃ j : Nat, j < xs.length ∧ v = j ∧ p (xs.getD j 0) = true ∧ ∀ i, i < j → p (xs.getD i 0) = false))
    (fun i s hi hI => by
      have E := fun k => slices_IndexFunc_Lint64_int64.l2_eq k xs f xs.length (i : Int)
      simp only [if_pos (ltI.2 hi), if_pos (idxI.2 hi), Int.toNat_natCast, hf _ (getD_mem 0 hi), Option.bind_some, wrapN (show i < 4611686018427387904 by omega)] at E
      cases hp : p (xs.getD i 0) with
      | true => exact .inl ⟨_, (Ev.const _).succ fun k => by rw [E, if_pos hp], i, rfl, .inr ⟨i, hi, rfl, hp, hI⟩⟩
      | false =>
        refine .inr ⟨(), fun j hj => ?_, Goes.succ fun k => by rw [E, if_neg (by rw [hp]; simp)]⟩
        by_cases hji : j = i
        · rw [hji]; exact hp
        · exact hI j (by omega))
    (fun s hI => ⟨_, (Ev.const _).succ fun k => by rw [slices_IndexFunc_Lint64_int64.l2_eq, if_neg (by simp)], -1, rfl, .inl ⟨rfl, fun x hx => by
      obtain ⟨j, hj, rfl⟩ := List.getElem_of_mem hx
      rw [← getD_eq (d := 0) hj]; exact hI j hj⟩⟩) 0 () (Nat.zero_le _) (by intro j hj; omega)
  obtain ⟨v, rfl, hv⟩ := hq
  exact ⟨v, slices_IndexFunc_Lint64_int64.of _ _ (hr.of_eq fun k => rfl), hv⟩
theorem slices_ContainsFunc_Lint64_int64.val (xs : List Int) (f : Int × Unit → Option (Bool × Unit)) (p : Int → Bool) (hf : ∀ x ∈ xs, f (x, ()) = some (p x, ())) (hn : xs.length < 4611686018427387904) :
    slices_ContainsFunc_Lint64_int64.F (xs, f, ()) = some ((xs.any p, ()), ()) := by
  obtain ⟨r, hr, h⟩ := slices_IndexFunc_Lint64_int64.val xs f p hf hn
  rw [slices_ContainsFunc_Lint64_int64.eq, slices_ContainsFunc_Lint64_int64.T, hr]
  simp only [Option.bind_some]
  rcases h with ⟨rfl, h⟩ | ⟨j, hj, rfl, hp, -⟩
  · have : xs.any p = false := by simp only [List.any_eq_false]; intro x hx; simp [h x hx]
    rw [this]; rfl
  · have : xs.any p = true := List.any_eq_true.2 ⟨_, getD_mem 0 hj, hp⟩
    rw [this]; simp
def Rising (xs : List Int) : Prop := ∀ i, 0 < i → i < xs.length → xs.getD (i - 1) 0 < xs.getD i 0
def AllIn (lo hi : Int) (xs : List Int) : Prop := ∀ a ∈ xs, lo ≤ a ∧ a ≤ hi
theorem allIn_iff {lo hi : Int} {xs : List Int} : AllIn lo hi xs ↔ ∀ i, i < xs.length → lo ≤ xs.getD i 0 ∧ xs.getD i 0 ≤ hi := by
  refine ⟨fun h i hi => h _ (getD_mem 0 hi), fun h a ha => ?_⟩
  obtain ⟨j, hj, rfl⟩ := List.getElem_of_mem ha
  have := h j hj
  rwa [getD_eq hj] at this
theorem spec_l00Rises.val (xs : List Int) (lo hi : Int) (hn : xs.length < 4611686018427387904) : ∃ v, spec_l00Rises.F (xs, lo, hi, ()) = some ((v, ()), ()) ∧ (v = true ↔ AllIn lo hi xs ∧ Rising xs) := by
  obtain ⟨v, hv, hv'⟩ := Ev.allP (L := fun k i => spec_l00Rises.l2 k xs lo hi (i : Int)) (a := ()) (b := ()) (n := xs.length) (fun i => (lo ≤ xs.getD i 0 ∧ xs.getD i 0 ≤ hi) ∧ (0 < i → xs.getD (i - 1) 0 < xs.getD i 0)) true (fun i hi2 => by
    have E := fun k => spec_l00Rises.l2_eq k xs lo hi (i : Int)
    simp only [if_pos (ltI.2 hi2), if_pos (idxI.2 hi2), Int.toNat_natCast, spec_l00In.val, Option.bind_some, wrapN (show i < 4611686018427387904 by omega)] at E
    by_cases h : lo ≤ xs.getD i 0 ∧ xs.getD i 0 ≤ hi
    · simp only [decide_eq_true h, Bool.not_true, Bool.false_eq_true, if_false] at E
      by_cases h0 : 0 < i
      · have h1 : i - 1 < xs.length := by omega
        simp only [if_pos (show decide ((i : Int) > 0) = true by simp; omega), wrapP h0 (show i < 4611686018427387904 by omega), if_pos (idxI.2 h1), Int.toNat_natCast] at E
        by_cases h2 : xs.getD (i - 1) 0 < xs.getD i 0
        · exact .inl ⟨⟨h, fun _ => h2⟩, fun k => by rw [E, if_neg (by simp only [decide_eq_true_eq]; omega)]⟩
        · exact .inr ⟨fun hh => h2 (hh.2 h0), fun k => by rw [E, if_pos (by simp only [decide_eq_true_eq]; omega)]⟩
      · exact .inl ⟨⟨h, fun h1 => absurd h1 h0⟩, fun k => by rw [E, if_neg (by simp only [decide_eq_true_eq]; omega)]⟩
    · exact .inr ⟨fun hh => h hh.1, fun k => by rw [E, if_pos (by rw [decide_eq_false h]; rfl)]⟩) ((Ev.const _).succ fun k => by rw [spec_l00Rises.l2_eq, if_neg (by simp)]) 0 (Nat.zero_le _)
  refine ⟨v, spec_l00Rises.of _ _ _ (hv.of_eq fun k => rfl), hv'.trans ?_⟩
  rw [allIn_iff]
  exact ⟨fun ⟨_, h⟩ => ⟨fun i hi => (h i (Nat.zero_le _) hi).1, fun i h0 hi => (h i (Nat.zero_le _) hi).2 h0⟩, fun ⟨h1, h2⟩ => ⟨rfl, fun i _ hi => ⟨h1 i hi, fun h0 => h2 i h0 hi⟩⟩⟩
theorem impl_isRising.val (xs : List Int) (hn : xs.length < 4611686018427387904) : ∃ v, impl_isRising.F (xs, ()) = some ((v, ()), ()) ∧ (v = true ↔ Rising xs) := by
  by_cases hz : xs.length = 0
  · exact ⟨true, impl_isRising.of _ (((Ev.const _).succ fun k => by rw [impl_isRising.T, impl_isRising.l2_eq, if_neg (by simp [hz])]).of_eq fun k => rfl), by simp; intro i h1 h2; omega⟩
  obtain ⟨v, hv, hv'⟩ := Ev.allF (L := fun k i => impl_isRising.l2 k xs (i : Int)) (a := ()) (b := ()) (n := xs.length) (fun i => 0 < i → xs.getD (i - 1) 0 < xs.getD i 0) true 1 (fun i h0 hi2 => by
    have E := fun k => impl_isRising.l2_eq k xs (i : Int)
    have h0 : 0 < i := h0
    · have h1 : i - 1 < xs.length := by omega
      simp only [if_pos (ltI.2 hi2), if_pos (idxI.2 hi2), Int.toNat_natCast, wrapN (show i < 4611686018427387904 by omega), wrapP h0 (show i < 4611686018427387904 by omega), if_pos (idxI.2 h1)] at E
      by_cases h2 : xs.getD (i - 1) 0 < xs.getD i 0
      · exact .inl ⟨fun _ => h2, fun k => by rw [E, if_neg (by simp only [decide_eq_true_eq]; omega)]⟩
      · exact .inr ⟨fun hh => h2 (hh h0), fun k => by rw [E, if_pos (by simp only [decide_eq_true_eq]; omega)]⟩) ((Ev.const _).succ fun k => by rw [impl_isRising.l2_eq, if_neg (by simp)]) 1 (Nat.le_refl _) (by omega)
  refine ⟨v, impl_isRising.of _ (hv.of_eq fun k => rfl), hv'.trans ?_⟩
  exact ⟨fun ⟨_, h⟩ i h0 hi => h i h0 hi h0, fun h => ⟨rfl, fun i _ hi h0 => h i h0 hi⟩⟩
theorem spec_l00Same.same (xs ys : List Int) (h : Sm xs) : ∃ b, spec_l00Same.F (xs, ys, ()) = some ((b, ()), ()) ∧ (b = true ↔ xs = ys) := by
  have hn : xs.length ≤ 1048576 := h
  by_cases hl : xs.length = ys.length
  · obtain ⟨b, hb, hb'⟩ := same_loop (fun k i => spec_l00Same.l4 k xs ys (i : Int)) xs ys 0 hl (fun i hi => ⟨xs.getD i 0 == ys.getD i 0, by simp, fun k => by
      rw [spec_l00Same.l4_eq, if_pos (ltI.2 hi), if_pos (idxI.2 hi), if_pos (idx2 (hl ▸ hi))]; simp only [Int.toNat_natCast]; rw [wrapN (by omega)]; rfl⟩) (fun k => by rw [spec_l00Same.l4_eq, if_neg (by simp)])
    exact ⟨b, spec_l00Same.of _ _ (hb.of_eq fun k => by rw [spec_l00Same.T, if_neg (by simp [hl])]; rfl), hb'⟩
  · exact ⟨false, spec_l00Same.of _ _ ((Ev.const _).of_eq fun k => by rw [spec_l00Same.T, if_pos (by simp; omega)]), by simp; intro e; exact hl (by rw [e])⟩
def dropAt (s : List Int) (k : Nat) : List Int := s.take k ++ s.drop (k + 1)
theorem dropAt_length {s : List Int} {k : Nat} (h : k < s.length) : (dropAt s k).length = s.length - 1 := by simp [dropAt]; omega
def SimpOk (s : List Int) : Prop := (1 ≤ s.length ∧ s.length ≤ 4) ∧ AllIn 0 9 s ∧ Rising s
def CplxOk (c : List (List Int)) : Prop := c.length ≤ 48 ∧ ∀ i, i < c.length → SimpOk (c.getD i []) ∧ (0 < i → cmpS (c.getD (i - 1) []) (c.getD i []) < 0) ∧ (1 < (c.getD i []).length → ∀ k, k < (c.getD i []).length → dropAt (c.getD i []) k ∈ c)
theorem CplxOk.sorted {c : List (List Int)} (h : CplxOk c) : SortedS c := sorted_adj fun i h0 hi => (h.2 i hi).2.1 h0
theorem CplxOk.small {c : List (List Int)} (h : CplxOk c) : SmL c := ⟨by have := h.1; omega, fun x hx => by
  obtain ⟨j, hj, rfl⟩ := List.getElem_of_mem hx
  have := (h.2 j hj).1.1.2
  rw [getD_eq hj] at this
  unfold Sm; omega⟩
theorem spec_l05Find.val (c : List (List Int)) (s : List Int) (h : SmL c) : ∃ r : Int, spec_l05Find.F (c, s, ()) = some ((r, ()), ()) ∧ (r < 0 ↔ s ∉ c) := by
  have hn := h.1
  obtain ⟨v, hv, r, hv', hr⟩ := Ev.loop (σ := Unit) (R := (Int × Unit) × Unit) (fun k i _ => spec_l05Find.l2 k c s (i : Int)) c.length (fun i _ => ∀ j, j < i → c.getD j [] ≠ s) (fun v => ∃ r : Int, v = ((r, ()), ()) ∧ (r < 0 ↔ s ∉ c))
    (fun i _ hi hI => by
      have E := fun k => spec_l05Find.l2_eq k c s (i : Int)
      obtain ⟨b, hb, hb'⟩ := spec_l00Same.same (c.getD i []) s (h.2 _ (getD_mem _ hi))
      simp only [if_pos (ltI.2 hi), if_pos (idxI.2 hi), Int.toNat_natCast, hb, Option.bind_some, wrapN (show i < 4611686018427387904 by omega)] at E
      cases b with
      | true =>
        have hm : s ∈ c := hb'.1 rfl ▸ getD_mem [] hi
        exact .inl ⟨_, (Ev.const _).succ fun k => by rw [E, if_pos rfl], _, rfl, by simp [hm]⟩
      | false =>
        refine .inr ⟨(), fun j hj => ?_, Goes.succ fun k => by rw [E, if_neg (by simp)]⟩
        by_cases hji : j = i
        · rw [hji]; exact fun e => absurd (hb'.2 e) (by simp)
        · exact hI j (by omega))
    (fun _ hI => ⟨_, (Ev.const _).succ fun k => by rw [spec_l05Find.l2_eq, if_neg (by simp)], _, rfl, by
      have : s ∉ c := fun hm => by
        obtain ⟨j, hj, e⟩ := List.getElem_of_mem hm
        exact hI j hj (by rw [getD_eq hj]; exact e)
      simp [this]⟩) 0 () (Nat.zero_le _) (by intro j hj; omega)
  subst hv'
  exact ⟨r, spec_l05Find.of _ _ (hv.of_eq fun k => rfl), hr⟩
theorem spec_l05Find.val2 (c : List (List Int)) (n : Nat) (hn : n < c.length) (hs : SortedS c) (h : SmL c) : spec_l05Find.F (c, c.getD n [], ()) = some (((n : Int), ()), ()) := by
  have hl := h.1
  obtain ⟨v, hv, hv'⟩ := Ev.loop (σ := Unit) (R := (Int × Unit) × Unit) (fun k i _ => spec_l05Find.l2 k c (c.getD n []) (i : Int)) c.length (fun i _ => i ≤ n) (fun v => v = (((n : Int), ()), ()))
    (fun i _ hi hI => by
      have E := fun k => spec_l05Find.l2_eq k c (c.getD n []) (i : Int)
      obtain ⟨b, hb, hb'⟩ := spec_l00Same.same (c.getD i []) (c.getD n []) (h.2 _ (getD_mem _ hi))
      simp only [if_pos (ltI.2 hi), if_pos (idxI.2 hi), Int.toNat_natCast, hb, Option.bind_some, wrapN (show i < 4611686018427387904 by omega)] at E
      cases b with
      | true =>
        have := sorted_inj hs hi hn (hb'.1 rfl)
        exact .inl ⟨_, (Ev.const _).succ fun k => by rw [E, if_pos rfl], by rw [this]⟩
      | false =>
        refine .inr ⟨(), ?_, Goes.succ fun k => by rw [E, if_neg (by simp)]⟩
        have : i ≠ n := fun e => absurd (hb'.2 (by rw [e])) (by simp)
        omega)
    (fun _ hI => by omega) 0 () (Nat.zero_le _) (Nat.zero_le _)
  subst hv'
  exact spec_l05Find.of _ _ (hv.of_eq fun k => rfl)
theorem cutA (s : List Int) (k : Nat) : cutL s (0 : Int) (k : Int) = s.take k := by simp [cutL]
theorem cutB (s : List Int) (k : Nat) : cutL s ((k : Nat) : Int) (s.length : Int) = s.drop k := by simp [cutL]
theorem spec_l05Drop.val (s : List Int) (k : Nat) (hk : k < s.length) (hs : s.length ≤ 1048576) : spec_l05Drop.F (s, (k : Int), ()) = some ((dropAt s k, ()), ()) := by
  rw [spec_l05Drop.eq, spec_l05Drop.T, if_pos (by omega), cutA, spec_l00Own.eq, spec_l00Own.T, if_pos (by simp only [List.length_nil, List.length_take, bigA]; omega)]
  simp only [Option.bind_some]
  rw [wrapN (by omega), if_pos (by omega), cutB, if_pos (by simp only [List.nil_append, List.length_take, List.length_drop, bigA]; omega)]
  rfl
theorem slices_Concat_Lint64_int64.val2 (a b : List Int) (ha : a.length ≤ 1048576) (hb : b.length ≤ 1048576) : slices_Concat_Lint64_int64.F ([a, b], ()) = some ((a ++ b, ()), ()) := by
  have w1 : IntKind.i64.wrap (0 + (a.length : Int)) = (a.length : Int) := by rw [wrapI (by omega) (by omega)]; omega
  have w2 : IntKind.i64.wrap ((a.length : Int) + (b.length : Int)) = (a.length : Int) + (b.length : Int) := wrapI (by omega) (by omega)
  have w3 : IntKind.i64.wrap ((0 : Int) + 1) = 1 := wrapI (by omega) (by omega)
  have w4 : IntKind.i64.wrap ((1 : Int) + 1) = 2 := wrapI (by omega) (by omega)
  refine slices_Concat_Lint64_int64.of _ ⟨6, fun k hk => ?_⟩
  obtain ⟨k, rfl⟩ : ∃ j, k = j + 1 + 1 + 1 + 1 + 1 + 1 := ⟨k - 6, by omega⟩
  show slices_Concat_Lint64_int64.T (k + 1 + 1 + 1 + 1 + 1 + 1) [a, b] = _
  have e0 : ((([a, b] : List (List Int)).length : Nat) : Int) = 2 := rfl
  rw [slices_Concat_Lint64_int64.T, e0, slices_Concat_Lint64_int64.l3_eq, if_pos (by decide), if_pos (by rw [e0]; decide)]
  simp only [Int.toNat_zero, List.getD_cons_zero, w1, w3]
  rw [if_neg (by simp only [decide_eq_true_eq]; omega), slices_Concat_Lint64_int64.l3_eq, if_pos (by decide), if_pos (by rw [e0]; decide)]
  simp only [show (1 : Int).toNat = 1 from rfl, List.getD_cons_succ, List.getD_cons_zero, w2, w4]
  rw [if_neg (by simp only [decide_eq_true_eq]; omega), slices_Concat_Lint64_int64.l3_eq, if_neg (by decide), if_pos (by simp only [bigN]; omega), e0, slices_Concat_Lint64_int64.l11_eq, if_pos (by decide), if_pos (by rw [e0]; decide)]
  simp only [Int.toNat_zero, List.getD_cons_zero, w3]
  rw [if_pos (by simp only [List.length_nil, bigA]; omega), slices_Concat_Lint64_int64.l11_eq, if_pos (by decide), if_pos (by rw [e0]; decide)]
  simp only [show (1 : Int).toNat = 1 from rfl, List.getD_cons_succ, List.getD_cons_zero, w4, List.nil_append]
  rw [if_pos (by simp only [bigA]; omega), slices_Concat_Lint64_int64.l11_eq, if_neg (by decide)]
def faces (s : List Int) : List (List Int) := if 1 < s.length then (List.range s.length).map (dropAt s) else []
theorem impl_facesOf.val (s : List Int) (hs : s.length ≤ 1048576) : impl_facesOf.F (s, ()) = some ((faces s, ()), ()) := by
  by_cases h1 : 1 < s.length
  · obtain ⟨r, hr, hg⟩ := Goes.loop (R := (List (List Int) × Unit) × Unit) (fun k i (x : List (List Int)) => impl_facesOf.l3 k s s.length (i : Int) x) s.length (fun i x => x = (List.range i).map (dropAt s)) (fun i x hi hx => ⟨_, rfl, Goes.succ fun k => by
      rw [impl_facesOf.l3_eq, if_pos (ltI.2 hi), if_pos (by simp; omega), if_pos (by omega), wrapN (by omega), if_pos (by omega), cutA, cutB, slices_Concat_Lint64_int64.val2 _ _ (by simp; omega) (by simp; omega)]
      simp only [Option.bind_some]
      rw [if_pos (by rw [hx]; simp only [List.length_map, List.length_range, List.length_cons, List.length_nil, bigA]; omega), hx, List.range_succ, List.map_append]
      rfl⟩) 0 [] (Nat.zero_le _) rfl
    have : faces s = r := by rw [faces, if_pos h1, hr]
    rw [this]
    exact impl_facesOf.of _ ((hg _ ((Ev.const _).succ fun k => by rw [impl_facesOf.l3_eq, if_neg (by simp)])).of_eq fun k => rfl)
  · obtain ⟨r, hr, hg⟩ := Goes.loop (R := (List (List Int) × Unit) × Unit) (fun k i (x : List (List Int)) => impl_facesOf.l3 k s s.length (i : Int) x) s.length (fun i x => x = []) (fun i x hi hx => ⟨_, hx, Goes.succ fun k => by
      rw [impl_facesOf.l3_eq, if_pos (ltI.2 hi), if_neg (by simp; omega), wrapN (by omega)]⟩) 0 [] (Nat.zero_le _) rfl
    have : faces s = r := by rw [faces, if_neg h1, hr]
    rw [this]
    exact impl_facesOf.of _ ((hg _ ((Ev.const _).succ fun k => by rw [impl_facesOf.l3_eq, if_neg (by simp)])).of_eq fun k => rfl)
theorem impl_ValidSimplex.val (s : List Int) (hs : s.length ≤ 1048576) : ∃ v, impl_ValidSimplex.F (s, ()) = some ((v, ()), ()) ∧ (v = true ↔ SimpOk s) := by
  obtain ⟨v1, h1, h1'⟩ := impl_isRising.val s (by omega)
  have h2 := slices_ContainsFunc_Lint64_int64.val s (impl_ValidSimplex_1.cloG (())) (fun a => !decide (0 ≤ a ∧ a ≤ 9)) (fun a _ => by
    show (impl_ValidSimplex_1.F (a, ())).map (·.1) = _
    rw [impl_ValidSimplex_1.eq, impl_ValidSimplex_1.T, impl_isVertex.eq, impl_isVertex.T, impl_within.val]; rfl) (by omega)
  rw [impl_ValidSimplex.eq, impl_ValidSimplex.T, h1, h2]
  simp only [Option.bind_some]
  unfold SimpOk
  by_cases g1 : 1 ≤ s.length
  · by_cases g2 : s.length ≤ 4
    · rw [if_pos (by simp; omega), if_pos (by simp; omega)]
      cases v1 with
      | true =>
        refine ⟨_, by rw [if_pos rfl], ?_⟩
        have hr := h1'.1 rfl
        simp only [Bool.not_eq_true', List.any_eq_false, Bool.not_eq_eq_eq_not, Bool.not_true, AllIn, g1, g2, hr, and_self, and_true, true_and]
        simp
      | false => exact ⟨false, by rw [if_neg (by simp)], by simp; intro _ _ _ hr; exact absurd (h1'.2 hr) (by simp)⟩
    · exact ⟨false, by rw [if_pos (by simp; omega), if_neg (by simp; omega)], by simp; intro _ h; omega⟩
  · exact ⟨false, by rw [if_neg (by simp; omega)], by simp; intro h; omega⟩
theorem spec_l05Simplex.val (s : List Int) (hs : s.length ≤ 1048576) : ∃ v, spec_l05Simplex.F (s, ()) = some ((v, ()), ()) ∧ (v = true ↔ SimpOk s) := by
  obtain ⟨v1, h1, h1'⟩ := spec_l00Rises.val s 0 9 (by omega)
  rw [spec_l05Simplex.eq, spec_l05Simplex.T, h1, spec_l00In.val]
  simp only [Option.bind_some]
  unfold SimpOk
  by_cases g : 1 ≤ (s.length : Int) ∧ (s.length : Int) ≤ 4
  · rw [if_pos (by simp only [decide_eq_true_eq]; exact g)]
    exact ⟨v1, rfl, h1'.trans ⟨fun h => ⟨by omega, h⟩, fun h => h.2⟩⟩
  · exact ⟨false, by rw [if_neg (by simp only [decide_eq_true_eq]; exact g)], by simp; intro a b; omega⟩
theorem spec_l05Ok.val (c : List (List Int)) (h : SmL c) : ∃ v, spec_l05Ok.F (c, ()) = some ((v, ()), ()) ∧ (v = true ↔ CplxOk c) := by
  by_cases hn : c.length ≤ 48
  · obtain ⟨v, hv, hv'⟩ := Ev.loop (σ := Unit) (R := (Bool × Unit) × Unit) (fun k i _ => spec_l05Ok.l4 k c (i : Int)) c.length (fun i _ => ∀ j, j < i → SimpOk (c.getD j []) ∧ (0 < j → cmpS (c.getD (j - 1) []) (c.getD j []) < 0) ∧ (1 < (c.getD j []).length → ∀ k, k < (c.getD j []).length → dropAt (c.getD j []) k ∈ c)) (fun r => ∃ v, r = ((v, ()), ()) ∧ (v = true ↔ CplxOk c))
      (fun i _ hi hI => by
        have hsm : (c.getD i []).length ≤ 1048576 := h.2 _ (getD_mem _ hi)
        obtain ⟨s, hs⟩ : ∃ s, c.getD i [] = s := ⟨_, rfl⟩
        have E := fun k => spec_l05Ok.l4_eq k c (i : Int)
        obtain ⟨b, hb, hb'⟩ := spec_l05Simplex.val s (hs ▸ hsm)
        rw [hs] at hsm
        simp only [if_pos (ltI.2 hi), if_pos (idxI.2 hi), Int.toNat_natCast, hs, hb, Option.bind_some] at E
        have bad : (¬ (SimpOk s ∧ (0 < i → cmpS (c.getD (i - 1) []) s < 0) ∧ (1 < s.length → ∀ k, k < s.length → dropAt s k ∈ c))) → ∃ v, (((false, ()), ()) : (Bool × Unit) × Unit) = ((v, ()), ()) ∧ (v = true ↔ CplxOk c) := fun hno => ⟨false, rfl, by simp; intro hc; exact hno (by have := hc.2 i hi; rw [hs] at this; exact this)⟩
        cases b with
        | false => exact .inl ⟨_, (Ev.const _).succ fun k => by rw [E]; rfl, bad fun hc => absurd (hb'.2 hc.1) (by simp)⟩
        | true =>
          have hsimp := hb'.1 rfl
          simp only [Bool.not_true, Bool.false_eq_true, if_false] at E
          have inner : (∃ r, Ev (fun k => spec_l05Ok.l10 k c (i : Int) s ((0 : Nat) : Int)) r ∧ r = ((false, ()), ()) ∧ ¬ (1 < s.length → ∀ k, k < s.length → dropAt s k ∈ c)) ∨ ((1 < s.length → ∀ k, k < s.length → dropAt s k ∈ c) ∧ Goes (fun k => spec_l05Ok.l10 k c (i : Int) s ((0 : Nat) : Int)) (fun k => spec_l05Ok.l4 k c ((i + 1 : Nat) : Int))) := by
            by_cases h1 : 1 < s.length
            · by_cases hall : ∀ k, k < s.length → dropAt s k ∈ c
              · refine .inr ⟨fun _ => hall, ?_⟩
                obtain ⟨_, _, hg⟩ := Goes.loop (σ := Unit) (R := (Bool × Unit) × Unit) (fun k j _ => spec_l05Ok.l10 k c (i : Int) s (j : Int)) s.length (fun _ _ => True) (fun j _ hj _ => ⟨(), trivial, Goes.succ fun k => by
                  obtain ⟨r, hr, hr'⟩ := spec_l05Find.val c (dropAt s j) h
                  rw [spec_l05Ok.l10_eq, if_pos (ltI.2 hj), if_pos (by simp; omega), spec_l05Drop.val s j hj hsm]
                  simp only [Option.bind_some, hr]
                  rw [if_neg (by simp only [decide_eq_true_eq, hr']; exact fun hh => hh (hall j hj)), wrapN (by omega)]⟩) 0 () (Nat.zero_le _) trivial
                exact hg.trans (Goes.succ fun k => by rw [spec_l05Ok.l10_eq, if_neg (by simp), wrapN (by omega)])
              · left
                obtain ⟨v, hv, hv'⟩ := Ev.loop (σ := Unit) (R := (Bool × Unit) × Unit) (fun k j _ => spec_l05Ok.l10 k c (i : Int) s (j : Int)) s.length (fun j _ => ∀ k, k < j → dropAt s k ∈ c) (fun r => r = ((false, ()), ())) (fun j _ hj hJ => by
                  obtain ⟨r, hr, hr'⟩ := spec_l05Find.val c (dropAt s j) h
                  have E2 := fun k => spec_l05Ok.l10_eq k c (i : Int) s (j : Int)
                  simp only [if_pos (ltI.2 hj), if_pos (show decide ((s.length : Int) > 1) = true by simp; omega), spec_l05Drop.val s j hj hsm, Option.bind_some, hr, wrapN (show j < 4611686018427387904 by omega)] at E2
                  by_cases hd : dropAt s j ∈ c
                  · refine .inr ⟨(), fun k hk => ?_, Goes.succ fun k => by rw [E2, if_neg (by simp only [decide_eq_true_eq, hr']; exact fun hh => hh hd)]⟩
                    by_cases hkj : k = j
                    · rw [hkj]; exact hd
                    · exact hJ k (by omega)
                  · exact .inl ⟨_, (Ev.const _).succ fun k => by rw [E2, if_pos (by simp only [decide_eq_true_eq, hr']; exact hd)], rfl⟩) (fun _ hJ => absurd hJ hall) 0 () (Nat.zero_le _) (by intro k hk; omega)
                exact ⟨v, hv, hv', fun hh => hall (hh h1)⟩
            · refine .inr ⟨fun hh => absurd hh h1, Goes.succ fun k => ?_⟩
              rw [spec_l05Ok.l10_eq]
              by_cases h0 : (0 : Nat) < s.length
              · rw [if_pos (ltI.2 h0), if_neg (by simp; omega), wrapN (by omega)]
              · rw [if_neg (by simp only [decide_eq_true_eq]; omega), wrapN (by omega)]
          have pre : ((0 < i → cmpS (c.getD (i - 1) []) s < 0) ∧ ∀ k, spec_l05Ok.l4 (k + 1) c (i : Int) = spec_l05Ok.l10 k c (i : Int) s ((0 : Nat) : Int)) ∨ ((∀ k, spec_l05Ok.l4 (k + 1) c (i : Int) = some ((false, ()), ())) ∧ ¬ (0 < i → cmpS (c.getD (i - 1) []) s < 0)) := by
            by_cases h0 : 0 < i
            · have h1 : i - 1 < c.length := by omega
              simp only [if_pos (show decide ((i : Int) > 0) = true by simp; omega), wrapP h0 (show i < 4611686018427387904 by omega), if_pos (idxI.2 h1), Int.toNat_natCast, spec_l05Before.val _ s (h.2 _ (getD_mem _ h1)), Option.bind_some] at E
              by_cases hlt : cmpS (c.getD (i - 1) []) s < 0
              · exact .inl ⟨fun _ => hlt, fun k => by rw [E, if_neg (by simp only [decide_eq_true hlt]; simp)]; rfl⟩
              · exact .inr ⟨fun k => by rw [E, if_pos (by simp only [decide_eq_false hlt]; rfl)], fun hh => hlt (hh h0)⟩
            · simp only [if_neg (show ¬ decide ((i : Int) > 0) = true by simp; omega)] at E
              exact .inl ⟨fun h => absurd h h0, fun k => by rw [E]; rfl⟩
          rcases pre with ⟨hlt, E3⟩ | ⟨E4, hno⟩
          · rcases inner with ⟨r, hr, rfl, hno⟩ | ⟨hyes, hg⟩
            · exact .inl ⟨_, hr.succ E3, bad fun hc => hno hc.2.2⟩
            · refine .inr ⟨(), fun j hj => ?_, (Goes.succ E3).trans hg⟩
              by_cases hji : j = i
              · rw [hji, hs]; exact ⟨hsimp, hlt, hyes⟩
              · exact hI j (by omega)
          · exact .inl ⟨_, (Ev.const _).succ E4, bad fun hc => hno hc.2.1⟩)
      (fun _ hI => ⟨_, (Ev.const _).succ fun k => by rw [spec_l05Ok.l4_eq, if_neg (by simp)], true, rfl, by simp; exact ⟨hn, hI⟩⟩) 0 () (Nat.zero_le _) (by intro j hj; omega)
    obtain ⟨b, rfl, hb⟩ := hv'
    exact ⟨b, spec_l05Ok.of _ (hv.of_eq fun k => by rw [spec_l05Ok.T, if_neg (by simp; omega)]; rfl), hb⟩
  · exact ⟨false, spec_l05Ok.of _ ((Ev.const _).of_eq fun k => by rw [spec_l05Ok.T, if_pos (by simp; omega)]), by simp; intro hc; exact hn hc.1⟩
theorem mem_faces {s f : List Int} : f ∈ faces s ↔ 1 < s.length ∧ ∃ k, k < s.length ∧ dropAt s k = f := by
  unfold faces
  by_cases h : 1 < s.length
  · rw [if_pos h]; simp [h]
  · rw [if_neg h]; simp [h]
theorem take_getD {c : List (List Int)} {i m : Nat} (h : m < i) : (c.take i).getD m [] = c.getD m [] := by
  simp only [List.getD_eq_getElem?_getD, List.getElem?_take, h, if_true]
theorem mem_take_of {c : List (List Int)} {i m : Nat} (h : m < i) (hm : m < c.length) : c.getD m [] ∈ c.take i := by
  rw [← take_getD h]
  exact getD_mem [] (by simp; omega)
def OkAt (c : List (List Int)) (j : Nat) : Prop := SimpOk (c.getD j []) ∧ (0 < j → cmpS (c.getD (j - 1) []) (c.getD j []) < 0) ∧ ∀ f ∈ faces (c.getD j []), f ∈ c.take j
theorem okAt_iff (c : List (List Int)) : (c.length ≤ 48 ∧ ∀ j, j < c.length → OkAt c j) ↔ CplxOk c := by
  constructor
  · rintro ⟨h1, h2⟩
    refine ⟨h1, fun i hi => ⟨(h2 i hi).1, (h2 i hi).2.1, fun hl k hk => List.mem_of_mem_take ((h2 i hi).2.2 _ (mem_faces.2 ⟨hl, k, hk, rfl⟩))⟩⟩
  · intro h
    refine ⟨h.1, fun j hj => ⟨(h.2 j hj).1, (h.2 j hj).2.1, fun f hf => ?_⟩⟩
    obtain ⟨hl, k, hk, rfl⟩ := mem_faces.1 hf
    have hm := (h.2 j hj).2.2 hl k hk
    obtain ⟨m, hm1, e⟩ := List.getElem_of_mem hm
    have e' : c.getD m [] = dropAt (c.getD j []) k := by rw [getD_eq hm1]; exact e
    have hlen := dropAt_length hk
    have hshort : cmpS (dropAt (c.getD j []) k) (c.getD j []) < 0 := cmpS_short (by omega)
    by_cases hmj : m < j
    · rw [← e']; exact mem_take_of hmj hm1
    · exfalso
      by_cases hmj2 : m = j
      · rw [hmj2] at e'
        rw [← e', (cmpS_zero _ _).2 rfl] at hshort; omega
      · have h3 := h.sorted j m (by omega) hm1
        rw [e'] at h3
        have := cmpS_trans _ _ _ hshort h3
        rw [(cmpS_zero _ _).2 rfl] at this; omega
theorem impl_ValidComplex.val (c : List (List Int)) (h : SmL c) : ∃ v, impl_ValidComplex.F (c, ()) = some ((v, ()), ()) ∧ (v = true ↔ CplxOk c) := by
  have hn := h.1
  obtain ⟨v, hv, hv'⟩ := Ev.loop (σ := Unit) (R := (Bool × Unit) × Unit) (fun k i _ => impl_ValidComplex.l2 k c c.length (i : Int) c) c.length (fun i _ => ∀ j, j < i → OkAt c j) (fun r => ∃ v, r = ((v, ()), ()) ∧ (v = true ↔ c.length ≤ 48 ∧ ∀ j, j < c.length → OkAt c j))
    (fun i _ hi hI => by
      have hsm : (c.getD i []).length ≤ 1048576 := h.2 _ (getD_mem _ hi)
      have hsorted : SortedS (c.take i) := sorted_adj fun m h0 hm => by
        have hm' : m < i := by simp at hm; omega
        rw [take_getD (by omega), take_getD hm']
        exact (hI m hm').2.1 h0
      have hsmall : SmL (c.take i) := ⟨by simp; omega, fun x hx => h.2 x (List.mem_of_mem_take hx)⟩
      have hclo : ∀ f : List Int, f.length ≤ 1048576 → impl_ValidComplex_1.cloG (c, (i : Int), ()) (f, ()) = some (decide (f ∉ c.take i), ()) := fun f hf => by
        show (impl_ValidComplex_1.F (f, c, (i : Int), ())).map (·.1) = _
        obtain ⟨r, hr, hr'⟩ := impl_indexOf.val (c.take i) f hsorted hsmall hf
        rw [impl_ValidComplex_1.eq, impl_ValidComplex_1.T, if_pos (by omega)]
        have : cutL c (0 : Int) (i : Int) = c.take i := by simp [cutL]
        rw [this, hr]
        simp only [Option.bind_some, Option.map_some, hr']
      obtain ⟨s, hs⟩ : ∃ s, c.getD i [] = s := ⟨_, rfl⟩
      have E := fun k => impl_ValidComplex.l2_eq k c c.length (i : Int) c
      obtain ⟨b, hb, hb'⟩ := impl_ValidSimplex.val s (hs ▸ hsm)
      rw [hs] at hsm
      have hfl : ∀ f ∈ faces s, f.length ≤ 1048576 := fun f hf => by
        obtain ⟨_, k, hk, rfl⟩ := mem_faces.1 hf
        have := dropAt_length hk; omega
      have hcf := slices_ContainsFunc_LLint64_Lint64.val (faces s) (impl_ValidComplex_1.cloG (c, (i : Int), ())) (fun f => decide (f ∉ c.take i)) (fun f hf => hclo f (hfl f hf)) (by
        unfold faces; split
        · simp; omega
        · simp)
      simp only [if_pos (ltI.2 hi), if_pos (idxI.2 hi), Int.toNat_natCast, hs, hb, Option.bind_some, impl_facesOf.val s hsm, hcf, wrapN (show i < 4611686018427387904 by omega)] at E
      have bad : ¬ OkAt c i → ∃ v, (((false, ()), ()) : (Bool × Unit) × Unit) = ((v, ()), ()) ∧ (v = true ↔ c.length ≤ 48 ∧ ∀ j, j < c.length → OkAt c j) := fun hno => ⟨false, rfl, by simp only [Bool.false_eq_true, false_iff]; exact fun hc => hno (hc.2 i hi)⟩
      cases b with
      | false => exact .inl ⟨_, (Ev.const _).succ fun k => by rw [E]; rfl, bad fun hc => absurd (hb'.2 (hs ▸ hc.1)) (by simp)⟩
      | true =>
        have hsimp := hb'.1 rfl
        simp only [Bool.not_true, Bool.false_eq_true, if_false] at E
        have pre : ((0 < i → cmpS (c.getD (i - 1) []) s < 0) ∧ ∀ k, impl_ValidComplex.l2 (k + 1) c c.length (i : Int) c = if ((faces s).any fun f => decide (f ∉ c.take i)) = true then some ((false, ()), ()) else impl_ValidComplex.l2 k c c.length ((i + 1 : Nat) : Int) c) ∨ ((∀ k, impl_ValidComplex.l2 (k + 1) c c.length (i : Int) c = some ((false, ()), ())) ∧ ¬ (0 < i → cmpS (c.getD (i - 1) []) s < 0)) := by
          by_cases h0 : 0 < i
          · have h1 : i - 1 < c.length := by omega
            simp only [if_pos (show decide ((i : Int) > 0) = true by simp; omega), wrapP h0 (show i < 4611686018427387904 by omega), if_pos (idxI.2 h1), Int.toNat_natCast, impl_compareSimplices.val _ s (h.2 _ (getD_mem _ h1)) hsm, Option.bind_some] at E
            by_cases hlt : cmpS (c.getD (i - 1) []) s < 0
            · exact .inl ⟨fun _ => hlt, fun k => by rw [E, if_neg (by simp only [decide_eq_true_eq]; omega)]⟩
            · exact .inr ⟨fun k => by rw [E, if_pos (by simp only [decide_eq_true_eq]; omega)], fun hh => hlt (hh h0)⟩
          · simp only [if_neg (show ¬ decide ((i : Int) > 0) = true by simp; omega)] at E
            exact .inl ⟨fun h => absurd h h0, fun k => by rw [E]⟩
        rcases pre with ⟨hlt, E3⟩ | ⟨E4, hno⟩
        · by_cases hf : ∀ f ∈ faces s, f ∈ c.take i
          · refine .inr ⟨(), fun j hj => ?_, Goes.succ fun k => by rw [E3, if_neg (by simp only [List.any_eq_true, decide_eq_true_eq, not_exists, not_and, Classical.not_not]; exact hf)]⟩
            by_cases hji : j = i
            · rw [hji]; exact ⟨hs ▸ hsimp, fun h0 => by rw [hs]; exact hlt h0, fun f hff => hf f (hs ▸ hff)⟩
            · exact hI j (by omega)
          · refine .inl ⟨_, (Ev.const _).succ fun k => by rw [E3, if_pos (by simp only [List.any_eq_true, decide_eq_true_eq]; simpa using hf)], bad fun hc => hf fun f hff => hc.2.2 f (hs ▸ hff)⟩
        · exact .inl ⟨_, (Ev.const _).succ E4, bad fun hc => hno (by have := hc.2.1; rw [hs] at this; exact this)⟩)
    (fun _ hI => ⟨_, (Ev.const _).succ fun k => by rw [impl_ValidComplex.l2_eq, if_neg (by simp)], _, rfl, by simp only [decide_eq_true_eq]; exact ⟨fun h1 => ⟨by omega, hI⟩, fun h1 => by omega⟩⟩) 0 () (Nat.zero_le _) (by intro j hj; omega)
  obtain ⟨b, rfl, hb⟩ := hv'
  exact ⟨b, impl_ValidComplex.of _ (hv.of_eq fun k => rfl), hb.trans (okAt_iff c)⟩
def idxIn (c : List (List Int)) (f : List Int) : Nat := c.findIdx fun x => decide (x = f)
theorem idxIn_spec {c : List (List Int)} {f : List Int} (h : f ∈ c) : idxIn c f < c.length ∧ c.getD (idxIn c f) [] = f := by
  have h1 : idxIn c f < c.length := List.findIdx_lt_length_of_exists ⟨f, h, by simp⟩
  refine ⟨h1, ?_⟩
  rw [getD_eq h1]
  have := List.findIdx_getElem (p := fun x => decide (x = f)) (xs := c) (w := h1)
  exact of_decide_eq_true this
def fcs (c : List (List Int)) (i : Nat) : List Int := (faces (c.getD i [])).map fun f => ((idxIn c f : Nat) : Int)
theorem fcs_length (c : List (List Int)) (i : Nat) : (fcs c i).length = if 1 < (c.getD i []).length then (c.getD i []).length else 0 := by
  unfold fcs faces
  split <;> simp
theorem fcs_mem {c : List (List Int)} (h : CplxOk c) {i : Nat} (hi : i < c.length) {x : Int} (hx : x ∈ fcs c i) : ∃ j : Nat, x = j ∧ j < c.length := by
  simp only [fcs, List.mem_map] at hx
  obtain ⟨f, hf, rfl⟩ := hx
  have := ((okAt_iff c).2 h).2 i hi
  exact ⟨_, rfl, (idxIn_spec (List.mem_of_mem_take (this.2.2 f hf))).1⟩
theorem face_mem {c : List (List Int)} (h : CplxOk c) {i : Nat} (hi : i < c.length) {f : List Int} (hf : f ∈ faces (c.getD i [])) : f ∈ c :=
  List.mem_of_mem_take ((((okAt_iff c).2 h).2 i hi).2.2 f hf)
theorem find_idx {c : List (List Int)} (h : CplxOk c) {f : List Int} (hf : f ∈ c) : spec_l05Find.F (c, f, ()) = some ((((idxIn c f : Nat) : Int), ()), ()) := by
  obtain ⟨h1, h2⟩ := idxIn_spec hf
  have := spec_l05Find.val2 c (idxIn c f) h1 h.sorted h.small
  rwa [h2] at this
theorem search_idx {c : List (List Int)} (h : CplxOk c) {f : List Int} (hf : f ∈ c) : impl_indexOf.F (c, f, ()) = some ((((idxIn c f : Nat) : Int), ()), ()) := by
  obtain ⟨h1, h2⟩ := idxIn_spec hf
  have := impl_indexOf.val2 c (idxIn c f) h1 h.sorted h.small
  rwa [h2] at this
theorem spec_l05Faces.val (c : List (List Int)) (h : CplxOk c) (i : Nat) (hi : i < c.length) : spec_l05Faces.F (c, (i : Int), ()) = some ((fcs c i, ()), ()) := by
  have h4 := (h.2 i hi).1.1.2
  obtain ⟨s, hs⟩ : ∃ s, c.getD i [] = s := ⟨_, rfl⟩
  rw [hs] at h4
  have hmem : ∀ f ∈ faces s, f ∈ c := fun f hf => face_mem h hi (hs ▸ hf)
  have hfc : fcs c i = (faces s).map fun f => ((idxIn c f : Nat) : Int) := by rw [fcs, hs]
  refine spec_l05Faces.of _ _ (Ev.of_eq (N := fun k => spec_l05Faces.l4 k c s ((0 : Nat) : Int) []) ?_ fun k => by rw [spec_l05Faces.T, if_pos (by omega)]; simp only [Int.toNat_natCast, hs]; rfl)
  by_cases h1 : 1 < s.length
  · have hf : faces s = (List.range s.length).map (dropAt s) := by rw [faces, if_pos h1]
    obtain ⟨x, hx, hg⟩ := Goes.loop (R := ((List Int × Unit) × Unit)) (fun k j (x : List Int) => spec_l05Faces.l4 k c s (j : Int) x) s.length (fun j x => x = ((List.range j).map (dropAt s)).map fun f => ((idxIn c f : Nat) : Int)) (fun j x hj h2 => ⟨_, rfl, Goes.succ fun k => by
      have hm : dropAt s j ∈ c := hmem _ (by rw [hf]; exact List.mem_map.2 ⟨j, List.mem_range.2 hj, rfl⟩)
      rw [spec_l05Faces.l4_eq, if_pos (ltI.2 hj), if_pos (by simp only [decide_eq_true_eq]; omega), spec_l05Drop.val s j hj (by omega)]
      simp only [Option.bind_some, find_idx h hm]
      rw [if_pos (by rw [h2]; simp only [List.length_map, List.length_range, List.length_cons, List.length_nil, bigA]; omega), wrapN (by omega), h2, List.range_succ, List.map_append, List.map_append]
      rfl⟩) 0 [] (Nat.zero_le _) rfl
    rw [hfc, hf]
    refine hg _ ((Ev.const _).succ fun k => ?_)
    rw [spec_l05Faces.l4_eq, if_neg (by simp), hx]
  · have hf : faces s = [] := by rw [faces, if_neg h1]
    rw [hfc, hf]
    refine (Ev.const _).succ fun k => ?_
    rw [spec_l05Faces.l4_eq]
    by_cases h0 : (0 : Nat) < s.length
    · rw [if_pos (ltI.2 h0), if_neg (by simp only [decide_eq_true_eq]; omega)]; rfl
    · rw [if_neg (by simp only [decide_eq_true_eq]; omega)]; rfl
theorem faces_le {c : List (List Int)} (h : CplxOk c) {i : Nat} (hi : i < c.length) : (faces (c.getD i [])).length ≤ 4 := by
  have h4 := (h.2 i hi).1.1.2
  unfold faces; split
  · simpa using h4
  · simp
theorem impl_faceIndices.val (c : List (List Int)) (h : CplxOk c) (i : Nat) (hi : i < c.length) : impl_faceIndices.F (c, (i : Int), ()) = some ((fcs c i, ()), ()) := by
  have h4 := (h.2 i hi).1.1.2
  have h5 := faces_le h hi
  obtain ⟨fs, hfs⟩ : ∃ fs, faces (c.getD i []) = fs := ⟨_, rfl⟩
  have hmem : ∀ f ∈ fs, f ∈ c := fun f hf => face_mem h hi (hfs ▸ hf)
  have hfc : fcs c i = fs.map fun f => ((idxIn c f : Nat) : Int) := by rw [fcs, hfs]
  rw [hfs] at h5
  refine impl_faceIndices.of _ _ (Ev.of_eq (N := fun k => impl_faceIndices.l3 k (fs.length : Int) ((0 : Nat) : Int) c [] fs) ?_ fun k => by rw [impl_faceIndices.T, if_pos (by omega)]; simp only [Int.toNat_natCast]; rw [impl_facesOf.val _ (by omega), hfs]; rfl)
  obtain ⟨x, hx, hg⟩ := Goes.loop (R := ((List Int × Unit) × Unit)) (fun k j (x : List Int) => impl_faceIndices.l3 k (fs.length : Int) (j : Int) c x fs) fs.length (fun j x => x = (fs.take j).map fun f => ((idxIn c f : Nat) : Int)) (fun j x hj h2 => ⟨_, rfl, Goes.succ fun k => by
    rw [impl_faceIndices.l3_eq, if_pos (ltI.2 hj), if_pos (idxI.2 hj)]
    simp only [Int.toNat_natCast, search_idx h (hmem _ (getD_mem [] hj)), Option.bind_some]
    rw [if_pos (by rw [h2]; simp only [List.length_map, List.length_take, List.length_cons, List.length_nil, bigA]; omega), wrapN (by omega), h2, List.take_add_one, List.getElem?_eq_getElem hj, Option.toList_some, List.map_append, getD_eq hj]
    rfl⟩) 0 [] (Nat.zero_le _) rfl
  rw [List.take_of_length_le (Nat.le_refl _)] at hx
  rw [hfc]
  refine hg _ ((Ev.const _).succ fun k => ?_)
  rw [impl_faceIndices.l3_eq, if_neg (by simp), hx]
def off (c : List (List Int)) : Nat → Nat
  | 0 => 0
  | s + 1 => off c s + (fcs c s).length
def arrAt (c : List (List Int)) (s : Nat) : List EdgeV := (List.range (fcs c s).length).map fun (j : Nat) => ((s : Int), (j : Int), (fcs c s).getD j 0)
def arr (c : List (List Int)) (n : Nat) : List EdgeV := (List.range n).flatMap (arrAt c)
theorem arr_succ (c : List (List Int)) (n : Nat) : arr c (n + 1) = arr c n ++ arrAt c n := by simp [arr, List.range_succ]
theorem arr_length (c : List (List Int)) (n : Nat) : (arr c n).length = off c n := by
  induction n with
  | zero => rfl
  | succ n ih => rw [arr_succ, List.length_append, ih, arrAt, List.length_map, List.length_range, off]
theorem off_le {c : List (List Int)} (h : CplxOk c) {n : Nat} (hn : n ≤ c.length) : off c n ≤ 4 * n := by
  induction n with
  | zero => exact Nat.le_refl _
  | succ n ih =>
    have h5 := faces_le h (show n < c.length by omega)
    have := ih (by omega)
    have e : (fcs c n).length = (faces (c.getD n [])).length := by simp [fcs]
    rw [off, e]; omega
theorem arr_getD (c : List (List Int)) {n s j : Nat} (hs : s < n) (hj : j < (fcs c s).length) : (arr c n).getD (off c s + j) (0, 0, 0) = ((s : Int), (j : Int), (fcs c s).getD j 0) := by
  induction n with
  | zero => omega
  | succ n ih =>
    rw [arr_succ, List.getD_eq_getElem?_getD]
    by_cases h : s < n
    · have hmono : ∀ a b, a ≤ b → off c a ≤ off c b := fun a b hab => by
        induction hab with
        | refl => exact Nat.le_refl _
        | step _ ih => exact Nat.le_trans ih (Nat.le_add_right _ _)
      have h1 := hmono (s + 1) n (by omega)
      rw [off] at h1
      rw [List.getElem?_append_left (by rw [arr_length]; omega), ← List.getD_eq_getElem?_getD]
      exact ih h
    · obtain rfl : s = n := by omega
      rw [List.getElem?_append_right (by rw [arr_length]; omega), arr_length, show off c s + j - off c s = j by omega, arrAt, List.getElem?_map, List.getElem?_range hj]
      rfl
theorem impl_arrows.val (c : List (List Int)) (h : CplxOk c) : impl_arrows.F (c, ()) = some ((arr c c.length, ()), ()) := by
  have hn := h.1
  refine impl_arrows.of _ (Ev.of_eq (N := fun k => impl_arrows.l3 k (c.length : Int) ((0 : Nat) : Int) c []) ?_ fun k => by rw [impl_arrows.T, impl_size_Lint64.eq, impl_size_Lint64.T]; rfl)
  obtain ⟨x, hx, hg⟩ := Goes.loop (R := ((List EdgeV × Unit) × Unit)) (fun k i (x : List EdgeV) => impl_arrows.l3 k (c.length : Int) (i : Int) c x) c.length (fun i x => x = arr c i) (fun i x hi h2 => by
    have hoff := off_le h (show i ≤ c.length by omega)
    have h5 := faces_le h hi
    have e5 : (fcs c i).length = (faces (c.getD i [])).length := by simp [fcs]
    refine ⟨_, rfl, (Goes.succ fun k => by rw [impl_arrows.l3_eq, if_pos (ltI.2 hi), impl_faceIndices.val c h i hi]).trans ?_⟩
    obtain ⟨y, hy, hg2⟩ := Goes.loop (R := ((List EdgeV × Unit) × Unit)) (fun k j (y : List EdgeV) => impl_arrows.l6 k (i : Int) (c.length : Int) (i : Int) ((fcs c i).length : Int) (j : Int) c y (fcs c i)) (fcs c i).length (fun j y => y = arr c i ++ (List.range j).map fun (j : Nat) => ((i : Int), (j : Int), (fcs c i).getD j 0)) (fun j y hj h3 => ⟨_, rfl, Goes.succ fun k => by
      rw [impl_arrows.l6_eq, if_pos (ltI.2 hj), if_pos (idxI.2 hj), if_pos (by rw [h3]; simp only [List.length_append, List.length_map, List.length_range, List.length_cons, List.length_nil, arr_length, bigA]; omega), wrapN (by omega), h3, List.range_succ, List.map_append, List.append_assoc]
      simp only [Int.toNat_natCast]
      rfl⟩) 0 x (Nat.zero_le _) (by simp [h2])
    refine hg2.trans (Goes.succ fun k => ?_)
    rw [impl_arrows.l6_eq, if_neg (by simp), wrapN (by omega), hy, arr_succ]
    rfl) 0 [] (Nat.zero_le _) rfl
  refine hg _ ((Ev.const _).succ fun k => ?_)
  rw [impl_arrows.l3_eq, if_neg (by simp), hx]
theorem spec_l09Place.val (c : List (List Int)) (h : CplxOk c) (s : Nat) (hs : s ≤ c.length) (j : Nat) (hj : j ≤ 1000) : spec_l09Place.F (c, (s : Int), (j : Int), ()) = some ((((off c s + j : Nat) : Int), ()), ()) := by
  have hn := h.1
  have hos := off_le h hs
  refine spec_l09Place.of _ _ _ (Ev.of_eq (N := fun k => spec_l09Place.l3 k c (s : Int) (j : Int) 0 ((0 : Nat) : Int)) ?_ fun k => rfl)
  obtain ⟨x, hx, hg⟩ := Goes.loop (R := ((Int × Unit) × Unit)) (fun k i (x : Int) => spec_l09Place.l3 k c (s : Int) (j : Int) x (i : Int)) s (fun i x => x = (off c i : Int)) (fun i x hi h2 => ⟨_, rfl, Goes.succ fun k => by
    have hic : i < c.length := by omega
    have hoff := off_le h (show i ≤ c.length by omega)
    have h4 := (h.2 i hic).1.1.2
    rw [spec_l09Place.l3_eq, if_pos (ltI.2 hi), if_pos (idxI.2 hic)]
    simp only [Int.toNat_natCast]
    rw [off, fcs_length]
    by_cases h1 : 1 < (c.getD i []).length
    · rw [if_pos (by simp only [decide_eq_true_eq]; omega), if_pos (idxI.2 hic), if_pos h1, wrapI (by omega) (by omega), wrapN (by omega), h2]
      congr 1
    · rw [if_neg (by simp only [decide_eq_true_eq]; omega), if_neg h1, wrapN (by omega), h2]
      rfl⟩) 0 0 (Nat.zero_le _) rfl
  refine hg _ ((Ev.const _).succ fun k => ?_)
  rw [spec_l09Place.l3_eq, if_neg (by simp), hx, wrapI (by omega) (by omega)]
  congr 3
def ofDim (c : List (List Int)) (d : Int) (i : Nat) : List Int := ((List.range i).filter fun j => ((c.getD j []).length : Int) == d + 1).map fun (j : Nat) => (j : Int)
theorem ofDim_succ (c : List (List Int)) (d : Int) (i : Nat) : ofDim c d (i + 1) = if ((c.getD i []).length : Int) == d + 1 then ofDim c d i ++ [(i : Int)] else ofDim c d i := by
  simp only [ofDim, List.range_succ, List.filter_append, List.map_append]
  split
  · rename_i h; rw [List.filter_cons_of_pos (by exact h)]; simp
  · rename_i h; rw [List.filter_cons_of_neg (by exact h)]; simp
theorem ofDim_length (c : List (List Int)) (d : Int) (i : Nat) : (ofDim c d i).length ≤ i := by
  simp only [ofDim, List.length_map]
  exact Nat.le_trans (List.length_filter_le _ _) (by simp)
theorem ofDim_mem {c : List (List Int)} {d : Int} {i : Nat} {x : Int} (h : x ∈ ofDim c d i) : ∃ j : Nat, x = j ∧ j < i := by
  simp only [ofDim, List.mem_map, List.mem_filter, List.mem_range] at h
  obtain ⟨j, ⟨h1, -⟩, rfl⟩ := h
  exact ⟨j, rfl, h1⟩
theorem spec_l05Of.val (c : List (List Int)) (d : Int) (hd : -1 ≤ d ∧ d ≤ 1000) (hn : c.length ≤ 1048576) : spec_l05Of.F (c, d, ()) = some ((ofDim c d c.length, ()), ()) := by
  refine spec_l05Of.of _ _ ?_
  obtain ⟨s, hs, hg⟩ := Goes.loop (R := ((List Int × Unit) × Unit)) (fun k i (x : List Int) => spec_l05Of.l3 k c d (i : Int) x) c.length (fun i x => x = ofDim c d i) (fun i x hi h2 => ⟨_, rfl, Goes.succ fun k => by
    have hl := ofDim_length c d i
    rw [spec_l05Of.l3_eq, if_pos (ltI.2 hi), if_pos (idxI.2 hi), wrapI (x := d + 1) (by omega) (by omega), ofDim_succ]
    simp only [Int.toNat_natCast]
    by_cases h : (((c.getD i []).length : Int) == d + 1) = true
    · rw [if_pos h, if_pos h, if_pos (by rw [h2]; simp only [List.length_cons, List.length_nil, bigA]; omega), wrapN (by omega), h2]
    · rw [if_neg h, if_neg h, wrapN (by omega), h2]⟩) 0 [] (Nat.zero_le _) rfl
  refine Ev.of_eq (hg _ ((Ev.const _).succ fun k => ?_)) fun k => rfl
  rw [spec_l05Of.l3_eq, if_neg (by simp), hs]
theorem impl_simplicesOf.val (c : List (List Int)) (d : Int) (hd : -1 ≤ d ∧ d ≤ 1000) (hn : c.length ≤ 1048576) : impl_simplicesOf.F (c, d, ()) = some ((ofDim c d c.length, ()), ()) := by
  refine impl_simplicesOf.of _ _ ?_
  obtain ⟨s, hs, hg⟩ := Goes.loop (R := ((List Int × Unit) × Unit)) (fun k i (x : List Int) => impl_simplicesOf.l3 k d c (c.length : Int) (i : Int) x) c.length (fun i x => x = ofDim c d i) (fun i x hi h2 => ⟨_, rfl, Goes.succ fun k => by
    have hl := ofDim_length c d i
    rw [impl_simplicesOf.l3_eq, if_pos (ltI.2 hi), if_pos (idxI.2 hi), wrapI (x := d + 1) (by omega) (by omega), ofDim_succ, impl_size_int64.eq, impl_size_int64.T]
    simp only [Int.toNat_natCast, Option.bind_some]
    by_cases h : (((c.getD i []).length : Int) == d + 1) = true
    · rw [if_pos h, if_pos h, if_pos (by rw [h2]; simp only [List.length_cons, List.length_nil, bigA]; omega), wrapN (by omega), h2]
    · rw [if_neg h, if_neg h, wrapN (by omega), h2]⟩) 0 [] (Nat.zero_le _) rfl
  refine Ev.of_eq (hg _ ((Ev.const _).succ fun k => ?_)) fun k => rfl
  rw [impl_simplicesOf.l3_eq, if_neg (by simp), hs]
def sumL (st : List Int) (js : List Int) : Int := js.foldl (fun acc j => IntKind.i64.wrap (acc + st.getD j.toNat 0)) 0
theorem spec_l09Sum.val (c : List (List Int)) (st : List Int) (d : Int) (hd : -1 ≤ d ∧ d ≤ 1000) (hn : c.length ≤ 1048576) (hs : st.length = c.length) : spec_l09Sum.F (c, st, d, ()) = some ((sumL st (ofDim c d c.length), ()), ()) := by
  have hl := ofDim_length c d c.length
  refine spec_l09Sum.of _ _ _ (Ev.of_eq (N := fun k => spec_l09Sum.l4 k st 0 ((0 : Nat) : Int) (ofDim c d c.length)) ?_ fun k => by rw [spec_l09Sum.T, spec_l05Of.val c d hd hn]; rfl)
  refine Goes.foldl (L := fun k i s => spec_l09Sum.l4 k st s (i : Int) (ofDim c d c.length)) (ofDim c d c.length) 0 (fun acc j => IntKind.i64.wrap (acc + st.getD j.toNat 0)) (fun k i s hi => ?_) 0 _ ((Ev.const _).succ fun k => by rw [spec_l09Sum.l4_eq, if_neg (by simp)]; rfl)
  obtain ⟨j, hj, hjc⟩ := ofDim_mem (getD_mem (0 : Int) hi)
  rw [spec_l09Sum.l4_eq, if_pos (ltI.2 hi), if_pos (idxI.2 hi)]
  simp only [Int.toNat_natCast]
  rw [if_pos (by rw [hj]; omega), wrapN (by omega)]
theorem impl_stalkSum.val (c : List (List Int)) (p : Int) (st : List Int) (ms : List MatV) (d : Int) (hd : -1 ≤ d ∧ d ≤ 1000) (hn : c.length ≤ 1048576) (hs : st.length = c.length) : impl_stalkSum.F ((c, (p, (st, ms))), d, ()) = some ((sumL st (ofDim c d c.length), ()), ()) := by
  have hl := ofDim_length c d c.length
  refine impl_stalkSum.of _ _ _ _ _ (Ev.of_eq (N := fun k => impl_stalkSum.l3 k 0 (ofDim c d c.length).length ((0 : Nat) : Int) c p st ms (ofDim c d c.length)) ?_ fun k => by rw [impl_stalkSum.T, impl_simplicesOf.val c d hd hn]; rfl)
  refine Goes.foldl (L := fun k i s => impl_stalkSum.l3 k s (ofDim c d c.length).length (i : Int) c p st ms (ofDim c d c.length)) (ofDim c d c.length) 0 (fun acc j => IntKind.i64.wrap (acc + st.getD j.toNat 0)) (fun k i s hi => ?_) 0 _ ((Ev.const _).succ fun k => by rw [impl_stalkSum.l3_eq, if_neg (by simp)]; rfl)
  obtain ⟨j, hj, hjc⟩ := ofDim_mem (getD_mem (0 : Int) hi)
  rw [impl_stalkSum.l3_eq, if_pos (ltI.2 hi), if_pos (idxI.2 hi)]
  simp only [Int.toNat_natCast]
  rw [if_pos (by rw [hj]; omega), wrapN (by omega)]
def vts (c : List (List Int)) : List Int := (c.filter fun s => s.length == 1).map fun s => s.getD 0 0
theorem vts_take (c : List (List Int)) {i : Nat} (hi : i < c.length) : vts (c.take (i + 1)) = vts (c.take i) ++ (if (c.getD i []).length = 1 then [(c.getD i []).getD 0 0] else []) := by
  unfold vts
  rw [List.take_add_one, List.getElem?_eq_getElem hi, Option.toList_some, List.filter_append, List.map_append, getD_eq hi]
  congr 1
  by_cases h : c[i].length = 1 <;> simp [h]
theorem vts_len (c : List (List Int)) (i : Nat) : (vts (c.take i)).length ≤ i := by
  unfold vts
  rw [List.length_map]
  exact Nat.le_trans (List.length_filter_le _ _) (by simp; omega)
theorem impl_verticesOf.val (c : List (List Int)) (hn : c.length ≤ 1048576) : impl_verticesOf.F (c, ()) = some ((vts c, ()), ()) := by
  refine impl_verticesOf.of _ ?_
  obtain ⟨s, hs, hg⟩ := Goes.loop (R := ((List Int × Unit) × Unit)) (fun k i (x : List Int) => impl_verticesOf.l3 k c (c.length : Int) (i : Int) x) c.length (fun i x => x = vts (c.take i)) (fun i x hi h2 => ⟨_, rfl, Goes.succ fun k => by
    have hl := vts_len c i
    rw [impl_verticesOf.l3_eq, if_pos (ltI.2 hi), if_pos (idxI.2 hi)]
    simp only [Int.toNat_natCast]
    rw [vts_take c hi, wrapN (by omega), ← h2]
    by_cases h1 : (c.getD i []).length = 1
    · rw [if_pos (by simp only [beq_iff_eq]; omega), if_pos (by omega), if_pos (by rw [h2]; simp only [List.length_cons, List.length_nil, bigA]; omega), if_pos h1]; rfl
    · rw [if_neg (by simp only [beq_iff_eq]; omega), if_neg h1, List.append_nil]⟩) 0 [] (Nat.zero_le _) rfl
  rw [List.take_of_length_le (Nat.le_refl _)] at hs
  refine Ev.of_eq (hg _ ((Ev.const _).succ fun k => ?_)) fun k => rfl
  rw [impl_verticesOf.l3_eq, if_neg (by simp), hs]
theorem vert_mem {c : List (List Int)} (h : CplxOk c) : ∀ (n : Nat) (s : List Int), s ∈ c → s.length ≤ n → ∀ v ∈ s, [v] ∈ c := by
  intro n
  induction n with
  | zero => intro s hs hl v hv; have : s = [] := List.length_eq_zero_iff.1 (by omega); subst this; simp at hv
  | succ n ih =>
    intro s hs hl v hv
    by_cases h1 : 1 < s.length
    · obtain ⟨i, hi, hic⟩ : ∃ i, i < c.length ∧ c.getD i [] = s := by
        obtain ⟨i, hi, rfl⟩ := List.getElem_of_mem hs
        exact ⟨i, hi, getD_eq hi⟩
      obtain ⟨j, hj, hjv⟩ := List.getElem_of_mem hv
      obtain ⟨k, hk, hkj⟩ : ∃ k, k < s.length ∧ k ≠ j := by
        by_cases e : j = 0
        · exact ⟨1, h1, by omega⟩
        · exact ⟨0, by omega, by omega⟩
      have hmem : dropAt s k ∈ c := face_mem h hi (by rw [hic]; exact mem_faces.2 ⟨h1, k, hk, rfl⟩)
      refine ih (dropAt s k) hmem (by rw [dropAt_length hk]; omega) v ?_
      unfold dropAt
      rw [List.mem_append]
      by_cases h2 : j < k
      · left; rw [List.mem_take_iff_getElem]; exact ⟨j, by omega, hjv⟩
      · right; rw [List.mem_drop_iff_getElem]
        refine ⟨j - (k + 1), by omega, ?_⟩
        rw [← hjv]; congr 1; omega
    · cases s with
      | nil => simp at hv
      | cons a t =>
        have : t = [] := List.length_eq_zero_iff.1 (by simp only [List.length_cons] at h1; omega)
        subst this
        simp only [List.mem_singleton] at hv
        subst hv; exact hs
theorem ones_first : ∀ {c : List (List Int)}, (∀ s ∈ c, 1 ≤ s.length) → c.Pairwise (fun x y => x.length ≤ y.length) → ∃ B, c = (c.filter fun s => s.length == 1) ++ B ∧ ∀ s ∈ B, s.length ≠ 1
  | [], _, _ => ⟨[], rfl, by simp⟩
  | x :: c, h1, h2 => by
    rw [List.pairwise_cons] at h2
    obtain ⟨B, hB, hB'⟩ := ones_first (fun s hs => h1 s (by simp [hs])) h2.2
    by_cases hx : x.length = 1
    · exact ⟨B, by rw [List.filter_cons, if_pos (by simpa using hx), List.cons_append, ← hB], hB'⟩
    · have hall : ∀ s ∈ x :: c, s.length ≠ 1 := fun s hs => by
        have hx1 := h1 x (by simp)
        simp only [List.mem_cons] at hs
        rcases hs with rfl | hs
        · exact hx
        · have := h2.1 s hs; omega
      have hf : (x :: c).filter (fun s => s.length == 1) = [] := by
        rw [List.filter_eq_nil_iff]
        intro s hs
        simpa using hall s hs
      exact ⟨x :: c, by rw [hf]; rfl, hall⟩
def idxV (xs : List Int) (v : Int) : Nat := xs.findIdx fun x => decide (x = v)
theorem idxV_lt {xs : List Int} {v : Int} (h : v ∈ xs) : idxV xs v < xs.length := List.findIdx_lt_length_of_exists ⟨v, h, by simp⟩
theorem findIdx_ones (v : Int) : ∀ {A : List (List Int)} (B : List (List Int)), (∀ s ∈ A, s.length = 1) → [v] ∈ A → idxIn (A ++ B) [v] = idxV (A.map fun s => s.getD 0 0) v
  | [], _, _, h => by simp at h
  | s :: A, B, h1, h2 => by
    have hs := h1 s (by simp)
    obtain ⟨a, rfl⟩ : ∃ a, s = [a] := by
      cases s with
      | nil => simp at hs
      | cons a t => exact ⟨a, by rw [List.length_eq_zero_iff.1 (show t.length = 0 by simpa using hs)]⟩
    unfold idxIn idxV
    rw [List.cons_append, List.map_cons, List.findIdx_cons, List.findIdx_cons]
    by_cases e : a = v
    · subst e; simp
    · have h3 : [v] ∈ A := by
        simp only [List.mem_cons, List.cons.injEq, and_true] at h2
        exact h2.resolve_left fun hh => e hh.symm
      have ih := findIdx_ones v B (fun s hs => h1 s (by simp [hs])) h3
      unfold idxIn idxV at ih
      have d1 : decide ([a] = [v]) = false := by simp [e]
      have d2 : decide (([a] : List Int).getD 0 0 = v) = false := by simp [e]
      rw [d1, d2, cond_false, cond_false, ih]
theorem idx_vts {c : List (List Int)} (h : CplxOk c) {v : Int} (hv : [v] ∈ c) : idxIn c [v] = idxV (vts c) v ∧ v ∈ vts c := by
  have hpw : c.Pairwise (fun x y => x.length ≤ y.length) := by
    rw [List.pairwise_iff_getElem]
    intro i j hi hj hij
    have := h.sorted i j hij hj
    rw [getD_eq hi, getD_eq hj] at this
    refine Classical.byContradiction fun hc => ?_
    have h2 := cmpS_short (a := c[j]) (b := c[i]) (by omega)
    have h3 := cmpS_trans _ _ _ this h2
    have h4 := (cmpS_zero c[i] c[i]).2 rfl
    omega
  obtain ⟨B, hB, hB'⟩ := ones_first (fun s hs => by
    obtain ⟨i, hi, rfl⟩ := List.getElem_of_mem hs
    have := (h.2 i hi).1.1.1
    rwa [getD_eq hi] at this) hpw
  have hA : [v] ∈ c.filter fun s => s.length == 1 := List.mem_filter.2 ⟨hv, rfl⟩
  refine ⟨?_, ?_⟩
  · unfold vts
    conv => lhs; rw [hB]
    exact findIdx_ones v B (fun s hs => by simpa using (List.mem_filter.1 hs).2) hA
  · unfold vts
    rw [List.mem_map]
    exact ⟨[v], hA, rfl⟩
theorem slices_Index_Lint64_int64.val (xs : List Int) (v : Int) (hn : xs.length ≤ 1048576) (hv : v ∈ xs) : slices_Index_Lint64_int64.F (xs, v, ()) = some ((((idxV xs v : Nat) : Int), ()), ()) := by
  refine slices_Index_Lint64_int64.of _ _ ?_
  have hlt := idxV_lt hv
  obtain ⟨x, -, hg⟩ := Goes.loop (σ := Unit) (R := ((Int × Unit) × Unit)) (fun k i _ => slices_Index_Lint64_int64.l2 k xs v (xs.length : Int) (i : Int)) (idxV xs v) (fun _ _ => True) (fun i _ hi _ => ⟨(), trivial, Goes.succ fun k => by
    have hne : xs[i]'(by omega) ≠ v := by simpa using List.not_of_lt_findIdx hi
    rw [slices_Index_Lint64_int64.l2_eq, if_pos (ltI.2 (by omega)), if_pos (idxI.2 (by omega))]
    simp only [Int.toNat_natCast]
    rw [if_neg (by
      rw [getD_eq (by omega)]
      simp only [beq_iff_eq]
      exact fun e => hne e.symm), wrapN (by omega)]⟩) 0 () (Nat.zero_le _) trivial
  refine Ev.of_eq (hg _ ((Ev.const _).succ fun k => ?_)) fun k => rfl
  have heq : xs[idxV xs v] = v := of_decide_eq_true (List.findIdx_getElem (xs := xs) (p := fun x => decide (x = v)) (w := hlt))
  rw [slices_Index_Lint64_int64.l2_eq, if_pos (ltI.2 hlt), if_pos (idxI.2 hlt)]
  simp only [Int.toNat_natCast]
  rw [if_pos (by
    rw [getD_eq hlt]
    simp only [beq_iff_eq]
    exact heq.symm)]
def imgL (c : List (List Int)) (im s : List Int) : List Int := s.map fun v => im.getD (idxV (vts c) v) 0
def imgS (c : List (List Int)) (im s : List Int) : List Int := setI (imgL c im s)
theorem impl_imageOf.val (c : List (List Int)) (im s : List Int) (h : CplxOk c) (hs : s ∈ c) (hs4 : s.length ≤ 4) (hl : im.length = (vts c).length) : impl_imageOf.F (c, im, s, ()) = some ((imgS c im s, ()), ()) := by
  have hn := h.1
  have hvl := vts_len c c.length
  rw [List.take_of_length_le (Nat.le_refl _)] at hvl
  refine impl_imageOf.of _ _ _ ?_
  obtain ⟨x, hx, hg⟩ := Goes.loop (R := ((List Int × Unit) × Unit)) (fun k i (x : List Int) => impl_imageOf.l4 k im s (s.length : Int) (i : Int) (vts c) x) s.length (fun i x => x = imgL c im (s.take i)) (fun i x hi h2 => ⟨_, rfl, Goes.succ fun k => by
    obtain ⟨-, hm⟩ := idx_vts h (vert_mem h 4 s hs hs4 _ (getD_mem 0 hi))
    have hlt := idxV_lt hm
    rw [impl_imageOf.l4_eq, if_pos (ltI.2 hi), if_pos (idxI.2 hi)]
    simp only [Int.toNat_natCast, slices_Index_Lint64_int64.val _ _ (show (vts c).length ≤ 1048576 by omega) hm, Option.bind_some]
    rw [if_pos (idxI.2 (by omega)), if_pos (by rw [h2]; simp only [imgL, List.length_map, List.length_take, List.length_cons, List.length_nil, bigA]; omega), wrapN (by omega), h2, imgL, imgL, List.take_add_one, List.getElem?_eq_getElem hi, Option.toList_some, List.map_append, getD_eq hi]
    rfl⟩) 0 [] (Nat.zero_le _) rfl
  rw [List.take_of_length_le (Nat.le_refl _)] at hx
  have hxl : x.length = s.length := by rw [hx]; simp [imgL]
  refine Ev.of_eq (hg _ ((Ev.const _).succ fun k => ?_)) fun k => ?_
  · rw [impl_imageOf.l4_eq, if_neg (by simp), slices_Sort_Lint64_int64.val _ (by omega)]
    simp only [Option.bind_some]
    rw [slices_Compact_Lint64_int64.val _ (by rw [List.length_mergeSort]; omega), hx]; rfl
  · rw [impl_imageOf.T, impl_verticesOf.val c (by omega)]; rfl
theorem cut_one (s : List Int) {i : Nat} (hi : i < s.length) : cutL s (i : Int) ((i + 1 : Nat) : Int) = [s.getD i 0] := by
  unfold cutL
  simp only [Int.toNat_natCast]
  rw [getD_eq hi]
  apply List.ext_getElem
  · simp; omega
  · intro j h1 h2
    have : j = 0 := by simpa using h2
    subst this
    simp
theorem spec_l13Image.val (c : List (List Int)) (im s : List Int) (h : CplxOk c) (hs : s ∈ c) (hs4 : s.length ≤ 4) (hl : im.length = (vts c).length) : spec_l13Image.F (c, im, s, ()) = some ((imgS c im s, ()), ()) := by
  have hn := h.1
  refine spec_l13Image.of _ _ _ ?_
  obtain ⟨x, ⟨hx, hxl⟩, hg⟩ := Goes.loop (R := ((List Int × Unit) × Unit)) (fun k i (x : List Int) => spec_l13Image.l3 k c im s (i : Int) x) s.length (fun i x => x = (imgL c im (s.take i)).foldl (fun a n => putL a n false) [] ∧ x.length ≤ i) (fun i x hi ⟨h2, h3⟩ => by
    have hv := vert_mem h 4 s hs hs4 _ (getD_mem 0 hi)
    obtain ⟨hidx, hm⟩ := idx_vts h hv
    have hlt := idxV_lt hm
    refine ⟨putL x (im.getD (idxV (vts c) (s.getD i 0)) 0) false, ⟨?_, by have := putL_len (im.getD (idxV (vts c) (s.getD i 0)) 0) x false; omega⟩, Goes.succ fun k => ?_⟩
    · rw [imgL, List.take_add_one, List.getElem?_eq_getElem hi, Option.toList_some, List.map_append, List.foldl_append, ← imgL, ← h2, getD_eq hi]; rfl
    · rw [spec_l13Image.l3_eq, if_pos (ltI.2 hi), wrapN (by omega), if_pos (by omega), cut_one s hi]
      simp only [find_idx h hv, Option.bind_some, hidx]
      rw [if_pos (idxI.2 (by omega))]
      simp only [Int.toNat_natCast, spec_l00Put.val x _ (by omega), Option.bind_some]) 0 [] (Nat.zero_le _) ⟨rfl, by simp⟩
  rw [List.take_of_length_le (Nat.le_refl _)] at hx
  refine Ev.of_eq (hg _ ((Ev.const _).succ fun k => ?_)) fun k => rfl
  rw [spec_l13Image.l3_eq, if_neg (by simp), hx, puts_setI]; rfl
def MapOk (c b : List (List Int)) (im : List Int) : Prop := im.length = (vts c).length ∧ ∀ s ∈ c, imgS c im s ∈ b
theorem cplx4 {c : List (List Int)} (h : CplxOk c) {s : List Int} (hs : s ∈ c) : s.length ≤ 4 := by
  obtain ⟨i, hi, rfl⟩ := List.getElem_of_mem hs
  have := (h.2 i hi).1.1.2
  rwa [getD_eq hi] at this
theorem slices_Clone_Lint64_int64.val (xs : List Int) (h : xs.length ≤ 1048576) : slices_Clone_Lint64_int64.F (xs, ()) = some ((xs, ()), ()) := by
  rw [slices_Clone_Lint64_int64.eq, slices_Clone_Lint64_int64.T]
  have hb : ([] : List Int).length + xs.length ≤ bigA := by simp only [List.length_nil, bigA]; omega
  by_cases h0 : 0 < xs.length
  · rw [if_pos h0, if_pos hb]; rfl
  · have : xs = [] := List.eq_nil_of_length_eq_zero (by omega)
    subst this
    rw [if_neg h0]
    exact both_mk rfl (by rw [if_pos hb]; rfl)
theorem impl_copyLists.val (xs : List (List Int)) (h : SmL xs) : impl_copyLists.F (xs, ()) = some ((xs, ()), ()) := by
  have hn := h.1
  refine impl_copyLists.of _ ?_
  obtain ⟨s, hs, hg⟩ := Goes.loop (R := ((List (List Int) × Unit) × Unit)) (fun k i (x : List (List Int)) => impl_copyLists.l3 k xs (xs.length : Int) (i : Int) x) xs.length (fun i x => x = xs.take i) (fun i x hi h2 => ⟨_, rfl, Goes.succ fun k => by
    rw [impl_copyLists.l3_eq, if_pos (ltI.2 hi), if_pos (idxI.2 hi)]
    simp only [Int.toNat_natCast, slices_Clone_Lint64_int64.val _ (h.2 _ (getD_mem [] hi)), Option.bind_some]
    rw [if_pos (by rw [h2]; simp only [List.length_take, List.length_cons, List.length_nil, bigA]; omega), wrapN (by omega), h2, List.take_add_one, List.getElem?_eq_getElem hi, Option.toList_some, getD_eq hi]⟩) 0 [] (Nat.zero_le _) rfl
  rw [List.take_of_length_le (Nat.le_refl _)] at hs
  refine Ev.of_eq (hg _ ((Ev.const _).succ fun k => ?_)) fun k => rfl
  rw [impl_copyLists.l3_eq, if_neg (by simp), hs]
theorem slices_Equal_Lint64_int64.same (xs ys : List Int) (h : Sm xs) : ∃ b, slices_Equal_Lint64_int64.F (xs, ys, ()) = some ((b, ()), ()) ∧ (b = true ↔ xs = ys) := by
  have hn : xs.length ≤ 1048576 := h
  by_cases hl : xs.length = ys.length
  · obtain ⟨b, hb, hb'⟩ := same_loop (fun k i => slices_Equal_Lint64_int64.l4 k xs ys xs.length (i : Int)) xs ys 0 hl (fun i hi => ⟨xs.getD i 0 == ys.getD i 0, by simp, fun k => by
      rw [slices_Equal_Lint64_int64.l4_eq, if_pos (ltI.2 hi), if_pos (idxI.2 hi), if_pos (idx2 (hl ▸ hi))]; simp only [Int.toNat_natCast]; rw [wrapN (by omega)]; rfl⟩) (fun k => by rw [slices_Equal_Lint64_int64.l4_eq, if_neg (by simp)])
    exact ⟨b, slices_Equal_Lint64_int64.of _ _ (hb.of_eq fun k => by rw [slices_Equal_Lint64_int64.T, if_neg (by simp [hl])]; rfl), hb'⟩
  · exact ⟨false, slices_Equal_Lint64_int64.of _ _ ((Ev.const _).of_eq fun k => by rw [slices_Equal_Lint64_int64.T, if_pos (by simp; omega)]), by simp; intro e; exact hl (by rw [e])⟩
theorem ordL_eq : ∀ a b : List Int, ordL a b = lexc a b
  | [], [] => rfl
  | [], _ :: _ => rfl
  | _ :: _, [] => rfl
  | a :: x, b :: y => by
    simp only [ordL, lexc, ordL_eq x y]
    rcases cmpI_cases a b with ⟨h, e⟩ | ⟨h, e⟩ | ⟨h, e⟩ <;> rw [e]
    · rw [if_pos h]; rfl
    · rw [if_neg (by omega), if_neg (by omega)]; rfl
    · rw [if_neg (by omega), if_pos h]; rfl
theorem ordS_eq (a b : List Int) : ordS a b = cmpS a b := by
  unfold ordS cmpS
  rw [ordL_eq]
  rcases cmpI_cases a.length b.length with ⟨h, e⟩ | ⟨h, e⟩ | ⟨h, e⟩ <;> rw [e]
  · rw [if_pos (by omega)]; rfl
  · rw [if_neg (by omega), if_neg (by omega)]; rfl
  · rw [if_neg (by omega), if_pos (by omega)]; rfl
abbrev LtS (x y : List Int) : Prop := ordS x y < 0
theorem LtS.irrefl (x : List Int) : ¬ LtS x x := fun h => by have := ordS_neg x x; simp only [LtS] at h; omega
theorem LtS.of_le {x y : List Int} (h : ¬ LtS y x) (hne : x ≠ y) : LtS x y := by
  have h1 := ordS_neg x y
  have h2 := ordS_zero y x
  simp only [LtS] at *
  rcases Int.lt_trichotomy (ordS y x) 0 with h3 | h3 | h3
  · exact absurd h3 h
  · exact absurd (h2 h3).symm hne
  · exact h1.2 h3
theorem sortedS_pw {xs : List (List Int)} : SortedS xs ↔ xs.Pairwise LtS := by
  rw [List.pairwise_iff_getElem]
  constructor
  · intro h i j hi hj hij
    have := h i j hij hj
    rw [getD_eq hi, getD_eq hj, ← ordS_eq] at this
    exact this
  · intro h i j hij hj
    have := h i j (by omega) hj hij
    rw [getD_eq (by omega), getD_eq hj, ← ordS_eq]
    exact this
theorem sorted_ext : ∀ {xs ys : List (List Int)}, xs.Pairwise LtS → ys.Pairwise LtS → (∀ s, s ∈ xs ↔ s ∈ ys) → xs = ys
  | [], ys, _, _, h => by
    cases ys with
    | nil => rfl
    | cons y ys => exact absurd ((h y).2 (by simp)) (by simp)
  | x :: xs, [], _, _, h => absurd ((h x).1 (by simp)) (by simp)
  | x :: xs, y :: ys, hx, hy, h => by
    rw [List.pairwise_cons] at hx hy
    have e : x = y := by
      have h1 := (h x).1 (by simp)
      have h2 := (h y).2 (by simp)
      simp only [List.mem_cons] at h1 h2
      rcases h1 with rfl | h1
      · rfl
      · rcases h2 with rfl | h2
        · rfl
        · exact absurd (ordS_trans x y x (hx.1 y h2) (hy.1 x h1)) (LtS.irrefl x)
    subst e
    rw [sorted_ext hx.2 hy.2 fun s => ?_]
    constructor
    · intro hs
      have := (h s).1 (by simp [hs])
      simp only [List.mem_cons] at this
      rcases this with rfl | this
      · exact absurd (hx.1 s hs) (LtS.irrefl s)
      · exact this
    · intro hs
      have := (h s).2 (by simp [hs])
      simp only [List.mem_cons] at this
      rcases this with rfl | this
      · exact absurd (hy.1 s hs) (LtS.irrefl s)
      · exact this
theorem compFrom_mem (s : List Int) : ∀ (l : List (List Int)) (p : List Int), s ∈ p :: compFrom p l ↔ s ∈ p :: l
  | [], p => by simp [compFrom]
  | x :: l, p => by
    have h1 := compFrom_mem s l p
    have h2 := compFrom_mem s l x
    simp only [List.mem_cons] at *
    simp only [compFrom]
    split
    · rename_i e; subst e; rw [h1]; simp
    · rw [List.mem_cons, h2]
theorem compL_mem (s : List Int) (l : List (List Int)) : s ∈ compL l ↔ s ∈ l := by
  cases l with
  | nil => simp [compL]
  | cons x l => exact compFrom_mem s l x
theorem compFrom_pw : ∀ (l : List (List Int)) (p : List Int), (p :: l).Pairwise (fun a b => ¬ LtS b a) → (p :: compFrom p l).Pairwise LtS
  | [], p, _ => by simp [compFrom]
  | x :: l, p, h => by
    rw [List.pairwise_cons, List.pairwise_cons] at h
    simp only [compFrom]
    split
    · rename_i e; subst e
      exact compFrom_pw l x (List.pairwise_cons.2 ⟨h.2.1, h.2.2⟩)
    · rename_i hne
      have ih := compFrom_pw l x (List.pairwise_cons.2 ⟨h.2.1, h.2.2⟩)
      have hpx : LtS p x := LtS.of_le (h.1 x (by simp)) (Ne.symm hne)
      refine List.pairwise_cons.2 ⟨fun y hy => ?_, ih⟩
      simp only [List.mem_cons] at hy
      rcases hy with rfl | hy
      · exact hpx
      · exact ordS_trans p x y hpx ((List.pairwise_cons.1 ih).1 y hy)
theorem compL_pw {l : List (List Int)} (h : l.Pairwise (fun a b => ¬ LtS b a)) : (compL l).Pairwise LtS := by
  cases l with
  | nil => simp [compL]
  | cons x l => exact compFrom_pw l x h
def inOrd (xs : List (List Int)) : List (List Int) := compL (sortL ordS xs)
theorem sortL_perm (xs : List (List Int)) : (sortL ordS xs).Perm xs := List.mergeSort_perm _ _
theorem inOrd_mem (s : List Int) (xs : List (List Int)) : s ∈ inOrd xs ↔ s ∈ xs := by rw [inOrd, compL_mem, (sortL_perm xs).mem_iff]
theorem inOrd_pw (xs : List (List Int)) : (inOrd xs).Pairwise LtS := by
  refine compL_pw ?_
  have h := List.pairwise_mergeSort (le := fun x y => !Go.Proofs.ltOf ordS y x) (fun x y z h1 h2 => ?_) (fun x y => ?_) xs
  · refine List.Pairwise.imp ?_ h
    intro a b hab
    simpa [Go.Proofs.ltOf] using hab
  · simp only [Go.Proofs.ltOf, Bool.not_eq_true', decide_eq_false_iff_not] at *
    intro h3
    rcases Int.lt_trichotomy (ordS y x) 0 with h | h | h
    · exact h1 h
    · have := ordS_zero y x h; subst this; exact h2 h3
    · exact h2 (ordS_trans z x y h3 ((ordS_neg x y).2 h))
  · simp only [Go.Proofs.ltOf, Bool.or_eq_true, Bool.not_eq_true', decide_eq_false_iff_not]
    have := ordS_neg x y
    omega
theorem inOrd_sorted {xs : List (List Int)} (h : SortedS xs) : inOrd xs = xs := sorted_ext (inOrd_pw xs) (sortedS_pw.1 h) fun s => inOrd_mem s xs
theorem slices_SortFunc_LLint64_Lint64.val (xs : List (List Int)) (h : SmL xs) : slices_SortFunc_LLint64_Lint64.F (xs, impl_compareSimplices.cloG (()), ()) = some ((), (sortL ordS xs, ())) := by
  unfold slices_SortFunc_LLint64_Lint64.F sortF
  rw [if_pos]
  refine ⟨fun x hx y hy => ?_, by have := h.1; show xs.length < _; omega⟩
  show (impl_compareSimplices.F (x, y, ())).map (·.1) = _
  rw [impl_compareSimplices.val x y (h.2 x hx) (h.2 y hy), ordS_eq]; rfl
theorem slices_CompactFunc_LLint64_Lint64.val (xs : List (List Int)) (h : SmL xs) : slices_CompactFunc_LLint64_Lint64.F (xs, slices_Equal_Lint64_int64.cloG (()), ()) = some ((compL xs, ()), ()) := by
  unfold slices_CompactFunc_LLint64_Lint64.F compF
  rw [if_pos]
  refine ⟨fun x hx y _ => ?_, by have := h.1; show xs.length < _; omega⟩
  have hxs : Sm x := by
    simp only [List.mem_cons] at hx
    rcases hx with rfl | hx
    · simp [Sm]
    · exact h.2 x hx
  obtain ⟨b, hb, hb'⟩ := slices_Equal_Lint64_int64.same x y hxs
  show (slices_Equal_Lint64_int64.F (x, y, ())).map (·.1) = _
  rw [hb]
  have : b = decide (x = y) := Bool.eq_iff_iff.2 (hb'.trans (by simp))
  rw [this]; rfl
theorem SmL.perm {xs ys : List (List Int)} (h : SmL xs) (hp : ys.Perm xs) : SmL ys := ⟨by rw [hp.length_eq]; exact h.1, fun x hx => h.2 x (hp.mem_iff.1 hx)⟩
theorem impl_inOrder.val (xs : List (List Int)) (h : SmL xs) : impl_inOrder.F (xs, ()) = some ((inOrd xs, ()), ()) := by
  rw [impl_inOrder.eq, impl_inOrder.T, impl_copyLists.val xs h]
  simp only [Option.bind_some, slices_SortFunc_LLint64_Lint64.val xs h, slices_CompactFunc_LLint64_Lint64.val _ (h.perm (sortL_perm xs))]
  rfl
theorem impl_inOrder.same (xs : List (List Int)) (h : SmL xs) (hs : SortedS xs) : impl_inOrder.F (xs, ()) = some ((xs, ()), ()) := by rw [impl_inOrder.val xs h, inOrd_sorted hs]
theorem spec_l00Has.val (xs : List Int) (n : Int) (hn : xs.length < 4611686018427387904) : spec_l00Has.F (xs, n, ()) = some ((decide (n ∈ xs), ()), ()) := by
  obtain ⟨v, hv, hv'⟩ := Ev.loop (σ := Unit) (R := (Bool × Unit) × Unit) (fun k i _ => spec_l00Has.l2 k xs n (i : Int)) xs.length (fun i _ => ∀ j, j < i → xs.getD j 0 ≠ n) (fun r => r = ((decide (n ∈ xs), ()), ()))
    (fun i s hi hI => by
      have E := fun k => spec_l00Has.l2_eq k xs n (i : Int)
      simp only [if_pos (ltI.2 hi), if_pos (idxI.2 hi), Int.toNat_natCast, wrapN (show i < 4611686018427387904 by omega)] at E
      by_cases h : xs.getD i 0 = n
      · exact .inl ⟨_, (Ev.const _).succ fun k => by rw [E, if_pos (by simp only [h, beq_self_eq_true])], by
          have : n ∈ xs := h ▸ getD_mem 0 hi
          simp [this]⟩
      · refine .inr ⟨(), fun j hj => ?_, Goes.succ fun k => by rw [E, if_neg (by simp only [beq_iff_eq]; exact h)]⟩
        by_cases hji : j = i
        · rw [hji]; exact h
        · exact hI j (by omega))
    (fun s hI => ⟨_, (Ev.const _).succ fun k => by rw [spec_l00Has.l2_eq, if_neg (by simp)], by
      have : n ∉ xs := fun hm => by
        obtain ⟨j, hj, e⟩ := List.getElem_of_mem hm
        exact hI j hj (by rw [getD_eq hj]; exact e)
      simp [this]⟩) 0 () (Nat.zero_le _) (by intro j hj; omega)
  subst hv'
  exact spec_l00Has.of _ _ (hv.of_eq fun k => rfl)
theorem slices_Contains_Lint64_int64.val (xs : List Int) (n : Int) (hn : xs.length < 4611686018427387904) : slices_Contains_Lint64_int64.F (xs, n, ()) = some ((decide (n ∈ xs), ()), ()) := by
  obtain ⟨v, hv, hv'⟩ := Ev.loop (σ := Unit) (R := (Int × Unit) × Unit) (fun k i _ => slices_Index_Lint64_int64.l2 k xs n xs.length (i : Int)) xs.length (fun i _ => ∀ j, j < i → xs.getD j 0 ≠ n) (fun r => ∃ q : Int, r = ((q, ()), ()) ∧ decide (q ≥ 0) = decide (n ∈ xs))
    (fun i s hi hI => by
      have E := fun k => slices_Index_Lint64_int64.l2_eq k xs n xs.length (i : Int)
      simp only [if_pos (ltI.2 hi), if_pos (idxI.2 hi), Int.toNat_natCast, wrapN (show i < 4611686018427387904 by omega)] at E
      by_cases h : n = xs.getD i 0
      · exact .inl ⟨_, (Ev.const _).succ fun k => by rw [E, if_pos (by simp only [← h, beq_self_eq_true])], _, rfl, by
          have : n ∈ xs := h ▸ getD_mem 0 hi
          simp [this]⟩
      · refine .inr ⟨(), fun j hj => ?_, Goes.succ fun k => by rw [E, if_neg (by simp only [beq_iff_eq]; exact h)]⟩
        by_cases hji : j = i
        · rw [hji]; exact fun e => h e.symm
        · exact hI j (by omega))
    (fun s hI => ⟨_, (Ev.const _).succ fun k => by rw [slices_Index_Lint64_int64.l2_eq, if_neg (by simp)], _, rfl, by
      have : n ∉ xs := fun hm => by
        obtain ⟨j, hj, e⟩ := List.getElem_of_mem hm
        exact hI j hj (by rw [getD_eq hj]; exact e)
      simp [this]⟩) 0 () (Nat.zero_le _) (by intro j hj; omega)
  obtain ⟨q, rfl, hq⟩ := hv'
  rw [slices_Contains_Lint64_int64.eq, slices_Contains_Lint64_int64.T, slices_Index_Lint64_int64.of _ _ (hv.of_eq fun k => rfl)]
  simp only [Option.bind_some, hq]
def PrimeOk (p : Int) : Prop := (2 ≤ p ∧ p ≤ 251) ∧ ∀ i : Nat, 2 ≤ i → (i : Int) * i ≤ p → p.tmod i ≠ 0
theorem wrapSq {i : Nat} (h : i ≤ 1000) : IntKind.i64.wrap ((i : Int) * (i : Int)) = (i : Int) * (i : Int) := by
  have : i * i ≤ 1000 * 1000 := Nat.mul_le_mul h h
  have e : (i : Int) * (i : Int) = ((i * i : Nat) : Int) := by simp
  rw [e]; exact wrapI (by omega) (by omega)
theorem prime_loop (L : Nat → Int → Option ((Bool × Unit) × Unit)) (p : Int) (hp : 2 ≤ p ∧ p ≤ 251) (hL : ∀ k i, L (k + 1) i = if (decide ((IntKind.i64.wrap (i * i)) ≤ p)) = true then (if i = 0 then none else if ((p.tmod i) == (0 : Int)) = true then some ((false, ()), ()) else L k (IntKind.i64.wrap (i + (1 : Int)))) else some ((true, ()), ())) :
    ∃ v, Ev (fun k => L k 2) ((v, ()), ()) ∧ (v = true ↔ PrimeOk p) := by
  have big : ∀ i : Nat, 16 ≤ i → p < (i : Int) * i := fun i hi => by
    have : 16 * 16 ≤ i * i := Nat.mul_le_mul hi hi
    have e : (i : Int) * (i : Int) = ((i * i : Nat) : Int) := by simp
    omega
  have key : ∀ d i : Nat, 16 - i ≤ d → 2 ≤ i → i ≤ 1000 → (∀ j : Nat, 2 ≤ j → j < i → p.tmod j ≠ 0) → ∃ v, Ev (fun k => L k (i : Int)) ((v, ()), ()) ∧ (v = true ↔ PrimeOk p) := by
    intro d
    induction d with
    | zero =>
      intro i hd h2 hi hlow
      refine ⟨true, (Ev.const _).succ fun k => by rw [hL, wrapSq hi, if_neg (by simp only [decide_eq_true_eq]; have := big i (by omega); omega)], by simp; exact ⟨hp, fun j hj hjp => hlow j hj (by
        by_cases h : j < i
        · exact h
        · have := big j (by omega); omega)⟩⟩
    | succ d ih =>
      intro i hd h2 hi hlow
      by_cases hsq : (i : Int) * i ≤ p
      · by_cases hm : p.tmod (i : Int) = 0
        · exact ⟨false, (Ev.const _).succ fun k => by rw [hL, wrapSq hi, if_pos (by simp only [decide_eq_true_eq]; exact hsq), if_neg (by omega), if_pos (by simp only [beq_iff_eq]; exact hm)], by simp; intro hc; exact hc.2 i h2 hsq hm⟩
        · have hi16 : i < 16 := by
            by_cases h : i < 16
            · exact h
            · have := big i (by omega); omega
          obtain ⟨v, hv, hv'⟩ := ih (i + 1) (by omega) (by omega) (by omega) (fun j hj hji => by
            by_cases h : j = i
            · rw [h]; exact hm
            · exact hlow j hj (by omega))
          exact ⟨v, hv.succ fun k => by rw [hL, wrapSq hi, if_pos (by simp only [decide_eq_true_eq]; exact hsq), if_neg (by omega), if_neg (by simp only [beq_iff_eq]; exact hm), wrapN (by omega)], hv'⟩
      · refine ⟨true, (Ev.const _).succ fun k => by rw [hL, wrapSq hi, if_neg (by simp only [decide_eq_true_eq]; exact hsq)], by simp; exact ⟨hp, fun j hj hjp => hlow j hj (by
          by_cases h : j < i
          · exact h
          · exfalso
            have : i * i ≤ j * j := Nat.mul_le_mul (by omega) (by omega)
            have e1 : (i : Int) * (i : Int) = ((i * i : Nat) : Int) := by simp
            have e2 : (j : Int) * (j : Int) = ((j * j : Nat) : Int) := by simp
            omega)⟩⟩
  exact key 16 2 (by omega) (by omega) (by omega) fun j hj hj2 => by omega
theorem spec_l02Prime.val (p : Int) : ∃ v, spec_l02Prime.F (p, ()) = some ((v, ()), ()) ∧ (v = true ↔ PrimeOk p) := by
  by_cases hp : 2 ≤ p ∧ p ≤ 251
  · obtain ⟨v, hv, hv'⟩ := prime_loop (fun k i => spec_l02Prime.l4 k p i) p hp (fun k i => spec_l02Prime.l4_eq k p i)
    exact ⟨v, spec_l02Prime.of _ (hv.of_eq fun k => by rw [spec_l02Prime.T, spec_l00In.val]; simp only [Option.bind_some]; rw [if_neg (by rw [decide_eq_true hp]; simp)]), hv'⟩
  · exact ⟨false, spec_l02Prime.of _ ((Ev.const _).of_eq fun k => by rw [spec_l02Prime.T, spec_l00In.val]; simp only [Option.bind_some]; rw [if_pos (by rw [decide_eq_false hp]; rfl)]), by simp; intro h; exact hp h.1⟩
theorem impl_ValidPrime.val (p : Int) : ∃ v, impl_ValidPrime.F (p, ()) = some ((v, ()), ()) ∧ (v = true ↔ PrimeOk p) := by
  by_cases hp : 2 ≤ p ∧ p ≤ 251
  · obtain ⟨v, hv, hv'⟩ := prime_loop (fun k i => impl_ValidPrime.l4 k p i) p hp (fun k i => impl_ValidPrime.l4_eq k p i)
    exact ⟨v, impl_ValidPrime.of _ (hv.of_eq fun k => by rw [impl_ValidPrime.T, impl_within.val]; simp only [Option.bind_some]; rw [if_neg (by rw [decide_eq_true hp]; simp)]), hv'⟩
  · exact ⟨false, impl_ValidPrime.of _ ((Ev.const _).of_eq fun k => by rw [impl_ValidPrime.T, impl_within.val]; simp only [Option.bind_some]; rw [if_pos (by rw [decide_eq_false hp]; rfl)]), by simp; intro h; exact hp h.1⟩
theorem impl_areElements.val (xs : List Int) (p : Int) (hn : xs.length < 4611686018427387904) : ∃ v, impl_areElements.F (xs, p, ()) = some ((v, ()), ()) ∧ (v = true ↔ AllIn 0 (IntKind.i64.wrap (p - 1)) xs) := by
  rw [impl_areElements.eq, impl_areElements.T, slices_ContainsFunc_Lint64_int64.val xs _ (fun a => !decide (0 ≤ a ∧ a ≤ IntKind.i64.wrap (p - 1))) (fun a _ => by
    show (impl_areElements_1.F (a, p, ())).map (·.1) = _
    rw [impl_areElements_1.eq, impl_areElements_1.T, impl_isElement.eq, impl_isElement.T, impl_within.val]; rfl) hn]
  refine ⟨_, rfl, ?_⟩
  simp only [Bool.not_eq_true', List.any_eq_false, Bool.not_eq_eq_eq_not, Bool.not_true, AllIn]
  simp
def MatOk (m : MatV) : Prop := PrimeOk m.1 ∧ (0 ≤ m.2.1 ∧ m.2.1 ≤ 32) ∧ (0 ≤ m.2.2.1 ∧ m.2.2.1 ≤ 32) ∧ (m.2.2.2.length : Int) = m.2.1 * m.2.2.1 ∧ AllIn 0 (m.1 - 1) m.2.2.2
theorem mul32 {a b : Int} (ha : 0 ≤ a ∧ a ≤ 32) (hb : 0 ≤ b ∧ b ≤ 32) : 0 ≤ a * b ∧ a * b ≤ 1024 := by
  obtain ⟨a, rfl⟩ := Int.eq_ofNat_of_zero_le ha.1
  obtain ⟨b, rfl⟩ := Int.eq_ofNat_of_zero_le hb.1
  have : a * b ≤ 32 * 32 := Nat.mul_le_mul (by omega) (by omega)
  have e : (a : Int) * (b : Int) = ((a * b : Nat) : Int) := by simp
  omega
theorem spec_l03Column.val (xs : List Int) (n p : Int) (hn : xs.length < 4611686018427387904) : ∃ v, spec_l03Column.F (xs, n, p, ()) = some ((v, ()), ()) ∧ (v = true ↔ (xs.length : Int) = n ∧ AllIn 0 (IntKind.i64.wrap (p - 1)) xs) := by
  obtain ⟨v, hv, hv'⟩ := Ev.allP (L := fun k i => spec_l03Column.l2 k xs n p (i : Int)) (a := ()) (b := ()) (n := xs.length) (fun i => 0 ≤ xs.getD i 0 ∧ xs.getD i 0 ≤ IntKind.i64.wrap (p - 1)) ((xs.length : Int) == n) (fun i hi => by
    have E := fun k => spec_l03Column.l2_eq k xs n p (i : Int)
    simp only [if_pos (ltI.2 hi), if_pos (idxI.2 hi), Int.toNat_natCast, spec_l00In.val, Option.bind_some, wrapN (show i < 4611686018427387904 by omega)] at E
    by_cases h : 0 ≤ xs.getD i 0 ∧ xs.getD i 0 ≤ IntKind.i64.wrap (p - 1)
    · exact .inl ⟨h, fun k => by rw [E, if_neg (by rw [decide_eq_true h]; simp)]⟩
    · exact .inr ⟨h, fun k => by rw [E, if_pos (by rw [decide_eq_false h]; rfl)]⟩) ((Ev.const _).succ fun k => by rw [spec_l03Column.l2_eq, if_neg (by simp)]) 0 (Nat.zero_le _)
  refine ⟨v, spec_l03Column.of _ _ _ (hv.of_eq fun k => rfl), hv'.trans ?_⟩
  rw [allIn_iff]
  simp only [beq_iff_eq]
  exact ⟨fun ⟨h1, h2⟩ => ⟨h1, fun i hi => h2 i (Nat.zero_le _) hi⟩, fun ⟨h1, h2⟩ => ⟨h1, fun i _ hi => h2 i hi⟩⟩
theorem spec_l03Ok.val (m : MatV) (hn : m.2.2.2.length < 4611686018427387904) : ∃ v, spec_l03Ok.F (m, ()) = some ((v, ()), ()) ∧ (v = true ↔ MatOk m) := by
  obtain ⟨p, r, c, xs⟩ := m
  obtain ⟨v1, h1, h1'⟩ := spec_l02Prime.val p
  rw [spec_l03Ok.eq, spec_l03Ok.T, spec_ValidPrime.eq, spec_ValidPrime.T, h1]
  simp only [Option.bind_some, spec_l00In.val]
  unfold MatOk
  cases v1 with
  | false => exact ⟨false, by rw [if_neg (by simp)], by simp; intro h; exact absurd (h1'.2 h) (by simp)⟩
  | true =>
    have hp := h1'.1 rfl
    have hpr := hp.1
    by_cases hr : 0 ≤ r ∧ r ≤ 32
    · by_cases hc : 0 ≤ c ∧ c ≤ 32
      · have hm := mul32 hr hc
        obtain ⟨v2, h2, h2'⟩ := spec_l03Column.val xs (IntKind.i64.wrap (r * c)) p hn
        rw [wrapI (x := r * c) (by omega) (by omega), wrapI (x := p - 1) (by omega) (by omega)] at h2'
        refine ⟨v2, by rw [if_pos rfl, if_pos (by simp only [decide_eq_true_eq]; exact hr), if_pos (by simp only [decide_eq_true_eq]; exact hc), h2]; rfl, h2'.trans ?_⟩
        exact ⟨fun h => ⟨hp, hr, hc, h.1, h.2⟩, fun h => ⟨h.2.2.2.1, h.2.2.2.2⟩⟩
      · exact ⟨false, by rw [if_pos rfl, if_pos (by simp only [decide_eq_true_eq]; exact hr), if_neg (by simp only [decide_eq_true_eq]; exact hc)], by simp only [Bool.false_eq_true, false_iff]; exact fun h => hc h.2.2.1⟩
    · exact ⟨false, by rw [if_pos rfl, if_neg (by simp only [decide_eq_true_eq]; exact hr)], by simp only [Bool.false_eq_true, false_iff]; exact fun h => hr h.2.1⟩
theorem impl_ValidMatrix.val (m : MatV) (hn : m.2.2.2.length < 4611686018427387904) : ∃ v, impl_ValidMatrix.F (m, ()) = some ((v, ()), ()) ∧ (v = true ↔ MatOk m) := by
  obtain ⟨p, r, c, xs⟩ := m
  obtain ⟨v1, h1, h1'⟩ := impl_ValidPrime.val p
  rw [impl_ValidMatrix.eq, impl_ValidMatrix.T, h1, impl_isSide.eq, impl_isSide.T, impl_isSide.eq, impl_isSide.T, impl_size_int64.eq, impl_size_int64.T]
  simp only [Option.bind_some, impl_within.val]
  unfold MatOk
  cases v1 with
  | false => exact ⟨false, by rw [if_neg (by simp)], by simp; intro h; exact absurd (h1'.2 h) (by simp)⟩
  | true =>
    have hp := h1'.1 rfl
    have hpr := hp.1
    by_cases hr : 0 ≤ r ∧ r ≤ 32
    · by_cases hc : 0 ≤ c ∧ c ≤ 32
      · have hm := mul32 hr hc
        obtain ⟨v2, h2, h2'⟩ := impl_areElements.val xs p hn
        rw [wrapI (x := p - 1) (by omega) (by omega)] at h2'
        rw [if_pos rfl, if_pos (by simp only [decide_eq_true_eq]; exact hr), if_pos (by simp only [decide_eq_true_eq]; exact hc), wrapI (x := r * c) (by omega) (by omega)]
        by_cases hl : (xs.length : Int) = r * c
        · exact ⟨v2, by rw [if_pos (by simp only [beq_iff_eq]; exact hl), h2]; rfl, h2'.trans ⟨fun h => ⟨hp, hr, hc, hl, h⟩, fun h => h.2.2.2.2⟩⟩
        · exact ⟨false, by rw [if_neg (by simp only [beq_iff_eq]; exact hl)], by simp only [Bool.false_eq_true, false_iff]; exact fun h => hl h.2.2.2.1⟩
      · exact ⟨false, by rw [if_pos rfl, if_pos (by simp only [decide_eq_true_eq]; exact hr), if_neg (by simp only [decide_eq_true_eq]; exact hc)], by simp only [Bool.false_eq_true, false_iff]; exact fun h => hc h.2.2.1⟩
    · exact ⟨false, by rw [if_pos rfl, if_neg (by simp only [decide_eq_true_eq]; exact hr)], by simp only [Bool.false_eq_true, false_iff]; exact fun h => hr h.2.1⟩
def fillL (R C : Nat) (g : Nat → Nat → Int) : List Int := (List.range R).flatMap fun i => (List.range C).map (g i)
theorem fillL_succ (R C : Nat) (g : Nat → Nat → Int) : fillL (R + 1) C g = fillL R C g ++ (List.range C).map (g R) := by simp [fillL, List.range_succ]
theorem fillL_length (R C : Nat) (g : Nat → Nat → Int) : (fillL R C g).length = R * C := by
  induction R with
  | zero => simp [fillL]
  | succ R ih => rw [fillL_succ, List.length_append, ih, List.length_map, List.length_range, Nat.add_mul, Nat.one_mul]
theorem fillL_getD (R C : Nat) (g : Nat → Nat → Int) {i j : Nat} (hi : i < R) (hj : j < C) : (fillL R C g).getD (i * C + j) 0 = g i j := by
  induction R with
  | zero => omega
  | succ R ih =>
    rw [fillL_succ]
    by_cases h : i < R
    · have hlt : i * C + j < (fillL R C g).length := by
        rw [fillL_length]
        have := Nat.mul_le_mul_right C (show i + 1 ≤ R by omega)
        rw [Nat.add_mul, Nat.one_mul] at this; omega
      rw [List.getD_eq_getElem?_getD, List.getElem?_append_left hlt, ← List.getD_eq_getElem?_getD]
      exact ih h
    · obtain rfl : i = R := by omega
      rw [List.getD_eq_getElem?_getD, List.getElem?_append_right (by rw [fillL_length]; omega), fillL_length, show i * C + j - i * C = j by omega, List.getElem?_map, List.getElem?_range hj]
      rfl
theorem fillL_le (R C : Nat) (g : Nat → Nat → Int) (hR : R ≤ 32) (hC : C ≤ 32) : (fillL R C g).length ≤ 1024 := by
  rw [fillL_length]; exact Nat.mul_le_mul hR hC
theorem impl_filled.val (p : Int) (R C : Nat) (f : Int × Int × Unit → Option (Int × Unit)) (g : Nat → Nat → Int) (hR : R ≤ 32) (hC : C ≤ 32) (hf : ∀ i j, i < R → j < C → f ((i : Int), (j : Int), ()) = some (g i j, ())) :
    impl_filled.F (p, (R : Int), (C : Int), f, ()) = some (((p, (R : Int), (C : Int), fillL R C g), ()), ()) := by
  refine impl_filled.of _ _ _ _ ?_
  obtain ⟨s, hs, hg⟩ := Goes.loop (R := ((MatV × Unit) × Unit)) (fun k i (s : List Int) => impl_filled.l3 k (C : Int) f (R : Int) (i : Int) 0 0 0 [] p (R : Int) (C : Int) s) R (fun i s => s = fillL i C g) (fun i s hi h2 => by
    refine ⟨_, rfl, (Goes.succ fun k => by rw [impl_filled.l3_eq, if_pos (ltI.2 hi)]).trans ?_⟩
    obtain ⟨s2, hs2, hg2⟩ := Goes.loop (R := ((MatV × Unit) × Unit)) (fun k j (x : List Int) => impl_filled.l6 k (C : Int) f (i : Int) (R : Int) (i : Int) (C : Int) (j : Int) 0 0 0 [] p (R : Int) (C : Int) x) C (fun j x => x = fillL i C g ++ (List.range j).map (g i)) (fun j x hj h3 => ⟨_, rfl, Goes.succ fun k => by
      rw [impl_filled.l6_eq, if_pos (ltI.2 hj), hf i j hi hj]
      simp only [Option.bind_some]
      have := fillL_le i C g (by omega) hC
      rw [if_pos (by rw [h3]; simp only [List.length_append, List.length_map, List.length_range, List.length_cons, List.length_nil, bigA]; omega), wrapN (by omega), h3, List.range_succ, List.map_append, List.append_assoc]
      rfl⟩) 0 s (Nat.zero_le _) (by simp [h2])
    refine hg2.trans (Goes.succ fun k => ?_)
    rw [impl_filled.l6_eq, if_neg (by simp), wrapN (by omega), hs2, fillL_succ]) 0 [] (Nat.zero_le _) rfl
  refine Ev.of_eq (hg _ ((Ev.const _).succ fun k => ?_)) fun k => rfl
  rw [impl_filled.l3_eq, if_neg (by simp), hs]
def turnM (m : MatV) : MatV := (m.1, m.2.2.1, m.2.1, fillL m.2.2.1.toNat m.2.1.toNat fun i j => m.2.2.2.getD (j * m.2.2.1.toNat + i) 0)
theorem cellIdx {r c i j : Nat} (hr : r ≤ 32) (hc : c ≤ 32) (hi : i < r) (hj : j < c) : IntKind.i64.wrap (IntKind.i64.wrap ((i : Int) * (c : Int)) + (j : Int)) = ((i * c + j : Nat) : Int) ∧ i * c + j < r * c := by
  have h1 : i * c ≤ 32 * 32 := Nat.mul_le_mul (by omega) hc
  have e : (i : Int) * (c : Int) = ((i * c : Nat) : Int) := by simp
  have h2 := Nat.mul_le_mul_right c (show i + 1 ≤ r by omega)
  rw [Nat.add_mul, Nat.one_mul] at h2
  refine ⟨?_, by omega⟩
  rw [e, wrapI (x := ((i * c : Nat) : Int)) (by omega) (by omega), wrapI (by omega) (by omega)]
  omega
theorem impl_transpose.val (m : MatV) (h : MatOk m) : impl_transpose.F (m, ()) = some ((turnM m, ()), ()) := by
  obtain ⟨p, r, c, xs⟩ := m
  obtain ⟨-, hr, hc, hl, -⟩ := h
  obtain ⟨r, rfl⟩ := Int.eq_ofNat_of_zero_le hr.1
  obtain ⟨c, rfl⟩ := Int.eq_ofNat_of_zero_le hc.1
  have hl' : xs.length = r * c := by
    have e : (r : Int) * (c : Int) = ((r * c : Nat) : Int) := by simp
    have hl2 : (xs.length : Int) = (r : Int) * (c : Int) := hl
    omega
  have hr' : r ≤ 32 := by have := hr.2; simp only [] at this; omega
  have hc' : c ≤ 32 := by have := hc.2; simp only [] at this; omega
  rw [impl_transpose.eq, impl_transpose.T, impl_filled.val p c r _ (fun i j => xs.getD (j * c + i) 0) hc' hr' (fun i j hi hj => by
    show (impl_transpose_1.F ((i : Int), (j : Int), (p, (r : Int), (c : Int), xs), ())).map (·.1) = _
    obtain ⟨e1, e2⟩ := cellIdx hr' hc' hj hi
    rw [impl_transpose_1.eq, impl_transpose_1.T, impl_Matrix_at.eq, impl_Matrix_at.T, e1, if_pos (by omega)]
    simp only [Option.bind_some, Int.toNat_natCast]
    rfl)]
  rfl
theorem turnM_ok {m : MatV} (h : MatOk m) : MatOk (turnM m) := by
  obtain ⟨p, r, c, xs⟩ := m
  obtain ⟨hp, hr, hc, hl, ha⟩ := h
  obtain ⟨r, rfl⟩ := Int.eq_ofNat_of_zero_le hr.1
  obtain ⟨c, rfl⟩ := Int.eq_ofNat_of_zero_le hc.1
  refine ⟨hp, hc, hr, ?_, ?_⟩
  · show ((fillL c r _).length : Int) = (c : Int) * (r : Int)
    rw [fillL_length]; simp
  · intro a ham
    simp only [turnM, fillL, List.mem_flatMap, List.mem_map, List.mem_range, Int.toNat_natCast] at ham
    obtain ⟨i, hi, j, hj, rfl⟩ := ham
    have hr' : r ≤ 32 := by have := hr.2; simp only [] at this; omega
    have hc' : c ≤ 32 := by have := hc.2; simp only [] at this; omega
    obtain ⟨-, e2⟩ := cellIdx hr' hc' hj hi
    have hl2 : (xs.length : Int) = (r : Int) * (c : Int) := hl
    have e : (r : Int) * (c : Int) = ((r * c : Nat) : Int) := by simp
    have hl3 : xs.length = r * c := by rw [e] at hl2; exact Int.ofNat_inj.1 hl2
    exact ha _ (getD_mem 0 (by rw [hl3]; exact e2))
theorem fillL_eq {R C : Nat} {g : Nat → Nat → Int} {ys : List Int} (hl : ys.length = R * C) (h : ∀ i j, i < R → j < C → ys.getD (i * C + j) 0 = g i j) : ys = fillL R C g := by
  refine List.ext_getElem (by rw [hl, fillL_length]) fun n h1 h2 => ?_
  rw [← getD_eq (d := 0) h1, ← getD_eq (d := 0) h2]
  by_cases hC : C = 0
  · subst hC; rw [hl] at h1; omega
  have hn : n < R * C := by omega
  have hi : n / C < R := Nat.div_lt_of_lt_mul (by rw [Nat.mul_comm]; exact hn)
  have hj : n % C < C := Nat.mod_lt _ (by omega)
  have e : n / C * C + n % C = n := by rw [Nat.mul_comm]; exact Nat.div_add_mod n C
  rw [← e, h _ _ hi hj, fillL_getD _ _ _ hi hj]
def sumN (f : Nat → Int) : Nat → Int
  | 0 => 0
  | n + 1 => sumN f n + f n
theorem sumN_bd {f : Nat → Int} {n : Nat} {B : Nat} (h : ∀ k, k < n → 0 ≤ f k ∧ f k ≤ (B : Int)) : 0 ≤ sumN f n ∧ sumN f n ≤ ((n * B : Nat) : Int) := by
  induction n with
  | zero => simp [sumN]
  | succ n ih =>
    have h1 := ih fun k hk => h k (by omega)
    have h2 := h n (by omega)
    rw [Nat.add_mul, Nat.one_mul]
    simp only [sumN]; omega
theorem sumN_congr {f g : Nat → Int} {n : Nat} (h : ∀ k, k < n → f k = g k) : sumN f n = sumN g n := by
  induction n with
  | zero => rfl
  | succ n ih => simp only [sumN]; rw [ih fun k hk => h k (by omega), h n (by omega)]
theorem el_mul {p a b : Int} (hp : 2 ≤ p ∧ p ≤ 251) (ha : 0 ≤ a ∧ a ≤ p - 1) (hb : 0 ≤ b ∧ b ≤ p - 1) : 0 ≤ a * b ∧ a * b ≤ ((62500 : Nat) : Int) := by
  obtain ⟨a, rfl⟩ := Int.eq_ofNat_of_zero_le ha.1
  obtain ⟨b, rfl⟩ := Int.eq_ofNat_of_zero_le hb.1
  have : a * b ≤ 250 * 250 := Nat.mul_le_mul (by omega) (by omega)
  have e : (a : Int) * (b : Int) = ((a * b : Nat) : Int) := by simp
  omega
theorem tmodE {a p : Int} (h : 0 ≤ a) : a.tmod p = a % p := Int.tmod_eq_emod_of_nonneg h
theorem modEl {a p : Int} (hp : 2 ≤ p) : 0 ≤ a % p ∧ a % p ≤ p - 1 := by
  have h1 := Int.emod_nonneg a (show p ≠ 0 by omega)
  have h2 := Int.emod_lt_of_pos a (show 0 < p by omega)
  omega
theorem allIn_getD {lo hi : Int} {xs : List Int} (h : AllIn lo hi xs) {i : Nat} (hi' : i < xs.length) : lo ≤ xs.getD i 0 ∧ xs.getD i 0 ≤ hi := allIn_iff.1 h i hi'
def dotE (xs ys : List Int) (k : Nat) : Int := xs.getD k 0 * ys.getD k 0
theorem impl_dot.val (xs ys : List Int) (p : Int) (hp : 2 ≤ p ∧ p ≤ 251) (hx : AllIn 0 (p - 1) xs) (hy : AllIn 0 (p - 1) ys) (hl : xs.length ≤ ys.length) (hn : xs.length ≤ 1048576) :
    impl_dot.F (xs, ys, p, ()) = some ((sumN (dotE xs ys) xs.length % p, ()), ()) := by
  refine impl_dot.of _ _ _ ?_
  obtain ⟨s, hs, hg⟩ := Goes.loop (R := ((Int × Unit) × Unit)) (fun k i (s : Int) => impl_dot.l3 k xs ys p s (xs.length : Int) (i : Int)) xs.length (fun i s => s = sumN (dotE xs ys) i % p) (fun i s hi h2 => ⟨_, rfl, Goes.succ fun k => by
    have hm := el_mul hp (allIn_getD hx hi) (allIn_getD hy (show i < ys.length by omega))
    have hme := modEl (a := sumN (dotE xs ys) i) hp.1
    rw [impl_dot.l3_eq, if_pos (ltI.2 hi), if_pos (idxI.2 hi), if_pos (idxI.2 (show i < ys.length by omega)), if_neg (by omega), wrapN (by omega), h2]
    simp only [Int.toNat_natCast]
    rw [wrapI (x := xs.getD i 0 * ys.getD i 0) (by omega) (by omega), wrapI (by omega) (by omega), tmodE (by omega), Int.emod_add_emod]
    rfl⟩) 0 0 (Nat.zero_le _) (by simp [sumN])
  refine Ev.of_eq (hg _ ((Ev.const _).succ fun k => ?_)) fun k => rfl
  rw [impl_dot.l3_eq, if_neg (by simp), hs]
theorem Goes.fillSet {R : Type} (L3 : Nat → Nat → List Int → Option R) (L6 : Nat → Nat → Nat → List Int → Option R) (M N Z : Nat) (g : Nat → Nat → Int) (pos : Nat → Nat → Nat)
    (hpos : ∀ i j, i < M → j < N → pos i j < Z) (inj : ∀ i j i' j', i < M → j < N → i' < M → j' < N → pos i j = pos i' j' → i = i' ∧ j = j')
    (hin : ∀ i x, i < M → x.length = Z → Goes (fun k => L3 k i x) (fun k => L6 k i 0 x))
    (hstep : ∀ i j x, i < M → j < N → x.length = Z → Goes (fun k => L6 k i j x) (fun k => L6 k i (j + 1) (x.set (pos i j) (g i j))))
    (hout : ∀ i x, i < M → x.length = Z → Goes (fun k => L6 k i N x) (fun k => L3 k (i + 1) x)) (x0 : List Int) (h0 : x0.length = Z) :
    ∃ y, y.length = Z ∧ (∀ i j, i < M → j < N → y.getD (pos i j) 0 = g i j) ∧ (∀ q, (∀ i j, i < M → j < N → pos i j ≠ q) → y.getD q 0 = x0.getD q 0) ∧ Goes (fun k => L3 k 0 x0) (fun k => L3 k M y) := by
  have gs : ∀ (l : List Int) (q : Nat) (v : Int) (s : Nat), q < l.length → (l.set q v).getD s 0 = if s = q then v else l.getD s 0 := fun l q v s hq => by
    simp only [List.getD_eq_getElem?_getD, List.getElem?_set]
    by_cases hqs : q = s
    · subst hqs; simp [hq]
    · simp [hqs, Ne.symm hqs]
  obtain ⟨y, ⟨h1, h2, h3⟩, hg⟩ := Goes.loop (R := R) (fun k i x => L3 k i x) M (fun i x => x.length = Z ∧ (∀ a b, a < i → b < N → x.getD (pos a b) 0 = g a b) ∧ ∀ q, (∀ a b, a < M → b < N → pos a b ≠ q) → x.getD q 0 = x0.getD q 0) (fun i x hi ⟨h1, h2, h3⟩ => by
    obtain ⟨x', ⟨h4, h5, h6, h7⟩, hg2⟩ := Goes.loop (R := R) (fun k j x => L6 k i j x) N (fun j x => x.length = Z ∧ (∀ a b, a < i → b < N → x.getD (pos a b) 0 = g a b) ∧ (∀ b, b < j → x.getD (pos i b) 0 = g i b) ∧ ∀ q, (∀ a b, a < M → b < N → pos a b ≠ q) → x.getD q 0 = x0.getD q 0) (fun j x hj ⟨k1, k2, k3, k4⟩ => by
      have hp := hpos i j hi hj
      refine ⟨_, ⟨by simp [k1], fun a b ha hb => ?_, fun b hb => ?_, fun q hq => ?_⟩, hstep i j x hi hj k1⟩
      · rw [gs _ _ _ _ (by omega), if_neg (fun he => by have := (inj _ _ _ _ (by omega) hb hi hj he).1; omega)]; exact k2 a b ha hb
      · rw [gs _ _ _ _ (by omega)]
        by_cases hbj : b = j
        · rw [if_pos (by rw [hbj]), hbj]
        · rw [if_neg (fun he => hbj (inj _ _ _ _ hi (by omega) hi hj he).2)]; exact k3 b (by omega)
      · rw [gs _ _ _ _ (by omega), if_neg (fun he => hq i j hi hj he.symm)]; exact k4 q hq) 0 x (Nat.zero_le _) ⟨h1, h2, fun b hb => by omega, h3⟩
    refine ⟨x', ⟨h4, fun a b ha hb => ?_, h7⟩, ((hin i x hi h1).trans hg2).trans (hout i x' hi h4)⟩
    by_cases hai : a = i
    · rw [hai]; exact h6 b hb
    · exact h5 a b (by omega) hb) 0 x0 (Nat.zero_le _) ⟨h0, fun a b ha => by omega, fun _ _ => rfl⟩
  exact ⟨y, h1, h2, h3, hg⟩
theorem rowInj {C : Nat} (a b a' b' : Nat) (hb : b < C) (hb' : b' < C) (he : a * C + b = a' * C + b') : a = a' ∧ b = b' := by
  have h1 : (a * C + b) / C = a := by rw [Nat.mul_comm, Nat.mul_add_div (by omega), Nat.div_eq_of_lt hb]; omega
  have h2 : (a' * C + b') / C = a' := by rw [Nat.mul_comm, Nat.mul_add_div (by omega), Nat.div_eq_of_lt hb']; omega
  have h3 : a = a' := by rw [← h1, ← h2, he]
  subst h3
  exact ⟨rfl, by omega⟩
theorem rowLt {R C i j : Nat} (hi : i < R) (hj : j < C) : i * C + j < R * C := by
  have h2 := Nat.mul_le_mul_right C (show i + 1 ≤ R by omega)
  rw [Nat.add_mul, Nat.one_mul] at h2
  omega
theorem MatOk.nat {m : MatV} (h : MatOk m) : ∃ R C : Nat, m.2.1 = (R : Int) ∧ m.2.2.1 = (C : Int) ∧ R ≤ 32 ∧ C ≤ 32 ∧ m.2.2.2.length = R * C ∧ (2 ≤ m.1 ∧ m.1 ≤ 251) ∧ AllIn 0 (m.1 - 1) m.2.2.2 := by
  obtain ⟨p, r, c, xs⟩ := m
  obtain ⟨hp, hr, hc, hl, ha⟩ := h
  obtain ⟨r, rfl⟩ := Int.eq_ofNat_of_zero_le hr.1
  obtain ⟨c, rfl⟩ := Int.eq_ofNat_of_zero_le hc.1
  have hl2 : (xs.length : Int) = (r : Int) * (c : Int) := hl
  have e : (r : Int) * (c : Int) = ((r * c : Nat) : Int) := by simp
  have hr2 : (r : Int) ≤ 32 := hr.2
  have hc2 : (c : Int) ≤ 32 := hc.2
  exact ⟨r, c, rfl, rfl, by omega, by omega, by rw [e] at hl2; exact Int.ofNat_inj.1 hl2, hp.1, ha⟩
def rowL (xs : List Int) (C i : Nat) : List Int := (xs.take ((i + 1) * C)).drop (i * C)
theorem rowL_length {xs : List Int} {R C i : Nat} (hl : xs.length = R * C) (hi : i < R) : (rowL xs C i).length = C := by
  have h2 := Nat.mul_le_mul_right C (show i + 1 ≤ R by omega)
  have e : (i + 1) * C = i * C + C := by rw [Nat.add_mul, Nat.one_mul]
  simp only [rowL, List.length_drop, List.length_take]
  omega
theorem rowL_getD {xs : List Int} {C i k : Nat} (hk : k < C) : (rowL xs C i).getD k 0 = xs.getD (i * C + k) 0 := by
  have e : (i + 1) * C = i * C + C := by rw [Nat.add_mul, Nat.one_mul]
  simp only [rowL, List.getD_eq_getElem?_getD, List.getElem?_drop, List.getElem?_take]
  rw [if_pos (by omega)]
theorem rowL_mem {xs : List Int} {C i : Nat} {x : Int} (h : x ∈ rowL xs C i) : x ∈ xs := List.mem_of_mem_take (List.mem_of_mem_drop h)
theorem rowWrap {R C i : Nat} (hR : R ≤ 1024) (hC : C ≤ 1024) (hi : i < R) : IntKind.i64.wrap ((i : Int) * (C : Int)) = ((i * C : Nat) : Int) ∧ IntKind.i64.wrap ((IntKind.i64.wrap ((i : Int) + 1)) * (C : Int)) = (((i + 1) * C : Nat) : Int) ∧ i * C ≤ (i + 1) * C ∧ (i + 1) * C ≤ R * C := by
  have h1 : (i + 1) * C ≤ 1024 * 1024 := Nat.mul_le_mul (by omega) hC
  have h0 : i * C ≤ (i + 1) * C := Nat.mul_le_mul_right C (by omega)
  have e : (i : Int) * (C : Int) = ((i * C : Nat) : Int) := by simp
  have e2 : ((i + 1 : Nat) : Int) * (C : Int) = (((i + 1) * C : Nat) : Int) := by simp
  refine ⟨?_, ?_, h0, Nat.mul_le_mul_right C (by omega)⟩
  · rw [e, wrapI (by omega) (by omega)]
  · rw [wrapN (by omega), e2, wrapI (by omega) (by omega)]
theorem impl_Matrix_row.val (p : Int) (R C : Nat) (xs : List Int) (hR : R ≤ 1024) (hC : C ≤ 1024) (hl : xs.length = R * C) (i : Nat) (hi : i < R) (r : Int) : impl_Matrix_row.F ((p, r, (C : Int), xs), (i : Int), ()) = some ((rowL xs C i, ()), ()) := by
  obtain ⟨e1, e2, e3, e4⟩ := rowWrap hR hC hi
  rw [impl_Matrix_row.eq, impl_Matrix_row.T, e1, e2, if_pos (by omega)]
  simp only [cutL, Int.toNat_natCast, rowL]
def rowsL (xs : List Int) (R C : Nat) : List (List Int) := (List.range R).map (rowL xs C)
theorem impl_rowsOf.val (p : Int) (R C : Nat) (xs : List Int) (hR : R ≤ 1024) (hC : C ≤ 1024) (hl : xs.length = R * C) : impl_rowsOf.F ((p, (R : Int), (C : Int), xs), ()) = some ((rowsL xs R C, ()), ()) := by
  refine impl_rowsOf.of _ _ _ _ ?_
  obtain ⟨s, hs, hg⟩ := Goes.loop (R := ((List (List Int) × Unit) × Unit)) (fun k i (s : List (List Int)) => impl_rowsOf.l3 k (R : Int) (i : Int) p (R : Int) (C : Int) xs s) R (fun i s => s = (List.range i).map (rowL xs C)) (fun i s hi h2 => ⟨_, rfl, Goes.succ fun k => by
    have hrl := rowL_length hl hi
    rw [impl_rowsOf.l3_eq, if_pos (ltI.2 hi), impl_Matrix_row.val p R C xs hR hC hl i hi]
    simp only [Option.bind_some]
    rw [slices_Clone_Lint64_int64.val _ (by omega)]
    simp only [Option.bind_some]
    rw [if_pos (by rw [h2]; simp only [List.length_map, List.length_range, List.length_cons, List.length_nil, bigA]; omega), wrapN (by omega), h2, List.range_succ, List.map_append]
    rfl⟩) 0 [] (Nat.zero_le _) rfl
  refine Ev.of_eq (hg _ ((Ev.const _).succ fun k => ?_)) fun k => rfl
  rw [impl_rowsOf.l3_eq, if_neg (by simp), hs]; rfl
theorem rowsL_getD (xs : List Int) {R C i : Nat} (hi : i < R) : (rowsL xs R C).getD i [] = rowL xs C i := by
  simp [rowsL, List.getD_eq_getElem?_getD, hi]
theorem rowsL_length (xs : List Int) (R C : Nat) : (rowsL xs R C).length = R := by simp [rowsL]
def mulM (a b : MatV) : MatV := (a.1, a.2.1, b.2.2.1, fillL a.2.1.toNat b.2.2.1.toNat fun i j => sumN (fun k => a.2.2.2.getD (i * a.2.2.1.toNat + k) 0 * b.2.2.2.getD (k * b.2.2.1.toNat + j) 0) a.2.2.1.toNat % a.1)
theorem mulM_ok {a b : MatV} (ha : MatOk a) (hb : MatOk b) : MatOk (mulM a b) := by
  obtain ⟨R, C, h1, h2, h3, h4, h5, h6, h7⟩ := ha.nat
  obtain ⟨R', C', k1, k2, k3, k4, k5, k6, k7⟩ := hb.nat
  refine ⟨ha.1, ha.2.1, hb.2.2.1, ?_, fun x hx => ?_⟩
  · simp only [mulM, fillL_length, h1, k2, Int.toNat_natCast]; simp
  · simp only [mulM, fillL, List.mem_flatMap, List.mem_map] at hx
    obtain ⟨i, _, j, _, rfl⟩ := hx
    exact modEl h6.1
theorem impl_columnsOf.val (p : Int) (R C : Nat) (xs : List Int) (hm : MatOk (p, (R : Int), (C : Int), xs)) : impl_columnsOf.F ((p, (R : Int), (C : Int), xs), ()) = some ((rowsL (turnM (p, (R : Int), (C : Int), xs)).2.2.2 C R, ()), ()) := by
  have hR : (R : Int) ≤ 32 := hm.2.1.2
  have hC : (C : Int) ≤ 32 := hm.2.2.1.2
  have ht := impl_transpose.val _ hm
  rw [impl_columnsOf.eq, impl_columnsOf.T, ht]
  simp only [Option.bind_some]
  have := impl_rowsOf.val p C R (turnM (p, (R : Int), (C : Int), xs)).2.2.2 (by omega) (by omega) (by simp only [turnM, fillL_length, Int.toNat_natCast])
  rw [show turnM (p, (R : Int), (C : Int), xs) = (p, (C : Int), (R : Int), (turnM (p, (R : Int), (C : Int), xs)).2.2.2) from rfl, this]
  rfl
theorem turn_getD (p : Int) (R C : Nat) (xs : List Int) {i j : Nat} (hi : i < C) (hj : j < R) : (turnM (p, (R : Int), (C : Int), xs)).2.2.2.getD (i * R + j) 0 = xs.getD (j * C + i) 0 := by
  simp only [turnM, Int.toNat_natCast]
  rw [fillL_getD _ _ _ hi hj]
theorem impl_product.val (a b : MatV) (ha : MatOk a) (hb : MatOk b) (hp : a.1 = b.1) (hs : a.2.2.1 = b.2.1) : impl_product.F (a, b, ()) = some ((mulM a b, ()), ()) := by
  obtain ⟨R, C, h1, h2, h3, h4, h5, h6, h7⟩ := ha.nat
  obtain ⟨R', C', k1, k2, k3, k4, k5, k6, k7⟩ := hb.nat
  obtain ⟨p, r, c, xs⟩ := a
  obtain ⟨q, r', c', ys⟩ := b
  simp only [] at h1 h2 h5 h6 h7 k1 k2 k5 k6 k7 hp hs
  subst h1 h2 k1 k2 hp
  obtain rfl : C = R' := by omega
  have htk := turnM_ok hb
  have hal : AllIn 0 (p - 1) (turnM (p, (C : Int), (C' : Int), ys)).2.2.2 := htk.2.2.2.2
  rw [impl_product.eq, impl_product.T, impl_columnsOf.val p C C' ys hb]
  simp only [Option.bind_some]
  rw [impl_filled.val p R C' _ (fun i j => sumN (fun k => xs.getD (i * C + k) 0 * ys.getD (k * C' + j) 0) C % p) h3 k4 (fun i j hi hj => by
    show (impl_product_1.F ((i : Int), (j : Int), (p, (R : Int), (C : Int), xs), rowsL (turnM (p, (C : Int), (C' : Int), ys)).2.2.2 C' C, ())).map (·.1) = _
    have l1 := rowL_length h5 hi
    have l2 : (rowL (turnM (p, (C : Int), (C' : Int), ys)).2.2.2 C j).length = C := rowL_length (R := C') (by simp only [turnM, fillL_length, Int.toNat_natCast]) hj
    rw [impl_product_1.eq, impl_product_1.T, impl_Matrix_row.val p R C xs (by omega) (by omega) h5 i hi]
    simp only [Option.bind_some, Int.toNat_natCast]
    rw [if_pos (by rw [rowsL_length]; omega), rowsL_getD _ hj, impl_dot.val _ _ p h6 (fun x hx => h7 x (rowL_mem hx)) (fun x hx => hal x (rowL_mem hx)) (by omega) (by omega)]
    simp only [Option.bind_some, Option.map_some, l1]
    congr 3
    refine sumN_congr fun k hk => ?_
    rw [dotE, rowL_getD hk, rowL_getD hk, turn_getD p C C' ys hj hk])]
  simp only [Option.bind_some, mulM, Int.toNat_natCast]
theorem spec_l03Zero.val (p : Int) (R C : Nat) (hR : R ≤ 1024) (hC : C ≤ 1024) : spec_l03Zero.F (p, (R : Int), (C : Int), ()) = some (((p, (R : Int), (C : Int), List.replicate (R * C) 0), ()), ()) := by
  have h1 : R * C ≤ 1024 * 1024 := Nat.mul_le_mul hR hC
  have e : (R : Int) * (C : Int) = ((R * C : Nat) : Int) := by simp
  rw [spec_l03Zero.eq, spec_l03Zero.T, e, wrapI (by omega) (by omega), if_pos (by simp only [bigN]; omega)]
  simp only [Int.toNat_natCast]
theorem spec_l03Times.val (a b : MatV) (ha : MatOk a) (hb : MatOk b) (hp : a.1 = b.1) (hs : a.2.2.1 = b.2.1) : spec_l03Times.F (a, b, ()) = some ((mulM a b, ()), ()) := by
  obtain ⟨R, C, h1, h2, h3, h4, h5, h6, h7⟩ := ha.nat
  obtain ⟨R', C', k1, k2, k3, k4, k5, k6, k7⟩ := hb.nat
  obtain ⟨p, r, c, xs⟩ := a
  obtain ⟨q, r', c', ys⟩ := b
  simp only [] at h1 h2 h5 h6 h7 k1 k2 k5 k6 k7 hp hs
  subst h1 h2 k1 k2 hp
  obtain rfl : C = R' := by omega
  obtain ⟨f, hf⟩ : ∃ f : Nat → Nat → Nat → Int, f = fun i j k => xs.getD (i * C + k) 0 * ys.getD (k * C' + j) 0 := ⟨_, rfl⟩
  have hfb : ∀ i j k, i < R → j < C' → k < C → 0 ≤ f i j k ∧ f i j k ≤ ((62500 : Nat) : Int) := fun i j k hi hj hk => by
    rw [hf]
    have e1 := rowLt hi hk
    have e2 := rowLt hk hj
    exact el_mul h6 (allIn_getD h7 (by omega)) (allIn_getD k7 (by omega))
  have hsb : ∀ i j n, i < R → j < C' → n ≤ C → 0 ≤ sumN (f i j) n ∧ sumN (f i j) n ≤ 2000000 := fun i j n hi hj hn => by
    have := sumN_bd (f := f i j) (n := n) fun k hk => hfb i j k hi hj (by omega)
    omega
  obtain ⟨y, hy1, hy2, -, hg⟩ := Goes.fillSet (R := ((MatV × Unit) × Unit)) (fun k i x => spec_l03Times.l3 k p (R : Int) (C : Int) xs p (C : Int) (C' : Int) ys (i : Int) 0 0 0 [] p (R : Int) (C' : Int) x)
    (fun k i j x => spec_l03Times.l6 k p (R : Int) (C : Int) xs p (C : Int) (C' : Int) ys (i : Int) (j : Int) 0 0 0 [] p (R : Int) (C' : Int) x) R C' (R * C') (fun i j => sumN (f i j) C % p) (fun i j => i * C' + j)
    (fun i j hi hj => rowLt hi hj) (fun i j i' j' _ hj _ hj' he => rowInj _ _ _ _ hj hj' he)
    (fun i x hi hx => Goes.succ fun k => by rw [spec_l03Times.l3_eq, if_pos (ltI.2 hi)]; rfl)
    (fun i j x hi hj hx => by
      refine (Goes.succ fun k => by rw [spec_l03Times.l6_eq, if_pos (ltI.2 hj)]).trans ?_
      obtain ⟨s, hs, hg⟩ := Goes.loop (R := ((MatV × Unit) × Unit)) (fun n k (s : Int) => spec_l03Times.l10 n p (R : Int) (C : Int) xs p (C : Int) (C' : Int) ys (i : Int) (j : Int) s (k : Int) 0 0 0 [] p (R : Int) (C' : Int) x) C (fun k s => s = sumN (f i j) k) (fun k s hk h8 => ⟨_, rfl, Goes.succ fun n => by
        obtain ⟨e1, e2⟩ := cellIdx h3 h4 hi hk
        obtain ⟨e3, e4⟩ := cellIdx h4 k4 hk hj
        have b1 := hfb i j k hi hj hk
        have b2 := hsb i j k hi hj (by omega)
        rw [spec_l03Times.l10_eq, if_pos (ltI.2 hk), e1, if_pos (by omega), e3, if_pos (by omega), wrapN (by omega), h8]
        simp only [Int.toNat_natCast]
        have ef : xs.getD (i * C + k) 0 * ys.getD (k * C' + j) 0 = f i j k := by rw [hf]
        rw [ef, wrapI (x := f i j k) (by omega) (by omega), wrapI (by omega) (by omega)]
        rfl⟩) 0 0 (Nat.zero_le _) rfl
      refine hg.trans (Goes.succ fun n => ?_)
      obtain ⟨e5, e6⟩ := cellIdx h3 k4 hi hj
      have b2 := hsb i j C hi hj (Nat.le_refl _)
      rw [spec_l03Times.l10_eq, if_neg (by simp), if_neg (by omega), e5, if_pos (by omega), wrapN (by omega), hs, tmodE b2.1]
      simp only [Int.toNat_natCast])
    (fun i x hi hx => Goes.succ fun k => by rw [spec_l03Times.l6_eq, if_neg (by simp), wrapN (by omega)]) (List.replicate (R * C') 0) (by simp)
  have hy : y = fillL R C' fun i j => sumN (fun k => xs.getD (i * C + k) 0 * ys.getD (k * C' + j) 0) C % p := fillL_eq hy1 fun i j hi hj => by rw [hy2 i j hi hj, hf]
  refine spec_l03Times.of _ _ _ _ _ _ _ _ (Ev.of_eq (hg _ ((Ev.const _).succ fun k => ?_)) fun k => ?_)
  · rw [spec_l03Times.l3_eq, if_neg (by simp), hy]; simp only [mulM, Int.toNat_natCast]
  · rw [spec_l03Times.T, spec_l03Zero.val p R C' (by omega) (by omega)]; rfl
def unitM (p : Int) (n : Nat) : MatV := (p, (n : Int), (n : Int), fillL n n fun i j => if i = j then 1 else 0)
theorem impl_unit.val (p : Int) (n : Nat) (hn : n ≤ 3) : impl_unit.F (p, (n : Int), ()) = some ((unitM p n, ()), ()) := by
  rw [impl_unit.eq, impl_unit.T, impl_filled.val p n n _ (fun i j => if i = j then 1 else 0) (by omega) (by omega) (fun i j _ _ => ?_)]
  · rfl
  · show (impl_unit_1.F ((i : Int), (j : Int), ())).map (·.1) = _
    rw [impl_unit_1.eq, impl_unit_1.T]
    by_cases h : i = j
    · rw [if_pos (by simp [h]), if_pos h]; rfl
    · rw [if_neg (by simp; omega), if_neg h]; rfl
theorem spec_l03Unit.val (p : Int) (n : Nat) (hn : n ≤ 3) : spec_l03Unit.F (p, (n : Int), ()) = some ((unitM p n, ()), ()) := by
  have z := spec_l03Zero.val p n n (by omega) (by omega)
  have hw : ∀ i : Nat, i < n → IntKind.i64.wrap (IntKind.i64.wrap ((i : Int) * (n : Int)) + (i : Int)) = ((i * n + i : Nat) : Int) := fun i hi => (cellIdx (r := n) (c := n) (by omega) (by omega) hi hi).1
  refine spec_l03Unit.of _ _ ?_
  obtain ⟨s, ⟨h1, h2⟩, hg⟩ := Goes.loop (R := ((MatV × Unit) × Unit)) (fun k i (s : List Int) => spec_l03Unit.l3 k (n : Int) (i : Int) 0 0 0 [] p (n : Int) (n : Int) s) n (fun i s => s.length = n * n ∧ ∀ a b, a < n → b < n → s.getD (a * n + b) 0 = if a = b ∧ a < i then 1 else 0) (fun i s hi ⟨h1, h2⟩ => by
    have hb : i * n + i < n * n := (cellIdx (r := n) (c := n) (by omega) (by omega) hi hi).2
    refine ⟨s.set (i * n + i) 1, ⟨by simp [h1], fun a b ha hb' => ?_⟩, Goes.succ fun k => ?_⟩
    · by_cases e : i * n + i = a * n + b
      · have hab : a = i ∧ b = i := by
          have h3 : (i * n + i) / n = i := by rw [Nat.mul_comm, Nat.mul_add_div (by omega), Nat.div_eq_of_lt hi]; rfl
          have h4 : (a * n + b) / n = a := by rw [Nat.mul_comm, Nat.mul_add_div (by omega), Nat.div_eq_of_lt hb']; rfl
          have : a = i := by rw [← h4, ← e, h3]
          subst this
          exact ⟨rfl, by omega⟩
        rw [← e, List.getD_eq_getElem?_getD, List.getElem?_set_self (by omega), if_pos ⟨by omega, by omega⟩]; rfl
      · rw [List.getD_eq_getElem?_getD, List.getElem?_set_ne e, ← List.getD_eq_getElem?_getD, h2 a b ha hb']
        have : ¬ (a = i ∧ b = i) := fun hh => e (by rw [hh.1, hh.2])
        by_cases q : a = b ∧ a < i
        · rw [if_pos q, if_pos ⟨q.1, by omega⟩]
        · rw [if_neg q, if_neg (by omega)]
    · rw [spec_l03Unit.l3_eq, if_pos (ltI.2 hi), hw i hi, if_pos (idxI.2 (by omega)), wrapN (by omega)]; rfl) 0 (List.replicate (n * n) 0) (Nat.zero_le _) ⟨by simp, fun a b ha hb => by
      rw [if_neg (by omega), List.getD_eq_getElem?_getD]
      simp only [List.getElem?_replicate]; split <;> rfl⟩
  refine Ev.of_eq (hg _ ((Ev.const _).succ fun k => ?_)) fun k => ?_
  · rw [spec_l03Unit.l3_eq, if_neg (by simp)]
    have : s = fillL n n fun i j => if i = j then 1 else 0 := fillL_eq h1 fun i j hi hj => by
      rw [h2 i j hi hj]
      by_cases e : i = j
      · rw [if_pos ⟨e, hi⟩, if_pos e]
      · rw [if_neg (fun hh => e hh.1), if_neg e]
    rw [this]; rfl
  · rw [spec_l03Unit.T, z]; rfl
theorem unitM_ok {p : Int} (hp : PrimeOk p) {n : Nat} (hn : n ≤ 3) : MatOk (unitM p n) := by
  refine ⟨hp, ⟨by simp [unitM], by simp [unitM]; omega⟩, ⟨by simp [unitM], by simp [unitM]; omega⟩, by simp [unitM, fillL_length], fun x hx => ?_⟩
  have h2 := hp.1.1
  simp only [unitM, fillL, List.mem_flatMap, List.mem_map] at hx
  obtain ⟨i, -, j, -, rfl⟩ := hx
  show 0 ≤ _ ∧ _ ≤ p - 1
  split <;> omega
theorem st_nat' {st : List Int} (h : AllIn 0 3 st) (k : Nat) : ((st.getD k 0).toNat : Int) = st.getD k 0 ∧ (st.getD k 0).toNat ≤ 3 := by
  by_cases hk : k < st.length
  · have := h _ (getD_mem 0 hk)
    omega
  · rw [List.getD_eq_getElem?_getD, List.getElem?_eq_none (by omega)]; simp
def StalkOk (c : List (List Int)) (st : List Int) : Prop := st.length = c.length ∧ AllIn 0 3 st ∧ ∀ k : Nat, k < 4 → sumL st (ofDim c k c.length) ≤ 32
theorem spec_l09Stalks.val (c : List (List Int)) (st : List Int) (hn : c.length ≤ 1048576) (hs : st.length ≤ 1048576) : ∃ v, spec_l09Stalks.F (c, st, ()) = some ((v, ()), ()) ∧ (v = true ↔ StalkOk c st) := by
  obtain ⟨v1, h1, h1'⟩ := spec_l03Column.val st (c.length : Int) 4 (by omega)
  rw [wrapI (x := (4 : Int) - 1) (by omega) (by omega)] at h1'
  cases v1 with
  | false => exact ⟨false, spec_l09Stalks.of _ _ ((Ev.const _).of_eq fun k => by rw [spec_l09Stalks.T, h1]; rfl), by simp only [Bool.false_eq_true, false_iff]; exact fun h => absurd (h1'.2 ⟨by have := h.1; omega, h.2.1⟩) (by simp)⟩
  | true =>
    obtain ⟨hl, ha⟩ := h1'.1 rfl
    obtain ⟨v, hv, hv'⟩ := Ev.allP (L := fun k i => spec_l09Stalks.l4 k c st (i : Int)) (a := ()) (b := ()) (n := 4) (fun i => sumL st (ofDim c i c.length) ≤ 32) true (fun i hi => by
      have E := fun k => spec_l09Stalks.l4_eq k c st (i : Int)
      simp only [if_pos (show decide ((i : Int) ≤ 3) = true by simp; omega), spec_l09Sum.val c st (i : Int) (by omega) hn (by omega), Option.bind_some, wrapN (show i < 4611686018427387904 by omega)] at E
      by_cases h : sumL st (ofDim c i c.length) ≤ 32
      · exact .inl ⟨h, fun k => by rw [E, if_neg (by simp only [decide_eq_true_eq]; omega)]⟩
      · exact .inr ⟨h, fun k => by rw [E, if_pos (by simp only [decide_eq_true_eq]; omega)]⟩) ((Ev.const _).succ fun k => by rw [spec_l09Stalks.l4_eq, if_neg (by simp)]) 0 (Nat.zero_le _)
    exact ⟨v, spec_l09Stalks.of _ _ (hv.of_eq fun k => by rw [spec_l09Stalks.T, h1]; rfl), hv'.trans ⟨fun ⟨_, h⟩ => ⟨by omega, ha, fun k hk => h k (Nat.zero_le _) hk⟩, fun h => ⟨rfl, fun k _ hk => h.2.2 k hk⟩⟩⟩
theorem impl_areStalks.val (c : List (List Int)) (st : List Int) (hn : c.length ≤ 1048576) (hs : st.length ≤ 1048576) : ∃ v, impl_areStalks.F (c, st, ()) = some ((v, ()), ()) ∧ (v = true ↔ StalkOk c st) := by
  by_cases hl : st.length = c.length
  · have hcf := slices_ContainsFunc_Lint64_int64.val st (impl_areStalks_1.cloG (())) (fun a => !decide (0 ≤ a ∧ a ≤ 3)) (fun a _ => by
      show (impl_areStalks_1.F (a, ())).map (·.1) = _
      rw [impl_areStalks_1.eq, impl_areStalks_1.T, impl_within.val]; rfl) (by omega)
    by_cases ha : AllIn 0 3 st
    · have hany : (st.any fun a => !decide (0 ≤ a ∧ a ≤ 3)) = false := by
        simp only [List.any_eq_false]; intro x hx; simp only [Bool.not_eq_true', decide_eq_false_iff_not, Classical.not_not]; exact ha x hx
      obtain ⟨v, hv, hv'⟩ := Ev.allP (L := fun k i => impl_areStalks.l4 k st (i : Int) c) (a := ()) (b := ()) (n := 4) (fun i => sumL st (ofDim c i c.length) ≤ 32) true (fun i hi => by
        have E := fun k => impl_areStalks.l4_eq k st (i : Int) c
        simp only [if_pos (show decide ((i : Int) < 4) = true by simp; omega), impl_stalkSum.val c 0 st [] (i : Int) (by omega) hn (by omega), Option.bind_some, wrapN (show i < 4611686018427387904 by omega)] at E
        by_cases h : sumL st (ofDim c i c.length) ≤ 32
        · exact .inl ⟨h, fun k => by rw [E, if_neg (by simp only [decide_eq_true_eq]; omega)]⟩
        · exact .inr ⟨h, fun k => by rw [E, if_pos (by simp only [decide_eq_true_eq]; omega)]⟩) ((Ev.const _).succ fun k => by rw [impl_areStalks.l4_eq, if_neg (by simp)]) 0 (Nat.zero_le _)
      exact ⟨v, impl_areStalks.of _ _ (hv.of_eq fun k => by rw [impl_areStalks.T, if_neg (by simp [hl]), hcf, hany]; rfl), hv'.trans ⟨fun ⟨_, h⟩ => ⟨hl, ha, fun k hk => h k (Nat.zero_le _) hk⟩, fun h => ⟨rfl, fun k _ hk => h.2.2 k hk⟩⟩⟩
    · have hany : (st.any fun a => !decide (0 ≤ a ∧ a ≤ 3)) = true := by
        refine Classical.byContradiction fun hc => ha fun x hx => ?_
        simp only [Bool.not_eq_true, List.any_eq_false, Bool.not_eq_true', decide_eq_false_iff_not, Classical.not_not] at hc
        exact hc x hx
      exact ⟨false, impl_areStalks.of _ _ ((Ev.const _).of_eq fun k => by rw [impl_areStalks.T, if_neg (by simp [hl]), hcf, hany]; rfl), by simp only [Bool.false_eq_true, false_iff]; exact fun h => ha h.2.1⟩
  · exact ⟨false, impl_areStalks.of _ _ ((Ev.const _).of_eq fun k => by rw [impl_areStalks.T, if_pos (by simp; omega)]), by simp only [Bool.false_eq_true, false_iff]; exact fun h => hl h.1⟩
def MapAt (c : List (List Int)) (p : Int) (st : List Int) (m : MatV) (i j : Nat) : Prop := MatOk m ∧ m.1 = p ∧ m.2.1 = st.getD i 0 ∧ m.2.2.1 = st.getD ((fcs c i).getD j 0).toNat 0
def MapsAt (s : ShfV) (i : Nat) : Prop := ∀ j, j < (fcs s.1 i).length → MapAt s.1 s.2.1 s.2.2.1 (s.2.2.2.getD (off s.1 i + j) (0, 0, 0, [])) i j
def SheafOk (s : ShfV) : Prop := CplxOk s.1 ∧ PrimeOk s.2.1 ∧ StalkOk s.1 s.2.2.1 ∧ s.2.2.2.length = off s.1 s.1.length ∧ ∀ i, i < s.1.length → MapsAt s i
theorem off_mono (c : List (List Int)) {a b : Nat} (h : a ≤ b) : off c a ≤ off c b := by
  induction h with
  | refl => exact Nat.le_refl _
  | step _ ih => exact Nat.le_trans ih (Nat.le_add_right _ _)
theorem off_lt {c : List (List Int)} {i j : Nat} (hi : i < c.length) (hj : j < (fcs c i).length) : off c i + j < off c c.length := by
  have := off_mono c (show i + 1 ≤ c.length by omega)
  rw [off] at this; omega
theorem spec_l09Map.val (c : List (List Int)) (p : Int) (st : List Int) (ms : List MatV) (m : MatV) (h : CplxOk c) (hst : st.length = c.length) (hm : m.2.2.2.length < 4611686018427387904) (i j : Nat) (hi : i < c.length) (hj : j < (fcs c i).length) :
    ∃ v, spec_l09Map.F ((c, (p, (st, ms))), (i : Int), (j : Int), m, ()) = some ((v, ()), ()) ∧ (v = true ↔ MapAt c p st m i j) := by
  obtain ⟨q, r, cc, xs⟩ := m
  obtain ⟨v1, h1, h1'⟩ := spec_l03Ok.val (q, r, cc, xs) hm
  obtain ⟨x, hx, hxc⟩ := fcs_mem h hi (getD_mem (0 : Int) hj)
  rw [spec_l09Map.eq, spec_l09Map.T, spec_l05Faces.val c h i hi]
  simp only [Option.bind_some]
  rw [if_pos (by omega), h1]
  simp only [Option.bind_some, Int.toNat_natCast]
  unfold MapAt
  cases v1 with
  | false => exact ⟨false, by rw [if_neg (by simp)], by simp only [Bool.false_eq_true, false_iff]; exact fun hh => absurd (h1'.2 hh.1) (by simp)⟩
  | true =>
    have hmat := h1'.1 rfl
    rw [if_pos rfl]
    by_cases e1 : q = p
    · rw [if_pos (by simp [e1]), if_pos (by omega)]
      by_cases e2 : r = st.getD i 0
      · rw [if_pos (by simp only [beq_iff_eq]; exact e2), if_pos (by rw [hx]; omega)]
        exact ⟨_, rfl, by simp only [beq_iff_eq]; exact ⟨fun e3 => ⟨hmat, e1, e2, e3⟩, fun hh => hh.2.2.2⟩⟩
      · exact ⟨false, by rw [if_neg (by simp only [beq_iff_eq]; exact e2)], by simp only [Bool.false_eq_true, false_iff]; exact fun hh => e2 hh.2.2.1⟩
    · exact ⟨false, by rw [if_neg (by simp only [beq_iff_eq]; exact e1)], by simp only [Bool.false_eq_true, false_iff]; exact fun hh => e1 hh.2.1⟩
theorem spec_l09Ok.val (s : ShfV) (hsm : SmSh s) : ∃ v, spec_l09Ok.F (s, ()) = some ((v, ()), ()) ∧ (v = true ↔ SheafOk s) := by
  obtain ⟨c, p, st, ms⟩ := s
  obtain ⟨hc, hst, hms⟩ := hsm
  have hc : SmL c := hc
  have hst : st.length ≤ 1048576 := hst
  have hms : SmMs ms := hms
  unfold SheafOk
  simp only []
  obtain ⟨v1, h1, h1'⟩ := spec_l05Ok.val c hc
  obtain ⟨v2, h2, h2'⟩ := spec_l02Prime.val p
  obtain ⟨v3, h3, h3'⟩ := spec_l09Stalks.val c st hc.1 hst
  have h2p : spec_ValidPrime.F (p, ()) = some ((v2, ()), ()) := by rw [spec_ValidPrime.eq, spec_ValidPrime.T, h2]; rfl
  cases v1 with
  | false => exact ⟨false, spec_l09Ok.of _ _ _ _ ((Ev.const _).of_eq fun k => by rw [spec_l09Ok.T, h1]; rfl), by simp only [Bool.false_eq_true, false_iff]; exact fun hh => absurd (h1'.2 hh.1) (by simp)⟩
  | true =>
  cases v2 with
  | false => exact ⟨false, spec_l09Ok.of _ _ _ _ ((Ev.const _).of_eq fun k => by rw [spec_l09Ok.T, h1, h2p]; rfl), by simp only [Bool.false_eq_true, false_iff]; exact fun hh => absurd (h2'.2 hh.2.1) (by simp)⟩
  | true =>
  cases v3 with
  | false => exact ⟨false, spec_l09Ok.of _ _ _ _ ((Ev.const _).of_eq fun k => by rw [spec_l09Ok.T, h1, h2p, h3]; rfl), by simp only [Bool.false_eq_true, false_iff]; exact fun hh => absurd (h3'.2 hh.2.2.1) (by simp)⟩
  | true =>
  have hcx := h1'.1 rfl
  have hstalk := h3'.1 rfl
  have hcl := hcx.1
  have hoff := off_le hcx (Nat.le_refl c.length)
  have h4 : spec_l09Count.F (c, ()) = some ((((off c c.length : Nat) : Int), ()), ()) := by
    have := spec_l09Place.val c hcx c.length (Nat.le_refl _) 0 (by omega)
    rw [spec_l09Count.eq, spec_l09Count.T, show (0 : Int) = ((0 : Nat) : Int) from rfl, this]; rfl
  by_cases hlen : ms.length = off c c.length
  · obtain ⟨v, hv, b, rfl, hb⟩ := Ev.loop (σ := Unit) (R := (Bool × Unit) × Unit) (fun k i _ => spec_l09Ok.l4 k c p st ms (i : Int)) c.length (fun i _ => ∀ n, n < i → MapsAt (c, p, st, ms) n) (fun r => ∃ b, r = ((b, ()), ()) ∧ (b = true ↔ ∀ n, n < c.length → MapsAt (c, p, st, ms) n))
      (fun i _ hi hI => by
        have E4 : ∀ k, spec_l09Ok.l4 (k + 1) c p st ms (i : Int) = spec_l09Ok.l7 k c p st ms (i : Int) ((0 : Nat) : Int) := fun k => by rw [spec_l09Ok.l4_eq, if_pos (ltI.2 hi)]; rfl
        have hlc := (hcx.2 i hi).1.1
        have step : ∀ j, j < (fcs c i).length → ∃ v, (v = true ↔ MapAt c p st (ms.getD (off c i + j) (0, 0, 0, [])) i j) ∧ ∀ k, spec_l09Ok.l7 (k + 1) c p st ms (i : Int) (j : Int) = if (!v) = true then some ((false, ()), ()) else spec_l09Ok.l7 k c p st ms (i : Int) ((j + 1 : Nat) : Int) := fun j hj => by
          have hlt := off_lt hi hj
          have hj2 := hj
          rw [fcs_length] at hj2
          have h1l : 1 < (c.getD i []).length := by
            by_cases hh : 1 < (c.getD i []).length
            · exact hh
            · rw [if_neg hh] at hj2; omega
          rw [if_pos h1l] at hj2
          have hml : (ms.getD (off c i + j) (0, 0, 0, [])).2.2.2.length < 4611686018427387904 := by
            have : (ms.getD (off c i + j) (0, 0, 0, [])).2.2.2.length ≤ 1048576 := hms.2 _ (getD_mem _ (by omega))
            omega
          obtain ⟨v, hv, hv'⟩ := spec_l09Map.val c p st ms (ms.getD (off c i + j) (0, 0, 0, [])) hcx hstalk.1 hml i j hi hj
          refine ⟨v, hv', fun k => ?_⟩
          rw [spec_l09Ok.l7_eq, if_pos (idxI.2 hi)]
          simp only [Int.toNat_natCast]
          rw [if_pos (by simp only [decide_eq_true_eq]; omega), if_pos (idxI.2 hi), if_pos (by simp only [decide_eq_true_eq]; omega), spec_l09Place.val c hcx i (by omega) j (by omega)]
          simp only [Option.bind_some, Int.toNat_natCast]
          rw [if_pos (by omega), hv]
          simp only [Option.bind_some]
          rw [wrapN (by omega)]
        have stop : ∀ k, spec_l09Ok.l7 (k + 1) c p st ms (i : Int) (((fcs c i).length : Nat) : Int) = spec_l09Ok.l4 k c p st ms ((i + 1 : Nat) : Int) := fun k => by
          rw [spec_l09Ok.l7_eq, if_pos (idxI.2 hi), fcs_length]
          simp only [Int.toNat_natCast]
          by_cases h1l : 1 < (c.getD i []).length
          · rw [if_pos h1l, if_neg (by simp), wrapN (by omega)]
          · rw [if_neg h1l, if_pos (by simp only [decide_eq_true_eq]; omega), if_pos (idxI.2 hi), if_neg (by simp only [decide_eq_true_eq]; omega), wrapN (by omega)]
        by_cases hP : MapsAt (c, p, st, ms) i
        · refine .inr ⟨(), fun n hn => ?_, (Goes.succ E4).trans ?_⟩
          · by_cases hni : n = i
            · rw [hni]; exact hP
            · exact hI n (by omega)
          · obtain ⟨_, _, hg⟩ := Goes.loop (σ := Unit) (R := (Bool × Unit) × Unit) (fun k j _ => spec_l09Ok.l7 k c p st ms (i : Int) (j : Int)) (fcs c i).length (fun _ _ => True) (fun j _ hj _ => ⟨(), trivial, by
              obtain ⟨v, hv, hv2⟩ := step j hj
              have : v = true := hv.2 (hP j hj)
              subst this
              exact Goes.succ fun k => by rw [hv2]; rfl⟩) 0 () (Nat.zero_le _) trivial
            exact hg.trans (Goes.succ stop)
        · left
          obtain ⟨v, hv, hv'⟩ := Ev.loop (σ := Unit) (R := (Bool × Unit) × Unit) (fun k j _ => spec_l09Ok.l7 k c p st ms (i : Int) (j : Int)) (fcs c i).length (fun j _ => ∀ n, n < j → MapAt c p st (ms.getD (off c i + n) (0, 0, 0, [])) i n) (fun r => r = ((false, ()), ())) (fun j _ hj hJ => by
            obtain ⟨v, hv, hv2⟩ := step j hj
            cases v with
            | false => exact .inl ⟨_, (Ev.const _).succ fun k => by rw [hv2]; rfl, rfl⟩
            | true =>
              refine .inr ⟨(), fun n hn => ?_, Goes.succ fun k => by rw [hv2]; rfl⟩
              by_cases hnj : n = j
              · rw [hnj]; exact hv.1 rfl
              · exact hJ n (by omega)) (fun _ hJ => absurd (fun j hj => hJ j hj) hP) 0 () (Nat.zero_le _) (by intro n hn; omega)
          subst hv'
          exact ⟨_, hv.succ E4, false, rfl, by simp only [Bool.false_eq_true, false_iff]; exact fun hh => hP (hh i hi)⟩)
      (fun _ hI => ⟨_, (Ev.const _).succ fun k => by rw [spec_l09Ok.l4_eq, if_neg (by simp)], true, rfl, by simp only [true_iff]; exact hI⟩) 0 () (Nat.zero_le _) (by intro n hn; omega)
    refine ⟨b, spec_l09Ok.of _ _ _ _ (hv.of_eq fun k => ?_), hb.trans ⟨fun hh => ⟨hcx, h2'.1 rfl, hstalk, hlen, hh⟩, fun hh => hh.2.2.2.2⟩⟩
    rw [spec_l09Ok.T, h1, h2p, h3, h4]
    simp only [Option.bind_some, Bool.not_true, Bool.false_eq_true, if_false]
    rw [if_neg (by simp [hlen])]; rfl
  · refine ⟨false, spec_l09Ok.of _ _ _ _ ((Ev.const _).of_eq fun k => ?_), by simp only [Bool.false_eq_true, false_iff]; exact fun hh => hlen hh.2.2.2.1⟩
    rw [spec_l09Ok.T, h1, h2p, h3, h4]
    simp only [Option.bind_some, Bool.not_true, Bool.false_eq_true, if_false]
    rw [if_pos (by simp; omega)]
theorem spec_l03Same.same (m n : MatV) (h : SmM m) : ∃ b, spec_l03Same.F (m, n, ()) = some ((b, ()), ()) ∧ (b = true ↔ m = n) := by
  obtain ⟨a, b, c, xs⟩ := m
  obtain ⟨a', b', c', ys⟩ := n
  have hn : xs.length ≤ 1048576 := h
  simp only [Prod.mk.injEq]
  by_cases h1 : a = a'
  · by_cases h2 : b = b'
    · by_cases h3 : c = c'
      · by_cases hl : xs.length = ys.length
        · obtain ⟨e, he, he'⟩ := same_loop (fun k i => spec_l03Same.l4 k a b c xs a' b' c' ys (i : Int)) xs ys 0 hl (fun i hi => ⟨xs.getD i 0 == ys.getD i 0, by simp, fun k => by
            rw [spec_l03Same.l4_eq, if_pos (ltI.2 hi), if_pos (idxI.2 hi), if_pos (idx2 (hl ▸ hi))]; simp only [Int.toNat_natCast]; rw [wrapN (by omega)]; rfl⟩) (fun k => by rw [spec_l03Same.l4_eq, if_neg (by simp)])
          exact ⟨e, spec_l03Same.of _ _ _ _ _ _ _ _ (he.of_eq fun k => by rw [spec_l03Same.T, if_neg (by simp [h1]), if_neg (by simp [h2]), if_neg (by simp [h3]), if_neg (by simp [hl])]; rfl), by simp [h1, h2, h3, he']⟩
        · exact ⟨false, spec_l03Same.of _ _ _ _ _ _ _ _ ((Ev.const _).of_eq fun k => by rw [spec_l03Same.T, if_neg (by simp [h1]), if_neg (by simp [h2]), if_neg (by simp [h3]), if_pos (by simp; omega)]), by simp [h1, h2, h3]; intro e; exact hl (by rw [e])⟩
      · exact ⟨false, spec_l03Same.of _ _ _ _ _ _ _ _ ((Ev.const _).of_eq fun k => by rw [spec_l03Same.T, if_neg (by simp [h1]), if_neg (by simp [h2]), if_pos (by simp [h3])]), by simp [h3]⟩
    · exact ⟨false, spec_l03Same.of _ _ _ _ _ _ _ _ ((Ev.const _).of_eq fun k => by rw [spec_l03Same.T, if_neg (by simp [h1]), if_pos (by simp [h2])]), by simp [h2]⟩
  · exact ⟨false, spec_l03Same.of _ _ _ _ _ _ _ _ ((Ev.const _).of_eq fun k => by rw [spec_l03Same.T, if_pos (by simp [h1])]), by simp [h1]⟩
theorem impl_SameMatrix.same (m n : MatV) (h : SmM m) : ∃ b, impl_SameMatrix.F (m, n, ()) = some ((b, ()), ()) ∧ (b = true ↔ m = n) := by
  obtain ⟨a, b, c, xs⟩ := m
  obtain ⟨a', b', c', ys⟩ := n
  obtain ⟨e, he, he'⟩ := slices_Equal_Lint64_int64.same xs ys h
  rw [impl_SameMatrix.eq, impl_SameMatrix.T, he]
  simp only [Option.bind_some, Prod.mk.injEq]
  by_cases h1 : a = a'
  · by_cases h2 : b = b'
    · by_cases h3 : c = c'
      · exact ⟨e, by rw [if_pos (by simp [h1]), if_pos (by simp [h2]), if_pos (by simp [h3])], by simp [h1, h2, h3, he']⟩
      · exact ⟨false, by rw [if_pos (by simp [h1]), if_pos (by simp [h2]), if_neg (by simp [h3])], by simp [h3]⟩
    · exact ⟨false, by rw [if_pos (by simp [h1]), if_neg (by simp [h2])], by simp [h2]⟩
  · exact ⟨false, by rw [if_neg (by simp [h1])], by simp [h1]⟩
theorem Goes.find {R T : Type} {L : Nat → Nat → Option R} {M : Nat → Option R} {n : Nat} (i0 : Nat) (f : Nat → Option T) (res : T → R)
    (hstep : ∀ i, i0 ≤ i → i < n → (f i = none ∧ Goes (fun k => L k i) (fun k => L k (i + 1))) ∨ (∃ t, f i = some t ∧ Ev (fun k => L k i) (res t)))
    (hend : Goes (fun k => L k n) M) (i : Nat) (h0 : i0 ≤ i) (hi : i ≤ n) :
    ((List.range' i (n - i)).findSome? f = none ∧ Goes (fun k => L k i) M) ∨ (∃ t, (List.range' i (n - i)).findSome? f = some t ∧ Ev (fun k => L k i) (res t)) := by
  have key : ∀ m i, i0 ≤ i → i + m = n → ((List.range' i m).findSome? f = none ∧ Goes (fun k => L k i) M) ∨ (∃ t, (List.range' i m).findSome? f = some t ∧ Ev (fun k => L k i) (res t)) := by
    intro m
    induction m with
    | zero => intro i h0 hi; obtain rfl : i = n := by omega
              exact .inl ⟨rfl, hend⟩
    | succ m ih =>
      intro i h0 hi
      rw [List.range'_succ, List.findSome?_cons]
      rcases hstep i h0 (by omega) with ⟨h1, h2⟩ | ⟨t, h1, h2⟩
      · rw [h1]
        rcases ih (i + 1) (by omega) (by omega) with ⟨h3, h4⟩ | ⟨t, h3, h4⟩
        · exact .inl ⟨h3, h2.trans h4⟩
        · exact .inr ⟨t, h3, h2 _ h4⟩
      · rw [h1]; exact .inr ⟨t, rfl, h2⟩
  exact key (n - i) i h0 (by omega)
def mapAt (s : ShfV) (i j : Nat) : MatV := s.2.2.2.getD (off s.1 i + j) (0, 0, 0, [])
theorem fc_spec {c : List (List Int)} (h : CplxOk c) {k i : Nat} (hk : k < c.length) (hi : i < (fcs c k).length) : ∃ f : Nat, (fcs c k).getD i 0 = (f : Int) ∧ f < c.length ∧ c.getD f [] = dropAt (c.getD k []) i ∧ i < (c.getD k []).length ∧ 1 < (c.getD k []).length := by
  rw [fcs_length] at hi
  have h1 : 1 < (c.getD k []).length := by
    by_cases h1 : 1 < (c.getD k []).length
    · exact h1
    · rw [if_neg h1] at hi; omega
  rw [if_pos h1] at hi
  have hf : (faces (c.getD k [])) = (List.range (c.getD k []).length).map (dropAt (c.getD k [])) := by rw [faces, if_pos h1]
  have hm : dropAt (c.getD k []) i ∈ faces (c.getD k []) := by rw [hf]; exact List.mem_map.2 ⟨i, List.mem_range.2 hi, rfl⟩
  obtain ⟨h2, h3⟩ := idxIn_spec (face_mem h hk hm)
  refine ⟨_, ?_, h2, h3, hi, h1⟩
  rw [fcs, hf]
  obtain ⟨s, hs⟩ : ∃ s, c.getD k [] = s := ⟨_, rfl⟩
  rw [hs] at hi ⊢
  simp only [List.getD_eq_getElem?_getD, List.getElem?_map, List.getElem?_range hi, Option.map_some, Option.getD_some]
theorem impl_firstMap.val (s : ShfV) (h : CplxOk s.1) (n : Nat) (hn : n ≤ s.1.length) : impl_firstMap.F (s, (n : Int), ()) = some ((((off s.1 n : Nat) : Int), ()), ()) := by
  obtain ⟨c, p, st, ms⟩ := s
  have h : CplxOk c := h
  have hn : n ≤ c.length := hn
  have hcl := h.1
  have hos := off_le h hn
  have hcut : cutL c (0 : Int) (n : Int) = c.take n := by simp [cutL]
  have hlen : (c.take n).length = n := by simp; omega
  refine impl_firstMap.of _ _ _ _ _ (Ev.of_eq (N := fun k => impl_firstMap.l3 k 0 (c.take n) (n : Int) ((0 : Nat) : Int)) ?_ fun k => by rw [impl_firstMap.T, if_pos (by omega), hcut, hlen]; rfl)
  obtain ⟨x, hx, hg⟩ := Goes.loop (R := ((Int × Unit) × Unit)) (fun k i (x : Int) => impl_firstMap.l3 k x (c.take n) (n : Int) (i : Int)) n (fun i x => x = (off c i : Int)) (fun i x hi h2 => ⟨_, rfl, Goes.succ fun k => by
    have hic : i < c.length := by omega
    have hoff := off_le h (show i ≤ c.length by omega)
    have h4 := (h.2 i hic).1.1.2
    have ht : (c.take n).getD i [] = c.getD i [] := by simp only [List.getD_eq_getElem?_getD, List.getElem?_take, hi, if_true]
    rw [impl_firstMap.l3_eq, if_pos (ltI.2 hi), if_pos (by rw [hlen]; omega)]
    simp only [Int.toNat_natCast, ht]
    rw [off, fcs_length]
    by_cases h1 : 1 < (c.getD i []).length
    · rw [if_pos (by simp only [decide_eq_true_eq]; omega), impl_size_int64.eq, impl_size_int64.T, if_pos h1]
      simp only [Option.bind_some]
      rw [wrapI (by omega) (by omega), wrapN (by omega), h2]
      congr 1
    · rw [if_neg (by simp only [decide_eq_true_eq]; omega), if_neg h1, wrapN (by omega), h2]
      rfl⟩) 0 0 (Nat.zero_le _) rfl
  refine hg _ ((Ev.const _).succ fun k => ?_)
  rw [impl_firstMap.l3_eq, if_neg (by simp), hx]
theorem impl_direct.val (s : ShfV) (h : SheafOk s) (i j : Nat) (hi : i < s.1.length) (hj : j < (fcs s.1 i).length) : impl_direct.F (s, (i : Int), (j : Int), ()) = some ((mapAt s i j, ()), ()) := by
  have h1 := impl_firstMap.val s h.1 i (by omega)
  have h2 := off_lt hi hj
  have h3 := h.2.2.2.1
  have h4 := off_le h.1 (Nat.le_refl s.1.length)
  have h5 := h.1.1
  have hT : impl_direct.F (s, (i : Int), (j : Int), ()) = impl_direct.T s.1 s.2.1 s.2.2.1 s.2.2.2 (i : Int) (j : Int) := impl_direct.eq _ _ _ _ _ _
  have hw : IntKind.i64.wrap (((off s.1 i : Nat) : Int) + (j : Int)) = ((off s.1 i + j : Nat) : Int) := by rw [wrapI (by omega) (by omega)]; omega
  have h1 : impl_firstMap.F ((s.1, (s.2.1, (s.2.2.1, s.2.2.2))), (i : Int), ()) = _ := h1
  rw [hT, impl_direct.T, h1]
  simp only [Option.bind_some, hw]
  rw [if_pos (by omega)]
  simp only [Int.toNat_natCast]
  rfl
theorem spec_l09Get.val (s : ShfV) (h : SheafOk s) (i j : Nat) (hi : i < s.1.length) (hj : j < (fcs s.1 i).length) : spec_l09Get.F (s, (i : Int), (j : Int), ()) = some ((mapAt s i j, ()), ()) := by
  have h2 := off_lt hi hj
  have h3 := h.2.2.2.1
  have h4 := off_le h.1 (Nat.le_refl s.1.length)
  have h5 := h.1.1
  have h1 := spec_l09Place.val s.1 h.1 i (by omega) j (by omega)
  have hT : spec_l09Get.F (s, (i : Int), (j : Int), ()) = spec_l09Get.T s.1 s.2.1 s.2.2.1 s.2.2.2 (i : Int) (j : Int) := spec_l09Get.eq _ _ _ _ _ _
  rw [hT, spec_l09Get.T, h1]
  simp only [Option.bind_some]
  rw [if_pos (by omega)]
  simp only [Int.toNat_natCast]
  rfl
def fc (c : List (List Int)) (k i : Nat) : Nat := ((fcs c k).getD i 0).toNat
def sqA (s : ShfV) (k i j : Nat) : MatV := mulM (mapAt s k i) (mapAt s (fc s.1 k i) (j - 1))
def sqB (s : ShfV) (k i j : Nat) : MatV := mulM (mapAt s k j) (mapAt s (fc s.1 k j) i)
theorem mapAt_ok {s : ShfV} (h : SheafOk s) {i j : Nat} (hi : i < s.1.length) (hj : j < (fcs s.1 i).length) : MapAt s.1 s.2.1 s.2.2.1 (mapAt s i j) i j := h.2.2.2.2 i hi j hj
structure SqFit (s : ShfV) (k i j : Nat) (f : Nat) : Prop where
  at_ : (fcs s.1 k).getD i 0 = (f : Int)
  fc_ : fc s.1 k i = f
  lt : f < s.1.length
  jlt : j < (fcs s.1 f).length
  ilt : i < (fcs s.1 k).length
  dir : impl_product.F (mapAt s k i, mapAt s f j, ()) = some ((mulM (mapAt s k i) (mapAt s f j), ()), ())
  tim : spec_l03Times.F (mapAt s k i, mapAt s f j, ()) = some ((mulM (mapAt s k i) (mapAt s f j), ()), ())
  ok : MatOk (mulM (mapAt s k i) (mapAt s f j))
theorem sqFit {s : ShfV} (h : SheafOk s) {k i j : Nat} (hk : k < s.1.length) (h3 : 2 < (s.1.getD k []).length) (hi : i < (s.1.getD k []).length) (hj : j + 1 < (s.1.getD k []).length) : ∃ f, SqFit s k i j f := by
  have hil : i < (fcs s.1 k).length := by rw [fcs_length, if_pos (by omega)]; exact hi
  obtain ⟨f, h1, h2, h4, h5, h6⟩ := fc_spec h.1 hk hil
  have hfl : (s.1.getD f []).length = (s.1.getD k []).length - 1 := by rw [h4]; exact dropAt_length hi
  have hjl : j < (fcs s.1 f).length := by rw [fcs_length, if_pos (by omega)]; omega
  have m1 := mapAt_ok h hk hil
  have m2 := mapAt_ok h h2 hjl
  have hp : (mapAt s k i).1 = (mapAt s f j).1 := by rw [m1.2.1, m2.2.1]
  have hs : (mapAt s k i).2.2.1 = (mapAt s f j).2.1 := by rw [m1.2.2.2, m2.2.2.1, h1]; rfl
  exact ⟨f, h1, by rw [fc, h1, Int.toNat_natCast], h2, hjl, hil, impl_product.val _ _ m1.1 m2.1 hp hs, spec_l03Times.val _ _ m1.1 m2.1 hp hs, mulM_ok m1.1 m2.1⟩
theorem MatOk.small {m : MatV} (h : MatOk m) : SmM m := by
  have := mul32 h.2.1 h.2.2.1
  have := h.2.2.2.1
  unfold SmM Sm
  omega
noncomputable def wrongJ (s : ShfV) (k i j : Nat) : Option (Nat × Nat × Nat) := @ite _ (sqA s k i j = sqB s k i j) (Classical.propDecidable _) none (some (k, i, j))
noncomputable def wrongI (s : ShfV) (k n i : Nat) : Option (Nat × Nat × Nat) := (List.range' (i + 1) (n - (i + 1))).findSome? (wrongJ s k i)
noncomputable def wrongK (s : ShfV) (k : Nat) : Option (Nat × Nat × Nat) := if (s.1.getD k []).length < 3 then none else (List.range' 0 ((s.1.getD k []).length - 0)).findSome? (wrongI s k (s.1.getD k []).length)
noncomputable def wrongT (s : ShfV) : Option (Nat × Nat × Nat) := (List.range' 0 (s.1.length - 0)).findSome? (wrongK s)
theorem impl_wrongSquare.val (s : ShfV) (h : SheafOk s) : impl_wrongSquare.F (s, ()) = some ((match wrongT s with | none => (0, 0, false, ()) | some (k, i, j) => ((k : Int), (fcs s.1 (fc s.1 k i)).getD (j - 1) 0, true, ())), ()) := by
  have hcl := h.1.1
  have hT : ∀ r, Ev (fun k => impl_wrongSquare.T k s.1 s.2.1 s.2.2.1 s.2.2.2) r → impl_wrongSquare.F (s, ()) = some r := fun r hr => impl_wrongSquare.of _ _ _ _ hr
  have res : ∀ t : Nat × Nat × Nat, ((Int × Int × Bool × Unit) × Unit) := fun t => (((t.1 : Int), (fcs s.1 (fc s.1 t.1 t.2.1)).getD (t.2.2 - 1) 0, true, ()), ())
  have main := Goes.find (R := ((Int × Int × Bool × Unit) × Unit)) (L := fun n k => impl_wrongSquare.l2 n s.1 (s.1.length : Int) (k : Int) s.1 s.2.1 s.2.2.1 s.2.2.2) (M := fun _ => some ((0, 0, false, ()), ())) (n := s.1.length) 0 (wrongK s) (fun t : Nat × Nat × Nat => (((t.1 : Int), (fcs s.1 (fc s.1 t.1 t.2.1)).getD (t.2.2 - 1) 0, true, ()), ())) (fun k _ hk => by
    have E := fun n => impl_wrongSquare.l2_eq n s.1 (s.1.length : Int) (k : Int) s.1 s.2.1 s.2.2.1 s.2.2.2
    simp only [if_pos (ltI.2 hk), if_pos (idxI.2 hk), Int.toNat_natCast, wrapN (show k < 4611686018427387904 by omega), impl_faceIndices.val s.1 h.1 k hk, Option.bind_some] at E
    by_cases h3 : (s.1.getD k []).length < 3
    · exact .inl ⟨by rw [wrongK, if_pos h3], Goes.succ fun n => by rw [E, if_pos (by simp only [decide_eq_true_eq]; omega)]⟩
    obtain ⟨t, ht⟩ : ∃ t, s.1.getD k [] = t := ⟨_, rfl⟩
    have h4 := (h.1.2 k hk).1.1.2
    rw [ht] at h4 h3
    have hw : wrongK s k = (List.range' 0 (t.length - 0)).findSome? (wrongI s k t.length) := by rw [wrongK, ht, if_neg h3]
    rw [hw]
    simp only [ht] at E
    have e0 : Goes (fun n => impl_wrongSquare.l2 n s.1 (s.1.length : Int) (k : Int) s.1 s.2.1 s.2.2.1 s.2.2.2) (fun n => impl_wrongSquare.l8 n t (k : Int) s.1 (s.1.length : Int) (k : Int) (t.length : Int) ((0 : Nat) : Int) s.1 s.2.1 s.2.2.1 s.2.2.2 (fcs s.1 k)) := Goes.succ fun n => by rw [E, if_neg (by simp only [decide_eq_true_eq]; omega)]; rfl
    have inner := Goes.find (R := ((Int × Int × Bool × Unit) × Unit)) (L := fun n i => impl_wrongSquare.l8 n t (k : Int) s.1 (s.1.length : Int) (k : Int) (t.length : Int) (i : Int) s.1 s.2.1 s.2.2.1 s.2.2.2 (fcs s.1 k)) (M := fun n => impl_wrongSquare.l2 n s.1 (s.1.length : Int) ((k + 1 : Nat) : Int) s.1 s.2.1 s.2.2.1 s.2.2.2) (n := t.length) 0 (wrongI s k t.length) (fun t : Nat × Nat × Nat => (((t.1 : Int), (fcs s.1 (fc s.1 t.1 t.2.1)).getD (t.2.2 - 1) 0, true, ()), ())) (fun i _ hi => by
      have e1 : Goes (fun n => impl_wrongSquare.l8 n t (k : Int) s.1 (s.1.length : Int) (k : Int) (t.length : Int) (i : Int) s.1 s.2.1 s.2.2.1 s.2.2.2 (fcs s.1 k)) (fun n => impl_wrongSquare.l11 n t (k : Int) (i : Int) ((i + 1 : Nat) : Int) s.1 (s.1.length : Int) (k : Int) (t.length : Int) (i : Int) s.1 s.2.1 s.2.2.1 s.2.2.2 (fcs s.1 k)) := Goes.succ fun n => by rw [impl_wrongSquare.l8_eq, if_pos (ltI.2 hi), wrapN (by omega)]
      have deep := Goes.find (R := ((Int × Int × Bool × Unit) × Unit)) (L := fun n j => impl_wrongSquare.l11 n t (k : Int) (i : Int) (j : Int) s.1 (s.1.length : Int) (k : Int) (t.length : Int) (i : Int) s.1 s.2.1 s.2.2.1 s.2.2.2 (fcs s.1 k)) (M := fun n => impl_wrongSquare.l8 n t (k : Int) s.1 (s.1.length : Int) (k : Int) (t.length : Int) ((i + 1 : Nat) : Int) s.1 s.2.1 s.2.2.1 s.2.2.2 (fcs s.1 k)) (n := t.length) (i + 1) (wrongJ s k i) (fun t : Nat × Nat × Nat => (((t.1 : Int), (fcs s.1 (fc s.1 t.1 t.2.1)).getD (t.2.2 - 1) 0, true, ()), ())) (fun j hij hj => by
        obtain ⟨f, F⟩ := sqFit h hk (by rw [ht]; omega) (show i < _ by rw [ht]; omega) (show j - 1 + 1 < _ by rw [ht]; omega)
        obtain ⟨g, G⟩ := sqFit h hk (by rw [ht]; omega) (show j < _ by rw [ht]; omega) (show i + 1 < _ by rw [ht]; omega)
        have hA : sqA s k i j = mulM (mapAt s k i) (mapAt s f (j - 1)) := by rw [sqA, F.fc_]
        have hB : sqB s k i j = mulM (mapAt s k j) (mapAt s g i) := by rw [sqB, G.fc_]
        obtain ⟨b, hb, hb'⟩ := impl_SameMatrix.same (mulM (mapAt s k i) (mapAt s f (j - 1))) (mulM (mapAt s k j) (mapAt s g i)) F.ok.small
        have E2 := fun n => impl_wrongSquare.l11_eq n t (k : Int) (i : Int) (j : Int) s.1 (s.1.length : Int) (k : Int) (t.length : Int) (i : Int) s.1 s.2.1 s.2.2.1 s.2.2.2 (fcs s.1 k)
        simp only [if_pos (ltI.2 hj), impl_direct.val s h k i hk F.ilt, impl_direct.val s h k j hk G.ilt, wrapP (show 0 < j by omega) (show j < 4611686018427387904 by omega), Option.bind_some, if_pos (idxI.2 F.ilt), if_pos (idxI.2 G.ilt), Int.toNat_natCast, F.at_, G.at_, impl_direct.val s h f (j - 1) F.lt F.jlt, impl_direct.val s h g i G.lt G.jlt, F.dir, G.dir, hb, impl_faceIndices.val s.1 h.1 f F.lt, if_pos (idxI.2 F.jlt), wrapN (show j < 4611686018427387904 by omega)] at E2
        cases b with
        | true => exact .inl ⟨by rw [wrongJ, if_pos (by rw [hA, hB]; exact hb'.1 rfl)], Goes.succ fun n => by rw [E2, if_neg (by simp)]⟩
        | false => exact .inr ⟨(k, i, j), by rw [wrongJ, if_neg (by rw [hA, hB]; exact fun e => absurd (hb'.2 e) (by simp))], (Ev.const _).succ fun n => by rw [E2, if_pos (by simp)]; simp only [F.fc_]⟩) (Goes.succ fun n => by rw [impl_wrongSquare.l11_eq, if_neg (by simp), wrapN (by omega)]) (i + 1) (Nat.le_refl _) (by omega)
      rcases deep with ⟨d1, d2⟩ | ⟨r, d1, d2⟩
      · exact .inl ⟨d1, e1.trans d2⟩
      · exact .inr ⟨r, d1, e1 _ d2⟩) (Goes.succ fun n => by rw [impl_wrongSquare.l8_eq, if_neg (by simp), wrapN (by omega)]) 0 (Nat.le_refl _) (Nat.zero_le _)
    rcases inner with ⟨d1, d2⟩ | ⟨r, d1, d2⟩
    · exact .inl ⟨d1, e0.trans d2⟩
    · exact .inr ⟨r, d1, e0 _ d2⟩) (Goes.succ fun n => by rw [impl_wrongSquare.l2_eq, if_neg (by simp)]) 0 (Nat.le_refl _) (Nat.zero_le _)
  rcases main with ⟨d1, d2⟩ | ⟨⟨k, i, j⟩, d1, d2⟩
  · rw [wrongT, d1]
    exact hT _ ((d2 _ (Ev.const _)).of_eq fun n => rfl)
  · rw [wrongT, d1]
    exact hT _ (d2.of_eq fun n => rfl)
theorem rising_lt {xs : List Int} (h : Rising xs) : ∀ i j, i < j → j < xs.length → xs.getD i 0 < xs.getD j 0 := by
  intro i j hij hj
  induction j with
  | zero => omega
  | succ j ih =>
    have h1 := h (j + 1) (by omega) hj
    simp only [Nat.add_sub_cancel] at h1
    by_cases e : i = j
    · subst e; exact h1
    · have := ih (by omega) (by omega); omega
theorem rising_nodup {xs : List Int} (h : Rising xs) : xs.Nodup := by
  rw [List.nodup_iff_pairwise_ne, List.pairwise_iff_getElem]
  intro i j hi hj hij
  have := rising_lt h i j hij hj
  rw [getD_eq hi, getD_eq hj] at this
  omega
theorem len_of_sub : ∀ {xs ys : List Int}, xs.Nodup → (∀ x ∈ xs, x ∈ ys) → xs.length ≤ ys.length
  | [], _, _, _ => Nat.zero_le _
  | x :: xs, ys, hn, h => by
    rw [List.nodup_cons] at hn
    have hx := h x (by simp)
    have := len_of_sub (xs := xs) (ys := ys.erase x) hn.2 fun y hy => (List.mem_erase_of_ne (fun e : y = x => hn.1 (e ▸ hy))).2 (h y (by simp [hy]))
    rw [List.length_erase_of_mem hx] at this
    have h2 : 0 < ys.length := List.length_pos_of_mem hx
    simp only [List.length_cons]; omega
theorem rising_ext {xs ys : List Int} (hx : Rising xs) (hy : Rising ys) (h : ∀ x ∈ xs, x ∈ ys) (hl : ys.length ≤ xs.length) : xs = ys := by
  have pw : ∀ {zs : List Int}, Rising zs → zs.Pairwise (· < ·) := fun {zs} hz => by
    rw [List.pairwise_iff_getElem]
    intro i j hi hj hij
    have := rising_lt hz i j hij hj
    rwa [getD_eq hi, getD_eq hj] at this
  have key : ∀ (xs ys : List Int), xs.Pairwise (· < ·) → ys.Pairwise (· < ·) → (∀ x ∈ xs, x ∈ ys) → ys.length ≤ xs.length → xs = ys := by
    intro xs
    induction xs with
    | nil => intro ys _ _ _ hl; exact (List.length_eq_zero_iff.1 (by simpa using hl)).symm
    | cons x xs ih =>
      intro ys hx hy h hl
      cases ys with
      | nil => exact absurd (h x (by simp)) (by simp)
      | cons y ys =>
        rw [List.pairwise_cons] at hx hy
        by_cases e : x = y
        · subst e
          rw [ih ys hx.2 hy.2 (fun z hz => by
            have := h z (by simp [hz])
            simp only [List.mem_cons] at this
            rcases this with rfl | this
            · have := hx.1 z hz; omega
            · exact this) (by simpa using hl)]
        · have hxm : x ∈ ys := by
            have := h x (by simp)
            simp only [List.mem_cons] at this
            exact this.resolve_left e
          have hsub : ∀ z ∈ x :: xs, z ∈ ys := fun z hz => by
            have h1 := h z hz
            simp only [List.mem_cons] at h1 hz
            rcases h1 with rfl | h1
            · have h3 := hy.1 x hxm
              rcases hz with rfl | hz
              · omega
              · have := hx.1 z hz; omega
            · exact h1
          have hnd : (x :: xs).Nodup := by
            rw [List.nodup_iff_pairwise_ne, List.pairwise_cons]
            exact ⟨fun z hz => by have := hx.1 z hz; omega, hx.2.imp fun h => by omega⟩
          have := len_of_sub hnd hsub
          simp only [List.length_cons] at hl this; omega
  exact key xs ys (pw hx) (pw hy) h hl
theorem place_ex {f t : List Int} (ht : t.Nodup) (hl : f.length < t.length) : ∃ j, j < t.length ∧ t.getD j 0 ∉ f ∧ ∀ i, i < j → t.getD i 0 ∈ f := by
  obtain ⟨m, hm⟩ : ∃ m, m < t.length ∧ t.getD m 0 ∉ f := Classical.byContradiction fun hc => by
    have : ∀ x ∈ t, x ∈ f := fun x hx => by
      obtain ⟨j, hj, rfl⟩ := List.getElem_of_mem hx
      refine Classical.byContradiction fun hn => hc ⟨j, hj, ?_⟩
      rwa [getD_eq hj]
    have := len_of_sub ht this
    omega
  have key : ∀ m, (m < t.length ∧ t.getD m 0 ∉ f) → ∃ j, j < t.length ∧ t.getD j 0 ∉ f ∧ ∀ i, i < j → t.getD i 0 ∈ f := by
    intro m
    induction m using Nat.strongRecOn with
    | ind m ih =>
      intro ⟨h1, h2⟩
      by_cases h : ∀ i, i < m → t.getD i 0 ∈ f
      · exact ⟨m, h1, h2, h⟩
      · obtain ⟨i, hi⟩ := Classical.not_forall.1 h
        obtain ⟨hi, hi2⟩ := Classical.not_imp.1 hi
        exact ih i hi ⟨by omega, hi2⟩
  exact key m hm
theorem drop_sub {f t : List Int} {j : Nat} (hj : j < t.length) (h : ∀ x ∈ f, x ∈ t) (hn : t.getD j 0 ∉ f) : ∀ x ∈ f, x ∈ dropAt t j := by
  intro x hx
  obtain ⟨i, hi, rfl⟩ := List.getElem_of_mem (h x hx)
  have hij : i ≠ j := by
    rintro rfl
    rw [getD_eq hi] at hn
    exact hn hx
  unfold dropAt
  rw [List.mem_append]
  by_cases h2 : i < j
  · left
    rw [List.mem_take_iff_getElem]
    exact ⟨i, by omega, rfl⟩
  · right
    rw [List.mem_drop_iff_getElem]
    exact ⟨i - (j + 1), by omega, by congr 1; omega⟩
theorem restriction_both (s : ShfV) (h : SheafOk s) (f : Nat) (hf : f < s.1.length) : ∀ (n i : Nat), i < s.1.length → (s.1.getD i []).length = (s.1.getD f []).length + n → (∀ x ∈ s.1.getD f [], x ∈ s.1.getD i []) →
    ∃ m, MatOk m ∧ m.1 = s.2.1 ∧ m.2.1 = s.2.2.1.getD i 0 ∧ m.2.2.1 = s.2.2.1.getD f 0 ∧ (∀ q, n < q → impl_restriction.R q (s, (f : Int), (i : Int), ()) = some ((m, ()), ())) ∧ ∀ q, n < q → spec_l09Restrict.R q (s, (f : Int), (i : Int), ()) = some ((m, ()), ()) := by
  have hn := h.1.1
  have hl : s.2.2.1.length = s.1.length := h.2.2.1.1
  have hp := h.2.1
  intro n
  induction n with
  | zero =>
    intro i hi hlen hsub
    have e : s.1.getD f [] = s.1.getD i [] := rising_ext (h.1.2 f hf).1.2.2 (h.1.2 i hi).1.2.2 hsub (by omega)
    have e : f = i := sorted_inj h.1.sorted hf hi e
    subst e
    obtain ⟨z1, z2⟩ := st_nat' h.2.2.1.2.1 f
    have hu := impl_unit.val s.2.1 (s.2.2.1.getD f 0).toNat z2
    have hu2 := spec_l03Unit.val s.2.1 (s.2.2.1.getD f 0).toNat z2
    rw [z1] at hu hu2
    refine ⟨unitM s.2.1 (s.2.2.1.getD f 0).toNat, unitM_ok hp z2, rfl, z1, z1, fun q hq => ?_, fun q hq => ?_⟩
    · obtain ⟨q, rfl⟩ : ∃ p, q = p + 1 := ⟨q - 1, by omega⟩
      have hT : impl_restriction.R (q + 1) (s, (f : Int), (f : Int), ()) = impl_restriction.T (impl_restriction.R q) s.1 s.2.1 s.2.2.1 s.2.2.2 (f : Int) (f : Int) := impl_restriction.eq _ _ _ _ _ _ _
      rw [hT, impl_restriction.T, if_pos (by simp), if_pos (idxI.2 (by omega)), Int.toNat_natCast, hu]; rfl
    · obtain ⟨q, rfl⟩ : ∃ p, q = p + 1 := ⟨q - 1, by omega⟩
      refine spec_l09Restrict.of (spec_l09Restrict.R q) s.1 s.2.1 s.2.2.1 s.2.2.2 (f : Int) (f : Int) ((Ev.const _).of_eq fun k => ?_)
      rw [spec_l09Restrict.T, if_pos (by simp), if_pos (idxI.2 (by omega)), Int.toNat_natCast, hu2]; rfl
  | succ n ih =>
    intro i hi hlen hsub
    have hti := (h.1.2 i hi).1
    have htf := (h.1.2 f hf).1
    have hne : f ≠ i := by rintro rfl; omega
    obtain ⟨j, hj, hj1, hj2⟩ := place_ex (f := s.1.getD f []) (t := s.1.getD i []) (rising_nodup hti.2.2) (by omega)
    have h1 : 1 < (s.1.getD i []).length := by have := htf.1.1; omega
    have hfl : (fcs s.1 i).length = (s.1.getD i []).length := by rw [fcs_length, if_pos h1]
    have hmem : dropAt (s.1.getD i []) j ∈ faces (s.1.getD i []) := mem_faces.2 ⟨h1, j, hj, rfl⟩
    obtain ⟨m1, m2⟩ := idxIn_spec (face_mem h.1 hi hmem)
    obtain ⟨M, hM⟩ : ∃ M, M = idxIn s.1 (dropAt (s.1.getD i []) j) := ⟨_, rfl⟩
    have hfj : (fcs s.1 i).getD j 0 = (M : Int) := by
      have e1 : fcs s.1 i = (List.range (s.1.getD i []).length).map fun k => ((idxIn s.1 (dropAt (s.1.getD i []) k) : Nat) : Int) := by
        unfold fcs faces
        rw [if_pos h1, List.map_map]; rfl
      rw [e1, getD_eq (by simpa using hj), hM]
      simp only [List.getElem_map, List.getElem_range]
    rw [← hM] at m1 m2
    have hlenM : (s.1.getD M []).length = (s.1.getD f []).length + n := by rw [m2, dropAt_length hj]; omega
    obtain ⟨r, r1, r2, r3, r4, r5, r6⟩ := ih M m1 hlenM (by rw [m2]; exact drop_sub hj hsub hj1)
    obtain ⟨k1, k2, k3, k4⟩ := h.2.2.2.2 i hi j (by omega)
    have k1 : MatOk (mapAt s i j) := k1
    have k2 : (mapAt s i j).1 = s.2.1 := k2
    have k3 : (mapAt s i j).2.1 = s.2.2.1.getD i 0 := k3
    have k4 : (mapAt s i j).2.2.1 = s.2.2.1.getD M 0 := by
      have : (mapAt s i j).2.2.1 = s.2.2.1.getD ((fcs s.1 i).getD j 0).toNat 0 := k4
      rw [this, hfj, Int.toNat_natCast]
    have p1 := impl_product.val (mapAt s i j) r k1 r1 (by rw [k2, r2]) (by rw [k4, r3])
    have p2 := spec_l03Times.val (mapAt s i j) r k1 r1 (by rw [k2, r2]) (by rw [k4, r3])
    refine ⟨mulM (mapAt s i j) r, mulM_ok k1 r1, k2, k3, r4, fun q hq => ?_, fun q hq => ?_⟩
    · obtain ⟨q, rfl⟩ : ∃ p, q = p + 1 := ⟨q - 1, by omega⟩
      have hT : impl_restriction.R (q + 1) (s, (f : Int), (i : Int), ()) = impl_restriction.T (impl_restriction.R q) s.1 s.2.1 s.2.2.1 s.2.2.2 (f : Int) (i : Int) := impl_restriction.eq _ _ _ _ _ _ _
      obtain ⟨w, hw, hw'⟩ := slices_IndexFunc_Lint64_int64.val (s.1.getD i []) (impl_restriction_1.cloG (s.1.getD f [], ())) (fun x => !decide (x ∈ s.1.getD f [])) (fun x _ => by
        show (impl_restriction_1.F (x, s.1.getD f [], ())).map (·.1) = _
        rw [impl_restriction_1.eq, impl_restriction_1.T, slices_Contains_Lint64_int64.val _ x (by have := htf.1.2; omega)]; rfl) (by have := hti.1.2; omega)
      have hwj : w = (j : Int) := by
        rcases hw' with ⟨-, hall⟩ | ⟨j', a1, a2, a3, a4⟩
        · have := hall _ (getD_mem 0 hj)
          simp only [Bool.not_eq_false', decide_eq_true_eq] at this
          exact absurd this hj1
        · simp only [Bool.not_eq_true', decide_eq_false_iff_not] at a3
          have : j' = j := by
            rcases Nat.lt_trichotomy j' j with h | h | h
            · exact absurd (hj2 j' h) a3
            · exact h
            · have := a4 j h; simp only [Bool.not_eq_false', decide_eq_true_eq] at this; exact absurd this hj1
          rw [a2, this]
      subst hwj
      have d1 : impl_direct.F ((s.1, (s.2.1, (s.2.2.1, s.2.2.2))), (i : Int), (j : Int), ()) = _ := impl_direct.val s h i j hi (by omega)
      have d2 : impl_restriction.R q ((s.1, (s.2.1, (s.2.2.1, s.2.2.2))), (f : Int), (M : Int), ()) = _ := r5 q (by omega)
      rw [hT, impl_restriction.T, if_neg (by simp; omega), if_pos (idxI.2 hf), if_pos (idxI.2 hi)]
      simp only [Int.toNat_natCast, hw, Option.bind_some, impl_faceIndices.val s.1 h.1 i hi]
      rw [if_pos (idxI.2 (by omega)), d1]
      simp only [Option.bind_some, hfj, d2, p1]
    · obtain ⟨q, rfl⟩ : ∃ p, q = p + 1 := ⟨q - 1, by omega⟩
      have d1 : spec_l09Get.F ((s.1, (s.2.1, (s.2.2.1, s.2.2.2))), (i : Int), (j : Int), ()) = _ := spec_l09Get.val s h i j hi (by omega)
      have d2 : spec_l09Restrict.R q ((s.1, (s.2.1, (s.2.2.1, s.2.2.2))), (f : Int), (M : Int), ()) = _ := r6 q (by omega)
      refine spec_l09Restrict.of (spec_l09Restrict.R q) s.1 s.2.1 s.2.2.1 s.2.2.2 (f : Int) (i : Int) ?_
      obtain ⟨x, -, hg⟩ := Goes.loop (σ := Unit) (R := ((MatV × Unit) × Unit)) (fun k m _ => spec_l09Restrict.l5 (spec_l09Restrict.R q) k s.1 s.2.1 s.2.2.1 s.2.2.2 (f : Int) (i : Int) (s.1.getD i []) (m : Int) 0 0 0 []) j (fun _ _ => True) (fun m _ hm _ => ⟨(), trivial, Goes.succ fun k => by
        rw [spec_l09Restrict.l5_eq, if_pos (idxI.2 hf), if_pos (idxI.2 (by omega))]
        simp only [Int.toNat_natCast, spec_l00Has.val _ _ (show (s.1.getD f []).length < 4611686018427387904 by have := htf.1.2; omega), Option.bind_some]
        rw [if_pos (decide_eq_true (hj2 m hm)), wrapN (by have := hti.1.2; omega)]⟩) 0 () (Nat.zero_le _) trivial
      refine Ev.of_eq (hg _ ((Ev.const _).succ fun k => ?_)) fun k => ?_
      · rw [spec_l09Restrict.l5_eq, if_pos (idxI.2 hf), if_pos (idxI.2 hj)]
        simp only [Int.toNat_natCast, spec_l00Has.val _ _ (show (s.1.getD f []).length < 4611686018427387904 by have := htf.1.2; omega), Option.bind_some]
        rw [if_neg (fun hh => hj1 (of_decide_eq_true hh)), spec_l05Faces.val s.1 h.1 i hi]
        simp only [Option.bind_some]
        rw [if_pos (idxI.2 (by omega)), hfj, d2]
        simp only [Option.bind_some, d1, p2]
      · rw [spec_l09Restrict.T, if_neg (by simp; omega), if_pos (idxI.2 hi), Int.toNat_natCast]; rfl
theorem spec_l00Own.val (xs : List Int) (h : xs.length ≤ 1048576) : spec_l00Own.F (xs, ()) = some ((xs, ()), ()) := by
  rw [spec_l00Own.eq, spec_l00Own.T, if_pos (by simp only [List.length_nil, bigA]; omega)]; rfl
theorem spec_l05Skeleton.val (c : List (List Int)) (h : CplxOk c) : spec_l05Skeleton.F (c, 3, ()) = some ((c, ()), ()) := by
  have hn := h.small.1
  refine spec_l05Skeleton.of _ _ ?_
  obtain ⟨s, hs, hg⟩ := Goes.loop (R := ((List (List Int) × Unit) × Unit)) (fun k i (x : List (List Int)) => spec_l05Skeleton.l3 k c 3 (i : Int) [] x) c.length (fun i x => x = c.take i) (fun i x hi h2 => ⟨_, rfl, Goes.succ fun k => by
    have h4 := (h.2 i hi).1.1.2
    rw [spec_l05Skeleton.l3_eq, if_pos (ltI.2 hi), if_pos (idxI.2 hi), wrapI (x := (3 : Int) + 1) (by omega) (by omega)]
    simp only [Int.toNat_natCast, spec_l00Own.val _ (h.small.2 _ (getD_mem [] hi)), Option.bind_some]
    rw [if_pos (by simp only [decide_eq_true_eq]; omega), if_pos (idxI.2 hi), if_pos (by rw [h2]; simp only [List.length_take, List.length_cons, List.length_nil, bigA]; omega), wrapN (by omega), h2, List.take_add_one, List.getElem?_eq_getElem hi, Option.toList_some, getD_eq hi]⟩) 0 [] (Nat.zero_le _) rfl
  rw [List.take_of_length_le (Nat.le_refl _)] at hs
  refine Ev.of_eq (hg _ ((Ev.const _).succ fun k => ?_)) fun k => rfl
  rw [spec_l05Skeleton.l3_eq, if_neg (by simp), hs]
theorem Goes.push {A R : Type} (L : Nat → Nat → List A → Option R) (n : Nat) (f : Nat → A) (hstep : ∀ i s, i < n → s.length = i → Goes (fun k => L k i s) (fun k => L k (i + 1) (s ++ [f i]))) : Goes (fun k => L k 0 []) (fun k => L k n ((List.range n).map f)) := by
  obtain ⟨s, hs, hg⟩ := Goes.loop (R := R) L n (fun i s => s = (List.range i).map f) (fun i s hi h2 => ⟨s ++ [f i], by rw [h2, List.range_succ, List.map_append]; rfl, hstep i s hi (by rw [h2]; simp)⟩) 0 [] (Nat.zero_le _) rfl
  rw [← hs]; exact hg
theorem push_ok {A : Type} {s : List A} {x : A} {i : Nat} (h : s.length = i) (hi : i < 1048576) : s.length + [x].length ≤ bigA := by simp only [List.length_cons, List.length_nil, bigA]; omega
theorem getD_range {A : Type} (f : Nat → A) {n i : Nat} (d : A) (h : i < n) : ((List.range n).map f).getD i d = f i := by simp [List.getD_eq_getElem?_getD, h]
theorem impl_copyMatrix.val (m : MatV) (h : m.2.2.2.length ≤ 1048576) : impl_copyMatrix.F (m, ()) = some ((m, ()), ()) := by
  have hT : impl_copyMatrix.F (m, ()) = impl_copyMatrix.T m.1 m.2.1 m.2.2.1 m.2.2.2 := impl_copyMatrix.eq _ _ _ _
  rw [hT, impl_copyMatrix.T, slices_Clone_Lint64_int64.val _ h]; rfl
def mapsOf (c : List (List Int)) (g : EdgeV → MatV) : List MatV := (arr c c.length).map g
theorem mapsOf_length (c : List (List Int)) (g : EdgeV → MatV) : (mapsOf c g).length = off c c.length := by simp [mapsOf, arr_length]
theorem mapsOf_range (c : List (List Int)) (g : EdgeV → MatV) : mapsOf c g = (List.range (arr c c.length).length).map fun q => g ((arr c c.length).getD q (0, 0, 0)) := by
  rw [mapsOf]
  apply List.ext_getElem
  · simp
  · intro i h1 h2
    simp only [List.length_map] at h1
    simp [h1]
theorem impl_sheafOf.val (c : List (List Int)) (p : Int) (st : List Int) (f : EdgeV × Unit → Option (MatV × Unit)) (g : EdgeV → MatV) (h : CplxOk c) (hst : st.length ≤ 1048576)
    (hf : ∀ e ∈ arr c c.length, f (e, ()) = some (g e, ()) ∧ (g e).2.2.2.length ≤ 1048576) : impl_sheafOf.F (c, p, st, f, ()) = some (((c, p, st, mapsOf c g), ()), ()) := by
  have ho := off_le h (Nat.le_refl c.length)
  have hn := h.1
  refine impl_sheafOf.of _ _ _ _ ?_
  have hp := Goes.push (R := ((ShfV × Unit) × Unit)) (fun k i (s : List MatV) => impl_sheafOf.l3 k f ((arr c c.length).length : Int) (i : Int) [] 0 [] [] c p st s (arr c c.length)) (arr c c.length).length (fun q => g ((arr c c.length).getD q (0, 0, 0))) (fun i s hi hs => Goes.succ fun k => by
    obtain ⟨h1, h2⟩ := hf _ (getD_mem (0, 0, 0) hi)
    rw [arr_length] at hi
    rw [impl_sheafOf.l3_eq, if_pos (by rw [arr_length]; exact ltI.2 hi), if_pos (by rw [arr_length]; omega)]
    simp only [Int.toNat_natCast, h1, Option.bind_some, impl_copyMatrix.val _ h2]
    rw [if_pos (push_ok hs (by omega)), wrapN (by omega)])
  refine Ev.of_eq (hp _ ((Ev.const _).succ fun k => ?_)) fun k => ?_
  · rw [impl_sheafOf.l3_eq, if_neg (by simp), ← mapsOf_range]
  · rw [impl_sheafOf.T, impl_inOrder.same c h.small h.sorted, slices_Clone_Lint64_int64.val _ hst, impl_arrows.val c h]; rfl
def newM (p : Int) (st : List Int) (e : EdgeV) : MatV := (p, st.getD e.1.toNat 0, st.getD e.2.2.toNat 0, List.replicate ((st.getD e.1.toNat 0).toNat * (st.getD e.2.2.toNat 0).toNat) 0)
theorem st_nat {st : List Int} (h : AllIn 0 3 st) (k : Nat) : ((st.getD k 0).toNat : Int) = st.getD k 0 ∧ (st.getD k 0).toNat ≤ 3 := by
  by_cases hk : k < st.length
  · have := h _ (getD_mem 0 hk)
    omega
  · rw [List.getD_eq_getElem?_getD, List.getElem?_eq_none (by omega)]; simp
theorem spec_l09New.val (c : List (List Int)) (p : Int) (st : List Int) (h : CplxOk c) (hl : st.length = c.length) (hst : AllIn 0 3 st) : spec_l09New.F (c, p, st, ()) = some (((c, p, st, mapsOf c (newM p st)), ()), ()) := by
  have hn := h.1
  refine spec_l09New.of _ _ _ ?_
  obtain ⟨x, hx, hg⟩ := Goes.loop (R := ((ShfV × Unit) × Unit)) (fun k i (x : List MatV) => spec_l09New.l3 k c p st (i : Int) [] 0 [] [] c p st x) c.length (fun i x => x = (arr c i).map (newM p st)) (fun i x hi h2 => by
    have hoff := off_le h (show i ≤ c.length by omega)
    have h5 := faces_le h hi
    have e5 : (fcs c i).length = (faces (c.getD i [])).length := by simp [fcs]
    refine ⟨_, rfl, (Goes.succ fun k => by rw [spec_l09New.l3_eq, if_pos (ltI.2 hi), spec_l05Faces.val c h i hi]).trans ?_⟩
    obtain ⟨y, hy, hg2⟩ := Goes.loop (R := ((ShfV × Unit) × Unit)) (fun k j (y : List MatV) => spec_l09New.l7 k c p st (i : Int) (j : Int) [] 0 [] [] c p st y (fcs c i)) (fcs c i).length (fun j y => y = (arr c i).map (newM p st) ++ (List.range j).map fun (j : Nat) => newM p st ((i : Int), (j : Int), (fcs c i).getD j 0)) (fun j y hj h3 => ⟨_, rfl, Goes.succ fun k => by
      obtain ⟨q, hq, hq'⟩ := fcs_mem h hi (getD_mem 0 hj)
      obtain ⟨z1, z1'⟩ := st_nat hst i
      obtain ⟨z2, z2'⟩ := st_nat hst q
      have z := spec_l03Zero.val p (st.getD i 0).toNat (st.getD q 0).toNat (by omega) (by omega)
      rw [z1, z2] at z
      rw [spec_l09New.l7_eq, if_pos (ltI.2 hj), if_pos (idxI.2 (by omega)), if_pos (idxI.2 hj)]
      simp only [Int.toNat_natCast]
      rw [hq, if_pos (idxI.2 (by omega))]
      simp only [Int.toNat_natCast, z, Option.bind_some]
      rw [if_pos (by rw [h3]; simp only [List.length_append, List.length_map, List.length_range, List.length_cons, List.length_nil, arr_length, bigA]; omega), wrapN (by omega), h3, List.range_succ, List.map_append, List.append_assoc]
      simp only [List.map_cons, List.map_nil, newM, hq, Int.toNat_natCast]⟩) 0 x (Nat.zero_le _) (by simp [h2])
    refine hg2.trans (Goes.succ fun k => ?_)
    rw [spec_l09New.l7_eq, if_neg (by simp), wrapN (by omega), hy, arr_succ, List.map_append, arrAt, List.map_map]
    rfl) 0 [] (Nat.zero_le _) rfl
  refine Ev.of_eq (hg _ ((Ev.const _).succ fun k => ?_)) fun k => ?_
  · rw [spec_l09New.l3_eq, if_neg (by simp), hx]; rfl
  · rw [spec_l09New.T, spec_l05Skeleton.val c h, spec_l00Own.val _ (by omega)]; rfl
noncomputable def restM (s : ShfV) (f i : Nat) : MatV := match impl_restriction.F (s, (f : Int), (i : Int), ()) with
  | some r => r.1.1
  | none => (0, 0, 0, [])
theorem restM_spec {s : ShfV} (h : SheafOk s) {f i : Nat} (hf : f < s.1.length) (hi : i < s.1.length) (hsub : ∀ x ∈ s.1.getD f [], x ∈ s.1.getD i []) :
    MatOk (restM s f i) ∧ impl_restriction.F (s, (f : Int), (i : Int), ()) = some ((restM s f i, ()), ()) ∧ spec_l09Restrict.F (s, (f : Int), (i : Int), ()) = some ((restM s f i, ()), ()) := by
  have htf := (h.1.2 f hf).1
  have hle := len_of_sub (rising_nodup htf.2.2) hsub
  obtain ⟨m, m1, m2, m3, m4, m5, m6⟩ := restriction_both s h f hf ((s.1.getD i []).length - (s.1.getD f []).length) i hi (by omega) hsub
  have c1 : impl_restriction.F (s, (f : Int), (i : Int), ()) = some ((m, ()), ()) := impl_restriction.ofR ⟨_, fun q hq => m5 q (Nat.lt_of_succ_le hq)⟩
  have c2 : spec_l09Restrict.F (s, (f : Int), (i : Int), ()) = some ((m, ()), ()) := spec_l09Restrict.ofR ⟨_, fun q hq => m6 q (Nat.lt_of_succ_le hq)⟩
  have e : restM s f i = m := by unfold restM; rw [c1]
  rw [e]
  exact ⟨m1, c1, c2⟩
theorem dropAt_sub {t : List Int} {j : Nat} : ∀ x ∈ dropAt t j, x ∈ t := by
  intro x hx
  unfold dropAt at hx
  rw [List.mem_append] at hx
  exact hx.elim List.mem_of_mem_take List.mem_of_mem_drop
theorem imgS_sub (c : List (List Int)) (im : List Int) {s t : List Int} (h : ∀ x ∈ s, x ∈ t) : ∀ x ∈ imgS c im s, x ∈ imgS c im t := by
  intro x hx
  have h1 := (setI_spec (imgL c im s)).2 x
  have h2 := (setI_spec (imgL c im t)).2 x
  rw [imgS, h2]
  rw [imgS, h1] at hx
  unfold imgL at *
  obtain ⟨v, hv, rfl⟩ := List.mem_map.1 hx
  exact List.mem_map.2 ⟨v, h v hv, rfl⟩
def plAt (s : ShfV) (c : List (List Int)) (im : List Int) (k : Nat) : Nat := idxIn s.1 (imgS c im (c.getD k []))
def plPlaces (s : ShfV) (c : List (List Int)) (im : List Int) : List Int := (List.range c.length).map fun k => ((plAt s c im k : Nat) : Int)
def plStalks (s : ShfV) (c : List (List Int)) (im : List Int) : List Int := (List.range c.length).map fun k => s.2.2.1.getD (plAt s c im k) 0
noncomputable def plMaps (s : ShfV) (c : List (List Int)) (im : List Int) : List MatV := mapsOf c fun e => restM s (plAt s c im e.2.2.toNat) (plAt s c im e.1.toNat)
noncomputable def pulS (s : ShfV) (c : List (List Int)) (im : List Int) : ShfV := (c, s.2.1, plStalks s c im, plMaps s c im)
theorem plAt_spec {s : ShfV} {c : List (List Int)} {im : List Int} (hm : MapOk c s.1 im) {k : Nat} (hk : k < c.length) : plAt s c im k < s.1.length ∧ s.1.getD (plAt s c im k) [] = imgS c im (c.getD k []) := idxIn_spec (hm.2 _ (getD_mem [] hk))
theorem plStalks_in {s : ShfV} (h : SheafOk s) (c : List (List Int)) (im : List Int) : AllIn 0 3 (plStalks s c im) := fun x hx => by
  unfold plStalks at hx
  obtain ⟨k, -, rfl⟩ := List.mem_map.1 hx
  obtain ⟨h1, h2⟩ := st_nat h.2.2.1.2.1 (plAt s c im k)
  omega
theorem face_at {c : List (List Int)} (hc : CplxOk c) {k j : Nat} (hk : k < c.length) (hj : j < (fcs c k).length) : ∃ f : Nat, (fcs c k).getD j 0 = (f : Int) ∧ f < c.length ∧ ∀ x ∈ c.getD f [], x ∈ c.getD k [] := by
  have hfl := fcs_length c k
  have h1 : 1 < (c.getD k []).length := by
    by_cases h : 1 < (c.getD k []).length
    · exact h
    · rw [if_neg h] at hfl; omega
  rw [if_pos h1] at hfl
  have hj' : j < (c.getD k []).length := by omega
  have hmem : dropAt (c.getD k []) j ∈ faces (c.getD k []) := mem_faces.2 ⟨h1, j, hj', rfl⟩
  obtain ⟨m1, m2⟩ := idxIn_spec (face_mem hc hk hmem)
  refine ⟨idxIn c (dropAt (c.getD k []) j), ?_, m1, fun x hx => ?_⟩
  · have e1 : fcs c k = (List.range (c.getD k []).length).map fun q => ((idxIn c (dropAt (c.getD k []) q) : Nat) : Int) := by
      unfold fcs faces
      rw [if_pos h1, List.map_map]; rfl
    rw [e1, getD_eq (by simpa using hj')]
    simp only [List.getElem_map, List.getElem_range]
  · rw [m2] at hx; exact dropAt_sub x hx
theorem pl_rest {s : ShfV} {c : List (List Int)} {im : List Int} (h : SheafOk s) (hc : CplxOk c) (hm : MapOk c s.1 im) {k j f : Nat} (hk : k < c.length) (hj : j < (fcs c k).length) (hf : (fcs c k).getD j 0 = (f : Int)) :
    f < c.length ∧ MatOk (restM s (plAt s c im f) (plAt s c im k)) ∧ impl_restriction.F (s, ((plAt s c im f : Nat) : Int), ((plAt s c im k : Nat) : Int), ()) = some ((restM s (plAt s c im f) (plAt s c im k), ()), ()) ∧
      spec_l09Restrict.F (s, ((plAt s c im f : Nat) : Int), ((plAt s c im k : Nat) : Int), ()) = some ((restM s (plAt s c im f) (plAt s c im k), ()), ()) := by
  obtain ⟨f', e1, e2, e3⟩ := face_at hc hk hj
  have : f = f' := by rw [hf] at e1; omega
  subst this
  obtain ⟨p1, p2⟩ := plAt_spec hm e2
  obtain ⟨q1, q2⟩ := plAt_spec hm hk
  exact ⟨e2, restM_spec h p1 q1 (by rw [p2, q2]; exact imgS_sub c im e3)⟩
theorem pl_getD (s : ShfV) (c : List (List Int)) (im : List Int) {k : Nat} (hk : k < c.length) : (plPlaces s c im).getD k 0 = ((plAt s c im k : Nat) : Int) := getD_range _ 0 hk
theorem plMaps_length (s : ShfV) (c : List (List Int)) (im : List Int) : (plMaps s c im).length = off c c.length := mapsOf_length _ _
theorem impl_pulled_1.val {s : ShfV} {c : List (List Int)} {im : List Int} (h : SheafOk s) (hc : CplxOk c) (hm : MapOk c s.1 im) (e : EdgeV) (he : e ∈ arr c c.length) :
    impl_pulled_1.cloG (s, plPlaces s c im, ()) (e, ()) = some (restM s (plAt s c im e.2.2.toNat) (plAt s c im e.1.toNat), ()) ∧ (restM s (plAt s c im e.2.2.toNat) (plAt s c im e.1.toNat)).2.2.2.length ≤ 1048576 := by
  simp only [arr, List.mem_flatMap, List.mem_range, arrAt, List.mem_map] at he
  obtain ⟨k, hk, j, hj, rfl⟩ := he
  obtain ⟨f, hf, hf', -⟩ := face_at hc hk hj
  obtain ⟨-, r1, r2, -⟩ := pl_rest h hc hm hk hj hf
  have r2 : impl_restriction.F ((s.1, (s.2.1, (s.2.2.1, s.2.2.2))), ((plAt s c im f : Nat) : Int), ((plAt s c im k : Nat) : Int), ()) = _ := r2
  have hpl : (plPlaces s c im).length = c.length := by simp [plPlaces]
  simp only [Int.toNat_natCast, hf]
  refine ⟨?_, by have h2 := mul32 r1.2.1 r1.2.2.1; have := r1.2.2.2.1; omega⟩
  show (impl_pulled_1.F (((k : Int), (j : Int), (f : Int)), s, plPlaces s c im, ())).map (·.1) = _
  have hT : impl_pulled_1.F (((k : Int), (j : Int), (f : Int)), s, plPlaces s c im, ()) = impl_pulled_1.T (k : Int) (j : Int) (f : Int) s.1 s.2.1 s.2.2.1 s.2.2.2 (plPlaces s c im) := impl_pulled_1.eq _ _ _ _ _ _ _ _
  rw [hT, impl_pulled_1.T, if_pos (idxI.2 (by omega)), if_pos (idxI.2 (by omega))]
  simp only [Int.toNat_natCast, pl_getD s c im hf', pl_getD s c im hk, r2]; rfl
theorem impl_pulled.val {s : ShfV} {c : List (List Int)} {im : List Int} (h : SheafOk s) (hc : CplxOk c) (hm : MapOk c s.1 im) : impl_pulled.F (s, c, im, ()) = some ((pulS s c im, ()), ()) := by
  have hn := hc.1
  have hl := h.2.2.1.1
  refine impl_pulled.of s.1 s.2.1 s.2.2.1 s.2.2.2 c im ?_
  obtain ⟨y, hy, hg⟩ := Goes.loop (R := ((ShfV × Unit) × Unit)) (fun k i (y : List Int × List Int) => impl_pulled.l3 k im c (c.length : Int) (i : Int) s.1 s.2.1 s.2.2.1 s.2.2.2 c [] 0 [] [] y.1 y.2) c.length (fun i y => y = ((List.range i).map (fun k => ((plAt s c im k : Nat) : Int)), (List.range i).map fun k => s.2.2.1.getD (plAt s c im k) 0)) (fun i y hi h2 => ⟨_, rfl, Goes.succ fun k => by
    have hmem := getD_mem ([] : List Int) hi
    have himg := impl_imageOf.val c im _ hc hmem (cplx4 hc hmem) hm.1
    obtain ⟨p1, p2⟩ := plAt_spec hm hi
    have hs := search_idx h.1 (hm.2 _ hmem)
    rw [h2, impl_pulled.l3_eq, if_pos (ltI.2 hi), if_pos (idxI.2 hi)]
    simp only [Int.toNat_natCast, himg, Option.bind_some, hs]
    rw [if_pos (by simp only [List.length_map, List.length_range, List.length_cons, List.length_nil, bigA]; omega), if_pos (idxI.2 (by unfold plAt at p1; omega)), if_pos (by simp only [List.length_map, List.length_range, List.length_cons, List.length_nil, bigA]; omega), wrapN (by omega), List.range_succ, List.map_append, List.map_append]
    rfl⟩) 0 ([], []) (Nat.zero_le _) rfl
  have hso := impl_sheafOf.val c s.2.1 (plStalks s c im) (impl_pulled_1.cloG (s, plPlaces s c im, ())) (fun e => restM s (plAt s c im e.2.2.toNat) (plAt s c im e.1.toNat)) hc (by simp [plStalks]; omega) (fun e he => impl_pulled_1.val h hc hm e he)
  refine Ev.of_eq (hg _ ((Ev.const _).succ fun k => ?_)) fun k => rfl
  rw [hy, impl_pulled.l3_eq, if_neg (by simp)]
  have hso : impl_sheafOf.F (c, s.2.1, (List.range c.length).map (fun k => s.2.2.1.getD (plAt s c im k) 0), impl_pulled_1.cloG ((s.1, (s.2.1, (s.2.2.1, s.2.2.2))), (List.range c.length).map (fun k => ((plAt s c im k : Nat) : Int)), ()), ()) = _ := hso
  rw [hso]; rfl
theorem spec_l13Pull.val {s : ShfV} {c : List (List Int)} {im : List Int} (h : SheafOk s) (hc : CplxOk c) (hm : MapOk c s.1 im) : spec_l13Pull.F (s, c, im, ()) = some ((pulS s c im, ()), ()) := by
  have hn := hc.1
  have hl := h.2.2.1.1
  have ho := off_le hc (Nat.le_refl c.length)
  refine spec_l13Pull.of s.1 s.2.1 s.2.2.1 s.2.2.2 c im ?_
  obtain ⟨y, hy, hg⟩ := Goes.loop (R := ((ShfV × Unit) × Unit)) (fun k i (y : List Int × List Int) => spec_l13Pull.l4 k s.1 s.2.1 s.2.2.1 s.2.2.2 c im (i : Int) [] 0 [] [] y.1 y.2) c.length (fun i y => y = ((List.range i).map (fun k => ((plAt s c im k : Nat) : Int)), (List.range i).map fun k => s.2.2.1.getD (plAt s c im k) 0)) (fun i y hi h2 => ⟨_, rfl, Goes.succ fun k => by
    have hmem := getD_mem ([] : List Int) hi
    have himg := spec_l13Image.val c im _ hc hmem (cplx4 hc hmem) hm.1
    obtain ⟨p1, p2⟩ := plAt_spec hm hi
    have hs := find_idx h.1 (hm.2 _ hmem)
    rw [h2, spec_l13Pull.l4_eq, if_pos (ltI.2 hi), if_pos (idxI.2 hi)]
    simp only [Int.toNat_natCast, himg, Option.bind_some, hs]
    rw [if_pos (by simp only [List.length_map, List.length_range, List.length_cons, List.length_nil, bigA]; omega), if_pos (idxI.2 (by unfold plAt at p1; omega)), if_pos (by simp only [List.length_map, List.length_range, List.length_cons, List.length_nil, bigA]; omega), wrapN (by omega), List.range_succ, List.map_append, List.map_append]
    rfl⟩) 0 ([], []) (Nat.zero_le _) rfl
  have hnew : spec_l09New.F (c, s.2.1, plStalks s c im, ()) = _ := spec_l09New.val c s.2.1 (plStalks s c im) hc (by simp [plStalks]) (plStalks_in h c im)
  have hpl : (plPlaces s c im).length = c.length := by simp [plPlaces]
  obtain ⟨x, ⟨hx1, hx2⟩, hg3⟩ := Goes.loop (R := ((ShfV × Unit) × Unit)) (fun k i (x : List MatV) => spec_l13Pull.l11 k s.1 s.2.1 s.2.2.1 s.2.2.2 c (i : Int) [] 0 [] [] (plPlaces s c im) c s.2.1 (plStalks s c im) x) c.length (fun i x => x.length = off c c.length ∧ x.take (off c i) = (plMaps s c im).take (off c i)) (fun i x hi ⟨q1, q2⟩ => by
    have e5 : (fcs c i).length = (faces (c.getD i [])).length := by simp [fcs]
    have e6 := faces_le hc hi
    obtain ⟨z, ⟨hz1, hz2⟩, hg2⟩ := Goes.loop (R := ((ShfV × Unit) × Unit)) (fun k j (z : List MatV) => spec_l13Pull.l15 k s.1 s.2.1 s.2.2.1 s.2.2.2 c (i : Int) (j : Int) [] 0 [] [] (plPlaces s c im) c s.2.1 (plStalks s c im) z (fcs c i)) (fcs c i).length (fun j z => z.length = off c c.length ∧ z.take (off c i + j) = (plMaps s c im).take (off c i + j)) (fun j z hj ⟨r1, r2⟩ => by
      obtain ⟨f, hf, hf', -⟩ := face_at hc hi hj
      obtain ⟨-, k1, -, k3⟩ := pl_rest h hc hm hi hj hf
      have k3 : spec_l09Restrict.F ((s.1, (s.2.1, (s.2.2.1, s.2.2.2))), ((plAt s c im f : Nat) : Int), ((plAt s c im i : Nat) : Int), ()) = _ := k3
      have hlt := off_lt hi hj
      have hplace := spec_l09Place.val c hc i (by omega) j (by omega)
      refine ⟨z.set (off c i + j) (restM s (plAt s c im f) (plAt s c im i)), ⟨by simp [r1], ?_⟩, Goes.succ fun k => ?_⟩
      · rw [show off c i + (j + 1) = off c i + j + 1 by omega, List.take_add_one, List.take_add_one, List.take_set_of_le (Nat.le_refl _), r2]
        have e1 : (plMaps s c im)[off c i + j]? = some (restM s (plAt s c im f) (plAt s c im i)) := by
          have e2 : (plMaps s c im).getD (off c i + j) (0, 0, 0, []) = restM s (plAt s c im f) (plAt s c im i) := by
            rw [plMaps, mapsOf_range, getD_range _ _ (by rw [arr_length]; exact hlt), arr_getD c hi hj, hf]
            simp only [Int.toNat_natCast]
          rw [getD_eq (by rw [plMaps_length]; omega)] at e2
          rw [← e2, List.getElem?_eq_getElem (by rw [plMaps_length]; omega)]
        rw [e1, List.getElem?_set_self (by omega)]
      · rw [spec_l13Pull.l15_eq, if_pos (ltI.2 hj), hplace]
        simp only [Option.bind_some]
        rw [if_pos (idxI.2 hj), Int.toNat_natCast j, hf, if_pos (idxI.2 (by omega)), if_pos (idxI.2 (by omega))]
        simp only [Int.toNat_natCast, pl_getD s c im hf', pl_getD s c im hi, k3, Option.bind_some]
        rw [if_pos (idxI.2 (by omega)), wrapN (by omega)]) 0 x (Nat.zero_le _) ⟨q1, by simpa using q2⟩
    refine ⟨z, ⟨hz1, by rw [off]; exact hz2⟩, (Goes.succ fun k => ?_).trans (hg2.trans (Goes.succ fun k => ?_))⟩
    · rw [spec_l13Pull.l11_eq, if_pos (ltI.2 hi), spec_l05Faces.val c hc i hi]; rfl
    · rw [spec_l13Pull.l15_eq, if_neg (by simp), wrapN (by omega)]) 0 (mapsOf c (newM s.2.1 (plStalks s c im))) (Nat.zero_le _) ⟨mapsOf_length _ _, by simp [off]⟩
  have hxe : x = plMaps s c im := by
    rw [List.take_of_length_le (by omega), List.take_of_length_le (by rw [plMaps_length]; exact Nat.le_refl _)] at hx2
    exact hx2
  refine Ev.of_eq (hg _ (Ev.succ (hg3 _ ((Ev.const _).succ fun k => ?_)) fun k => ?_)) fun k => rfl
  · rw [spec_l13Pull.l11_eq, if_neg (by simp), hxe]; rfl
  · rw [hy, spec_l13Pull.l4_eq, if_neg (by simp)]
    have hnew : spec_l09New.F (c, s.2.1, (List.range c.length).map (fun k => s.2.2.1.getD (plAt s c im k) 0), ()) = _ := hnew
    rw [hnew]; rfl
theorem pulS_small {s : ShfV} {c : List (List Int)} {im : List Int} (h : SheafOk s) (hc : CplxOk c) (hm : MapOk c s.1 im) : SmSh (pulS s c im) := by
  have hn := hc.1
  have ho := off_le hc (Nat.le_refl c.length)
  refine ⟨hc.small, by simp [Sm, pulS, plStalks]; omega, ⟨by show (plMaps s c im).length ≤ _; rw [plMaps_length]; omega, fun m hm' => ?_⟩⟩
  have hm' : m ∈ plMaps s c im := hm'
  simp only [plMaps, mapsOf, List.mem_map] at hm'
  obtain ⟨e, he, rfl⟩ := hm'
  exact (impl_pulled_1.val h hc hm e he).2
def IsIn (p c : List (List Int)) : Prop := ∀ s ∈ p, s ∈ c
theorem spec_l13Part.val (p c : List (List Int)) (hp : p.length ≤ 1048576) (h : SmL c) : ∃ v, spec_l13Part.F (p, c, ()) = some ((v, ()), ()) ∧ (v = true ↔ IsIn p c) := by
  obtain ⟨v, hv, hv'⟩ := Ev.allP (L := fun k i => spec_l13Part.l2 k p c (i : Int)) (a := ()) (b := ()) (n := p.length) (fun i => p.getD i [] ∈ c) true (fun i hi => by
    have E := fun k => spec_l13Part.l2_eq k p c (i : Int)
    obtain ⟨r, hr, hr'⟩ := spec_l05Find.val c (p.getD i []) h
    simp only [if_pos (ltI.2 hi), if_pos (idxI.2 hi), Int.toNat_natCast, hr, Option.bind_some, wrapN (show i < 4611686018427387904 by omega)] at E
    by_cases hm : p.getD i [] ∈ c
    · exact .inl ⟨hm, fun k => by rw [E, if_neg (by simp only [decide_eq_true_eq, hr']; exact fun hh => hh hm)]⟩
    · exact .inr ⟨hm, fun k => by rw [E, if_pos (by simp only [decide_eq_true_eq, hr']; exact hm)]⟩) ((Ev.const _).succ fun k => by rw [spec_l13Part.l2_eq, if_neg (by simp)]) 0 (Nat.zero_le _)
  refine ⟨v, spec_l13Part.of _ _ (hv.of_eq fun k => rfl), hv'.trans ⟨fun ⟨_, h⟩ s hs => ?_, fun h => ⟨rfl, fun j _ hj => h _ (getD_mem _ hj)⟩⟩⟩
  obtain ⟨j, hj, rfl⟩ := List.getElem_of_mem hs
  have := h j (Nat.zero_le _) hj
  rwa [getD_eq hj] at this
theorem impl_isPart.val (p c : List (List Int)) (hp : SmL p) (h : SmL c) (hs : SortedS c) : ∃ v, impl_isPart.F (p, c, ()) = some ((v, ()), ()) ∧ (v = true ↔ IsIn p c) := by
  have hcf := slices_ContainsFunc_LLint64_Lint64.val p (impl_isPart_1.cloG (c, ())) (fun f => decide (f ∉ c)) (fun f hf => by
    show (impl_isPart_1.F (f, c, ())).map (·.1) = _
    obtain ⟨r, hr, hr'⟩ := impl_indexOf.val c f hs h (hp.2 f hf)
    rw [impl_isPart_1.eq, impl_isPart_1.T, hr]
    simp only [Option.bind_some, Option.map_some, hr']) (by have := hp.1; omega)
  rw [impl_isPart.eq, impl_isPart.T, hcf]
  refine ⟨_, rfl, ?_⟩
  simp [IsIn]
theorem impl_isBetween.val (m : MatV) (p a b : Int) (hm : m.2.2.2.length < 4611686018427387904) : ∃ v, impl_isBetween.F (m, p, a, b, ()) = some ((v, ()), ()) ∧ (v = true ↔ MatOk m ∧ m.1 = p ∧ m.2.1 = b ∧ m.2.2.1 = a) := by
  obtain ⟨q, r, cc, xs⟩ := m
  obtain ⟨v1, h1, h1'⟩ := impl_ValidMatrix.val (q, r, cc, xs) hm
  rw [impl_isBetween.eq, impl_isBetween.T, h1]
  simp only [Option.bind_some]
  cases v1 with
  | false => exact ⟨false, by rw [if_neg (by simp)], by simp only [Bool.false_eq_true, false_iff]; exact fun hh => absurd (h1'.2 hh.1) (by simp)⟩
  | true =>
    have hmat := h1'.1 rfl
    rw [if_pos rfl]
    by_cases e1 : q = p
    · rw [if_pos (by simp only [beq_iff_eq]; exact e1)]
      by_cases e2 : r = b
      · rw [if_pos (by simp only [beq_iff_eq]; exact e2)]
        exact ⟨_, rfl, by simp only [beq_iff_eq]; exact ⟨fun e3 => ⟨hmat, e1, e2, e3⟩, fun hh => hh.2.2.2⟩⟩
      · exact ⟨false, by rw [if_neg (by simp only [beq_iff_eq]; exact e2)], by simp only [Bool.false_eq_true, false_iff]; exact fun hh => e2 hh.2.2.1⟩
    · exact ⟨false, by rw [if_neg (by simp only [beq_iff_eq]; exact e1)], by simp only [Bool.false_eq_true, false_iff]; exact fun hh => e1 hh.2.1⟩
theorem off_split {c : List (List Int)} : ∀ {n q : Nat}, q < off c n → ∃ s, s < n ∧ ∃ j, j < (fcs c s).length ∧ q = off c s + j := by
  intro n
  induction n with
  | zero => intro q h; simp [off] at h
  | succ n ih =>
    intro q h
    by_cases hq : q < off c n
    · obtain ⟨s, hs, j, hj, e⟩ := ih hq
      exact ⟨s, by omega, j, hj, e⟩
    · rw [off] at h
      exact ⟨n, by omega, q - off c n, by omega, by omega⟩
theorem impl_ValidSheaf.val (s : ShfV) (hsm : SmSh s) : ∃ v, impl_ValidSheaf.F (s, ()) = some ((v, ()), ()) ∧ (v = true ↔ SheafOk s) := by
  obtain ⟨c, p, st, ms⟩ := s
  obtain ⟨hc, hst, hms⟩ := hsm
  have hc : SmL c := hc
  have hst : st.length ≤ 1048576 := hst
  have hms : SmMs ms := hms
  unfold SheafOk
  simp only []
  obtain ⟨v1, h1, h1'⟩ := impl_ValidComplex.val c hc
  obtain ⟨v2, h2, h2'⟩ := impl_ValidPrime.val p
  obtain ⟨v3, h3, h3'⟩ := impl_areStalks.val c st hc.1 hst
  cases v1 with
  | false => exact ⟨false, impl_ValidSheaf.of _ _ _ _ ((Ev.const _).of_eq fun k => by rw [impl_ValidSheaf.T, h1]; rfl), by simp only [Bool.false_eq_true, false_iff]; exact fun hh => absurd (h1'.2 hh.1) (by simp)⟩
  | true =>
  cases v2 with
  | false => exact ⟨false, impl_ValidSheaf.of _ _ _ _ ((Ev.const _).of_eq fun k => by rw [impl_ValidSheaf.T, h1, h2]; rfl), by simp only [Bool.false_eq_true, false_iff]; exact fun hh => absurd (h2'.2 hh.2.1) (by simp)⟩
  | true =>
  cases v3 with
  | false => exact ⟨false, impl_ValidSheaf.of _ _ _ _ ((Ev.const _).of_eq fun k => by rw [impl_ValidSheaf.T, h1, h2, h3]; rfl), by simp only [Bool.false_eq_true, false_iff]; exact fun hh => absurd (h3'.2 hh.2.2.1) (by simp)⟩
  | true =>
  have hcx := h1'.1 rfl
  have hstalk := h3'.1 rfl
  have hcl := hcx.1
  have hoff := off_le hcx (Nat.le_refl c.length)
  have hal := arr_length c c.length
  obtain ⟨A, hA⟩ : ∃ A, arr c c.length = A := ⟨_, rfl⟩
  rw [hA] at hal
  obtain ⟨b, hb, hb'⟩ := Ev.allP (L := fun k q => impl_ValidSheaf.l5 k (A.length : Int) (q : Int) c p st ms A) (a := ()) (b := ()) (n := A.length) (fun q => q < ms.length ∧ ∀ i j, i < c.length → j < (fcs c i).length → q = off c i + j → MapAt c p st (ms.getD q (0, 0, 0, [])) i j) ((A.length : Int) == (ms.length : Int)) (fun q hq => by
    obtain ⟨i, hi, j, hj, e⟩ := off_split (show q < off c c.length by omega)
    have hg := arr_getD c hi hj
    rw [← e, hA] at hg
    obtain ⟨x, hx, hxc⟩ := fcs_mem hcx hi (getD_mem (0 : Int) hj)
    have E := fun k => impl_ValidSheaf.l5_eq k (A.length : Int) (q : Int) c p st ms A
    simp only [if_pos (ltI.2 hq), if_pos (idxI.2 hq), Int.toNat_natCast, hg, wrapN (show q < 4611686018427387904 by omega)] at E
    have huniq : ∀ i' j', i' < c.length → j' < (fcs c i').length → q = off c i' + j' → i' = i ∧ j' = j := fun i' j' hi' hj' e' => by
      have g2 := arr_getD c hi' hj'
      rw [← e', hA, hg] at g2
      simp only [Prod.mk.injEq, Int.ofNat_inj] at g2
      exact ⟨g2.1.symm, g2.2.1.symm⟩
    by_cases hqm : q < ms.length
    · have hml : (ms.getD q (0, 0, 0, [])).2.2.2.length < 4611686018427387904 := by
        have : (ms.getD q (0, 0, 0, [])).2.2.2.length ≤ 1048576 := hms.2 _ (getD_mem _ hqm)
        omega
      obtain ⟨v, hv, hv'⟩ := impl_isBetween.val (ms.getD q (0, 0, 0, [])) p (st.getD ((fcs c i).getD j 0).toNat 0) (st.getD i 0) hml
      have hst2 := hstalk.1
      simp only [if_neg (show ¬ decide ((q : Int) ≥ (ms.length : Int)) = true by simp only [decide_eq_true_eq]; omega), if_pos (idxI.2 hqm), if_pos (show 0 ≤ (fcs c i).getD j 0 ∧ (fcs c i).getD j 0 < (st.length : Int) by rw [hx]; omega), if_pos (show 0 ≤ (i : Int) ∧ (i : Int) < (st.length : Int) by omega), hv, Option.bind_some] at E
      cases v with
      | true => exact .inl ⟨⟨hqm, fun i' j' hi' hj' e' => by obtain ⟨rfl, rfl⟩ := huniq i' j' hi' hj' e'; exact hv'.1 rfl⟩, fun k => by rw [E]; rfl⟩
      | false => exact .inr ⟨fun hh => absurd (hv'.2 (hh.2 i j hi hj e)) (by simp), fun k => by rw [E]; rfl⟩
    · exact .inr ⟨fun hh => hqm hh.1, fun k => by rw [E, if_pos (by simp only [decide_eq_true_eq]; omega)]⟩) ((Ev.const _).succ fun k => by rw [impl_ValidSheaf.l5_eq, if_neg (by simp)]) 0 (Nat.zero_le _)
  refine ⟨b, impl_ValidSheaf.of _ _ _ _ (hb.of_eq fun k => ?_), hb'.trans ?_⟩
  · rw [impl_ValidSheaf.T, h1, h2, h3, impl_arrows.val c hcx, hA]; rfl
  · simp only [beq_iff_eq, Int.ofNat_inj]
    constructor
    · rintro ⟨e, hall⟩
      refine ⟨hcx, h2'.1 rfl, hstalk, by omega, fun i hi j hj => ?_⟩
      have := off_lt hi hj
      exact (hall (off c i + j) (Nat.zero_le _) (by omega)).2 i j hi hj rfl
    · rintro ⟨-, -, -, e, hall⟩
      exact ⟨by omega, fun q _ hq => ⟨by omega, fun i j hi hj e' => e' ▸ hall i hi j hj⟩⟩
theorem spec_l09Two.val (s : ShfV) (h : SheafOk s) {k i j : Nat} (hk : k < s.1.length) (h3 : 2 < (s.1.getD k []).length) (hi : i < (s.1.getD k []).length) (hj : j < (s.1.getD k []).length) (hij : i ≠ j) :
    spec_l09Two.F (s, (k : Int), (i : Int), (j : Int), ()) = some ((mulM (mapAt s k i) (mapAt s (fc s.1 k i) (if i < j then j - 1 else j)), ()), ()) := by
  have hT : spec_l09Two.F (s, (k : Int), (i : Int), (j : Int), ()) = spec_l09Two.T s.1 s.2.1 s.2.2.1 s.2.2.2 (k : Int) (i : Int) (j : Int) := spec_l09Two.eq _ _ _ _ _ _ _
  have h4 := (h.1.2 k hk).1.1.2
  have hcl := h.1.1
  rw [hT, spec_l09Two.T, spec_l05Faces.val s.1 h.1 k hk]
  simp only [Option.bind_some]
  by_cases hlt : i < j
  · obtain ⟨f, F⟩ := sqFit h hk h3 hi (show j - 1 + 1 < _ by omega)
    have g1 : spec_l09Get.F ((s.1, (s.2.1, (s.2.2.1, s.2.2.2))), (k : Int), (i : Int), ()) = _ := spec_l09Get.val s h k i hk F.ilt
    have g2 : spec_l09Get.F ((s.1, (s.2.1, (s.2.2.1, s.2.2.2))), (f : Int), ((j - 1 : Nat) : Int), ()) = _ := spec_l09Get.val s h f (j - 1) F.lt F.jlt
    rw [if_pos (idxI.2 F.ilt), if_pos (by simp only [decide_eq_true_eq]; omega), g1, wrapP (by omega) (by omega)]
    simp only [Option.bind_some, Int.toNat_natCast, F.at_, g2, F.tim]
    rw [if_pos hlt, F.fc_]
  · obtain ⟨f, F⟩ := sqFit h hk h3 hi (show j + 1 < _ by omega)
    have g1 : spec_l09Get.F ((s.1, (s.2.1, (s.2.2.1, s.2.2.2))), (k : Int), (i : Int), ()) = _ := spec_l09Get.val s h k i hk F.ilt
    have g2 : spec_l09Get.F ((s.1, (s.2.1, (s.2.2.1, s.2.2.2))), (f : Int), (j : Int), ()) = _ := spec_l09Get.val s h f j F.lt F.jlt
    rw [if_pos (idxI.2 F.ilt), if_neg (by simp only [decide_eq_true_eq]; omega), g1]
    simp only [Option.bind_some, Int.toNat_natCast, F.at_, g2, F.tim]
    rw [if_neg hlt, F.fc_]
theorem spec_l09Wrong.val (s : ShfV) (h : SheafOk s) : spec_l09Wrong.F (s, ()) = some ((match wrongT s with | none => (-1, 0, 0, ()) | some (k, i, j) => ((k : Int), (i : Int), (j : Int), ())), ()) := by
  have hcl := h.1.1
  have hT : ∀ r, Ev (fun k => spec_l09Wrong.T k s.1 s.2.1 s.2.2.1 s.2.2.2) r → spec_l09Wrong.F (s, ()) = some r := fun r hr => spec_l09Wrong.of _ _ _ _ hr
  have main := Goes.find (R := ((Int × Int × Int × Unit) × Unit)) (L := fun n k => spec_l09Wrong.l2 n s.1 s.2.1 s.2.2.1 s.2.2.2 (k : Int)) (M := fun _ => some ((-1, 0, 0, ()), ())) (n := s.1.length) 0 (wrongK s) (fun t : Nat × Nat × Nat => (((t.1 : Int), (t.2.1 : Int), (t.2.2 : Int), ()), ())) (fun k _ hk => by
    obtain ⟨t, ht⟩ : ∃ t, s.1.getD k [] = t := ⟨_, rfl⟩
    have h4 := (h.1.2 k hk).1.1
    rw [ht] at h4
    have e0 : Goes (fun n => spec_l09Wrong.l2 n s.1 s.2.1 s.2.2.1 s.2.2.2 (k : Int)) (fun n => spec_l09Wrong.l6 n s.1 s.2.1 s.2.2.1 s.2.2.2 (k : Int) (t.length : Int) ((0 : Nat) : Int)) := Goes.succ fun n => by rw [spec_l09Wrong.l2_eq, if_pos (ltI.2 hk), if_pos (idxI.2 hk)]; simp only [Int.toNat_natCast, ht]; rfl
    by_cases h3 : t.length < 3
    · exact .inl ⟨by rw [wrongK, ht, if_pos h3], e0.trans (Goes.succ fun n => by rw [spec_l09Wrong.l6_eq, if_pos (by simp only [decide_eq_true_eq]; omega), if_neg (by simp only [decide_eq_true_eq]; omega), wrapN (by omega)])⟩
    have hw : wrongK s k = (List.range' 0 (t.length - 0)).findSome? (wrongI s k t.length) := by rw [wrongK, ht, if_neg h3]
    rw [hw]
    have inner := Goes.find (R := ((Int × Int × Int × Unit) × Unit)) (L := fun n i => spec_l09Wrong.l6 n s.1 s.2.1 s.2.2.1 s.2.2.2 (k : Int) (t.length : Int) (i : Int)) (M := fun n => spec_l09Wrong.l2 n s.1 s.2.1 s.2.2.1 s.2.2.2 ((k + 1 : Nat) : Int)) (n := t.length) 0 (wrongI s k t.length) (fun t : Nat × Nat × Nat => (((t.1 : Int), (t.2.1 : Int), (t.2.2 : Int), ()), ())) (fun i _ hi => by
      have e1 : Goes (fun n => spec_l09Wrong.l6 n s.1 s.2.1 s.2.2.1 s.2.2.2 (k : Int) (t.length : Int) (i : Int)) (fun n => spec_l09Wrong.l9 n s.1 s.2.1 s.2.2.1 s.2.2.2 (k : Int) (t.length : Int) (i : Int) ((i + 1 : Nat) : Int)) := Goes.succ fun n => by rw [spec_l09Wrong.l6_eq, if_pos (ltI.2 hi), if_pos (by simp only [decide_eq_true_eq]; omega), wrapN (by omega)]
      have deep := Goes.find (R := ((Int × Int × Int × Unit) × Unit)) (L := fun n j => spec_l09Wrong.l9 n s.1 s.2.1 s.2.2.1 s.2.2.2 (k : Int) (t.length : Int) (i : Int) (j : Int)) (M := fun n => spec_l09Wrong.l6 n s.1 s.2.1 s.2.2.1 s.2.2.2 (k : Int) (t.length : Int) ((i + 1 : Nat) : Int)) (n := t.length) (i + 1) (wrongJ s k i) (fun t : Nat × Nat × Nat => (((t.1 : Int), (t.2.1 : Int), (t.2.2 : Int), ()), ())) (fun j hij hj => by
        have A := spec_l09Two.val s h hk (by rw [ht]; omega) (show i < _ by rw [ht]; omega) (show j < _ by rw [ht]; omega) (by omega)
        have B := spec_l09Two.val s h hk (by rw [ht]; omega) (show j < _ by rw [ht]; omega) (show i < _ by rw [ht]; omega) (by omega)
        rw [if_pos (by omega)] at A
        rw [if_neg (by omega)] at B
        have A : spec_l09Two.F ((s.1, (s.2.1, (s.2.2.1, s.2.2.2))), (k : Int), (i : Int), (j : Int), ()) = some ((sqA s k i j, ()), ()) := A
        have B : spec_l09Two.F ((s.1, (s.2.1, (s.2.2.1, s.2.2.2))), (k : Int), (j : Int), (i : Int), ()) = some ((sqB s k i j, ()), ()) := B
        obtain ⟨f, F⟩ := sqFit h hk (by rw [ht]; omega) (show i < _ by rw [ht]; omega) (show j - 1 + 1 < _ by rw [ht]; omega)
        have hA : sqA s k i j = mulM (mapAt s k i) (mapAt s f (j - 1)) := by rw [sqA, F.fc_]
        obtain ⟨b, hb, hb'⟩ := spec_l03Same.same (sqA s k i j) (sqB s k i j) (by rw [hA]; exact F.ok.small)
        have E2 := fun n => spec_l09Wrong.l9_eq n s.1 s.2.1 s.2.2.1 s.2.2.2 (k : Int) (t.length : Int) (i : Int) (j : Int)
        simp only [if_pos (ltI.2 hj), A, B, Option.bind_some, hb, wrapN (show j < 4611686018427387904 by omega)] at E2
        cases b with
        | true => exact .inl ⟨by rw [wrongJ, if_pos (hb'.1 rfl)], Goes.succ fun n => by rw [E2, if_neg (by simp)]⟩
        | false => exact .inr ⟨(k, i, j), by rw [wrongJ, if_neg (fun e => absurd (hb'.2 e) (by simp))], (Ev.const _).succ fun n => by rw [E2, if_pos (by simp)]⟩) (Goes.succ fun n => by rw [spec_l09Wrong.l9_eq, if_neg (by simp), wrapN (by omega)]) (i + 1) (Nat.le_refl _) (by omega)
      rcases deep with ⟨d1, d2⟩ | ⟨r, d1, d2⟩
      · exact .inl ⟨d1, e1.trans d2⟩
      · exact .inr ⟨r, d1, e1 _ d2⟩) (Goes.succ fun n => by rw [spec_l09Wrong.l6_eq, if_neg (by simp), wrapN (by omega)]) 0 (Nat.le_refl _) (Nat.zero_le _)
    rcases inner with ⟨d1, d2⟩ | ⟨r, d1, d2⟩
    · exact .inl ⟨d1, e0.trans d2⟩
    · exact .inr ⟨r, d1, e0 _ d2⟩) (Goes.succ fun n => by rw [spec_l09Wrong.l2_eq, if_neg (by simp)]) 0 (Nat.le_refl _) (Nat.zero_le _)
  rcases main with ⟨d1, d2⟩ | ⟨⟨k, i, j⟩, d1, d2⟩
  · rw [wrongT, d1]
    exact hT _ ((d2 _ (Ev.const _)).of_eq fun n => rfl)
  · rw [wrongT, d1]
    exact hT _ (d2.of_eq fun n => rfl)
def ShfIs (s : ShfV) : Prop := SheafOk s ∧ wrongT s = none
theorem impl_IsSheaf.val (s : ShfV) (hs : SmSh s) : ∃ v, impl_IsSheaf.F (s, ()) = some ((v, ()), ()) ∧ (v = true ↔ ShfIs s) := by
  have hT : impl_IsSheaf.F (s, ()) = impl_IsSheaf.T s.1 s.2.1 s.2.2.1 s.2.2.2 := impl_IsSheaf.eq _ _ _ _
  obtain ⟨v, hv, hv'⟩ := impl_ValidSheaf.val s hs
  have hv : impl_ValidSheaf.F ((s.1, (s.2.1, (s.2.2.1, s.2.2.2))), ()) = _ := hv
  rw [hT, impl_IsSheaf.T, hv]
  simp only [Option.bind_some]
  cases v with
  | false => exact ⟨false, by rw [if_pos (by simp)], by simp only [Bool.false_eq_true, false_iff]; exact fun h => absurd (hv'.2 h.1) (by simp)⟩
  | true =>
    have hok := hv'.1 rfl
    have hw : impl_wrongSquare.F ((s.1, (s.2.1, (s.2.2.1, s.2.2.2))), ()) = _ := impl_wrongSquare.val s hok
    rw [if_neg (by simp), hw]
    simp only [Option.bind_some]
    cases hwt : wrongT s with
    | none => exact ⟨true, rfl, by simp [ShfIs, hok, hwt]⟩
    | some t => obtain ⟨k, i, j⟩ := t; exact ⟨false, rfl, by simp [ShfIs, hwt]⟩
theorem spec_l09Is.val (s : ShfV) (hs : SmSh s) : ∃ v, spec_l09Is.F (s, ()) = some ((v, ()), ()) ∧ (v = true ↔ ShfIs s) := by
  have hT : spec_l09Is.F (s, ()) = spec_l09Is.T s.1 s.2.1 s.2.2.1 s.2.2.2 := spec_l09Is.eq _ _ _ _
  obtain ⟨v, hv, hv'⟩ := spec_l09Ok.val s hs
  have hv : spec_l09Ok.F ((s.1, (s.2.1, (s.2.2.1, s.2.2.2))), ()) = _ := hv
  rw [hT, spec_l09Is.T, hv]
  simp only [Option.bind_some]
  cases v with
  | false => exact ⟨false, by rw [if_pos (by simp)], by simp only [Bool.false_eq_true, false_iff]; exact fun h => absurd (hv'.2 h.1) (by simp)⟩
  | true =>
    have hok := hv'.1 rfl
    have hw : spec_l09Wrong.F ((s.1, (s.2.1, (s.2.2.1, s.2.2.2))), ()) = _ := spec_l09Wrong.val s hok
    rw [if_neg (by simp), hw]
    simp only [Option.bind_some]
    cases hwt : wrongT s with
    | none => exact ⟨true, rfl, by simp [ShfIs, hok, hwt]⟩
    | some t => obtain ⟨k, i, j⟩ := t; exact ⟨false, by simp, by simp [ShfIs, hwt]⟩
theorem laws_toInt64S.val (xs : List Int) (h : xs.length ≤ 1099511627776) : laws_toInt64S.F (xs, ()) = some ((xs, ()), ()) := by
  refine laws_toInt64S.of xs ?_
  have := Goes.fill (L := fun k i ys => laws_toInt64S.l3 k xs (i : Int) ys) xs 0 (fun k i ys hi hy => by
    rw [laws_toInt64S.l3_eq, if_pos (ltI.2 hi), if_pos (idxI.2 hi), if_pos (by omega), wrapN (by omega)]
    simp only [Int.toNat_natCast]) (List.replicate xs.length 0) (by simp)
  refine Ev.of_eq (this _ ((Ev.const _).succ fun k => ?_)) fun k => ?_
  · rw [laws_toInt64S.l3_eq, if_neg (by simp)]
  · rw [laws_toInt64S.T, if_pos (by simp only [bigN]; omega)]; rfl
theorem laws_eqInt64S.val (xs ys : List Int) (hn : xs.length < 4611686018427387904) : ∃ b, laws_eqInt64S.F (xs, ys, ()) = some ((b, ()), ()) ∧ (b = true ↔ xs = ys) := by
  by_cases hl : xs.length = ys.length
  · obtain ⟨b, hb, hb'⟩ := Ev.all (L := fun k i => laws_eqInt64S.l4 k xs ys (i : Int)) (a := ()) (b := ()) (n := xs.length) (fun i => xs.getD i 0 == ys.getD i 0) (fun k i hi => by
      rw [laws_eqInt64S.l4_eq, if_pos (ltI.2 hi), if_pos (idxI.2 hi), if_pos (by omega), wrapN (by omega)]
      simp only [Int.toNat_natCast]
      exact ite_nb _ _ _) (fun k => by rw [laws_eqInt64S.l4_eq, if_neg (by simp)]) 0 (Nat.zero_le _)
    refine ⟨b, laws_eqInt64S.of _ _ (hb.of_eq fun k => ?_), by rw [hb', all_eq hl (fun x y => x == y) (by simp)]⟩
    rw [laws_eqInt64S.T, if_neg (by simp [hl])]
    rfl
  · refine ⟨false, laws_eqInt64S.of _ _ ((Ev.const _).of_eq fun k => ?_), by simp; intro e; exact hl (by rw [e])⟩
    rw [laws_eqInt64S.T, if_pos (by simp; omega)]
theorem laws_szInt64S.val (xs : List Int) (l : Int) (h0 : 0 ≤ l) (h1 : l ≤ 1048576) (hx : xs.length ≤ maxLen) : ∃ r, laws_szInt64S.F (xs, l, ()) = some ((r, ()), ()) ∧ (r = -1 ∨ 0 ≤ r ∧ r ≤ l ∧ Sm xs) := by
  have : xs.length ≤ 9223372036854775807 := hx
  rw [laws_szInt64S.eq, laws_szInt64S.T, wrapI (by omega) (by omega)]
  by_cases h : l < xs.length
  · exact ⟨-1, by rw [if_pos (by simp; omega)], .inl rfl⟩
  · exact ⟨_, by rw [if_neg (by simp; omega)], .inr ⟨by omega, by omega, by unfold Sm; omega⟩⟩
theorem laws_szInt64SS.val (xs : List (List Int)) (l : Int) (h0 : 0 ≤ l) (h1 : l ≤ 1048576) (hx : xs.length ≤ maxLen) (hr : ∀ x ∈ xs, x.length ≤ maxLen) : ∃ r, laws_szInt64SS.F (xs, l, ()) = some ((r, ()), ()) ∧ (r = -1 ∨ 0 ≤ r ∧ r ≤ l ∧ SmL xs) := by
  have : xs.length ≤ 9223372036854775807 := hx
  by_cases h : l < xs.length
  · exact ⟨-1, laws_szInt64SS.of _ _ ((Ev.const _).of_eq fun k => by rw [laws_szInt64SS.T, wrapI (by omega) (by omega), if_pos (by simp; omega)]), .inl rfl⟩
  obtain ⟨r, hv, h2⟩ := sz_loop (fun k i s => laws_szInt64SS.l5 k xs s (i : Int)) xs [] Sm (fun i s hi s0 s1 => by
    have E := fun k => laws_szInt64SS.l5_eq k xs s (i : Int)
    obtain ⟨r, hr1, hr2⟩ := laws_szInt64S.val (xs.getD i []) s s0 s1 (hr _ (getD_mem _ hi))
    simp only [if_pos (ltI.2 hi), if_pos (idxI.2 hi), Int.toNat_natCast, hr1, Option.bind_some, wrapN (show i < 4611686018427387904 by omega)] at E
    rcases hr2 with rfl | ⟨a, b, c⟩
    · exact .inr fun k => by rw [E, if_pos (by simp)]
    · exact .inl ⟨r, a, b, c, fun k => by rw [E, if_neg (by simp; omega)]⟩) (fun k l => by rw [laws_szInt64SS.l5_eq, if_neg (by simp)]) (l - xs.length) (by omega) (by omega)
  refine ⟨r, laws_szInt64SS.of _ _ (hv.of_eq fun k => by rw [laws_szInt64SS.T, wrapI (by omega) (by omega), if_neg (by simp; omega)]; rfl), ?_⟩
  rcases h2 with h2 | ⟨a, b, c⟩
  · exact .inl h2
  · exact .inr ⟨a, by omega, by omega, c⟩
theorem laws_szComplex.val (xs : List (List Int)) (l : Int) (h0 : 0 ≤ l) (h1 : l ≤ 1048576) (hx : xs.length ≤ maxLen) (hr : ∀ x ∈ xs, x.length ≤ maxLen) : ∃ r, laws_szComplex.F (xs, l, ()) = some ((r, ()), ()) ∧ (r = -1 ∨ 0 ≤ r ∧ r ≤ l ∧ SmL xs) := by
  obtain ⟨r, h2, h3⟩ := laws_szInt64SS.val xs l h0 h1 hx hr
  rw [laws_szComplex.eq, laws_szComplex.T, h2]
  simp only [Option.bind_some]
  rcases h3 with rfl | ⟨a, b, c⟩
  · exact ⟨-1, by rw [if_pos (by simp)], .inl rfl⟩
  · exact ⟨r, by rw [if_neg (by simp; omega)], .inr ⟨a, b, c⟩⟩
theorem laws_toInt64SS.val (xs : List (List Int)) (h : SmL xs) : laws_toInt64SS.F (xs, ()) = some ((xs, ()), ()) := by
  have hl := h.1
  refine laws_toInt64SS.of xs ?_
  have := Goes.fill (L := fun k i ys => laws_toInt64SS.l3 k xs (i : Int) ys) xs [] (fun k i ys hi hy => by
    have hs : (xs.getD i []).length ≤ 1048576 := h.2 _ (getD_mem _ hi)
    rw [laws_toInt64SS.l3_eq, if_pos (ltI.2 hi), if_pos (idxI.2 hi)]
    simp only [Int.toNat_natCast, laws_toInt64S.val (xs.getD i []) (by omega), Option.bind_some]
    rw [if_pos (by omega), wrapN (by omega)]) (List.replicate xs.length []) (by simp)
  refine Ev.of_eq (this _ ((Ev.const _).succ fun k => ?_)) fun k => ?_
  · rw [laws_toInt64SS.l3_eq, if_neg (by simp)]
  · rw [laws_toInt64SS.T, if_pos (by simp only [bigN]; omega)]; rfl
theorem laws_toComplex.val (xs : List (List Int)) (h : SmL xs) : laws_toComplex.F (xs, ()) = some ((xs, ()), ()) := by
  rw [laws_toComplex.eq, laws_toComplex.T, laws_toInt64SS.val xs h]; rfl
theorem laws_eqInt64SS.same (xs ys : List (List Int)) (h : SmL xs) : ∃ b, laws_eqInt64SS.F (xs, ys, ()) = some ((b, ()), ()) ∧ (b = true ↔ xs = ys) := by
  have hn := h.1
  by_cases hl : xs.length = ys.length
  · obtain ⟨b, hb, hb'⟩ := same_loop (fun k i => laws_eqInt64SS.l4 k xs ys (i : Int)) xs ys [] hl (fun i hi => by
      have hs : (xs.getD i []).length ≤ 1048576 := h.2 _ (getD_mem _ hi)
      obtain ⟨c, hc, hc'⟩ := laws_eqInt64S.val (xs.getD i []) (ys.getD i []) (by omega)
      exact ⟨c, hc', fun k => by rw [laws_eqInt64SS.l4_eq, if_pos (ltI.2 hi), if_pos (idxI.2 hi), if_pos (idx2 (hl ▸ hi))]; simp only [Int.toNat_natCast, hc, Option.bind_some]; rw [wrapN (by omega)]⟩) (fun k => by rw [laws_eqInt64SS.l4_eq, if_neg (by simp)])
    exact ⟨b, laws_eqInt64SS.of _ _ (hb.of_eq fun k => by rw [laws_eqInt64SS.T, if_neg (by simp [hl])]; rfl), hb'⟩
  · exact ⟨false, laws_eqInt64SS.of _ _ ((Ev.const _).of_eq fun k => by rw [laws_eqInt64SS.T, if_pos (by simp; omega)]), by simp; intro e; exact hl (by rw [e])⟩
theorem laws_eqComplex.same (xs ys : List (List Int)) (h : SmL xs) : ∃ b, laws_eqComplex.F (xs, ys, ()) = some ((b, ()), ()) ∧ (b = true ↔ xs = ys) := by
  obtain ⟨b, hb, hb'⟩ := laws_eqInt64SS.same xs ys h
  rw [laws_eqComplex.eq, laws_eqComplex.T, hb]
  exact ⟨b, by cases b <;> rfl, hb'⟩
theorem idxV_get {xs : List Int} {v : Int} (h : v ∈ xs) : xs.getD (idxV xs v) 0 = v := by
  have h1 := idxV_lt h
  rw [getD_eq h1]
  have := List.findIdx_getElem (w := h1) (p := fun x => decide (x = v)) (xs := xs)
  simp only [decide_eq_true_eq] at this
  exact this
theorem imgS_own {c : List (List Int)} (h : CplxOk c) {s : List Int} (hs : s ∈ c) : imgS c (vts c) s = s := by
  have e : imgL c (vts c) s = s := by
    unfold imgL
    conv => rhs; rw [← List.map_id s]
    exact List.map_congr_left fun v hv => idxV_get (idx_vts h (vert_mem h s.length s hs (Nat.le_refl _) v hv)).2
  obtain ⟨h1, h2⟩ := setI_spec s
  rw [imgS, e]
  refine asc_ext h1 ?_ h2
  obtain ⟨i1, i2⟩ := idxIn_spec hs
  have hr : Rising s := by have := (h.2 _ i1).1.2.2; rwa [i2] at this
  rw [List.pairwise_iff_getElem]
  intro i j hi hj hij
  have := rising_lt hr i j hij hj
  rwa [getD_eq hi, getD_eq hj] at this
theorem own_map {p b : List (List Int)} (h : CplxOk p) (hi : IsIn p b) : MapOk p b (vts p) := ⟨rfl, fun s hs => by rw [imgS_own h hs]; exact hi s hs⟩
theorem vts_ofDim (c : List (List Int)) : (ofDim c 0 c.length).map (fun i => (c.getD i.toNat []).getD 0 0) = vts c := by
  have key : ∀ i, i ≤ c.length → (ofDim c 0 i).map (fun i => (c.getD i.toNat []).getD 0 0) = vts (c.take i) := by
    intro i
    induction i with
    | zero => intro _; rfl
    | succ i ih =>
      intro hi
      rw [ofDim_succ, vts_take c (by omega)]
      by_cases h1 : (c.getD i []).length = 1
      · rw [if_pos (by simp only [beq_iff_eq]; omega), if_pos h1, List.map_append, ih (by omega)]; simp
      · rw [if_neg (by simp only [beq_iff_eq]; omega), if_neg h1, List.append_nil, ih (by omega)]
  have := key c.length (Nat.le_refl _)
  rwa [List.take_of_length_le (Nat.le_refl _)] at this
theorem spec_l13Vertices.val {c : List (List Int)} (h : CplxOk c) : spec_l13Vertices.F (c, ()) = some ((vts c, ()), ()) := by
  have hn := h.1
  have e0 := spec_l05Of.val c 0 (by omega) (by omega)
  have hl := ofDim_length c 0 c.length
  rw [← vts_ofDim c]
  have hd : ∀ x ∈ ofDim c 0 c.length, ∃ j : Nat, x = j ∧ j < c.length ∧ (c.getD j []).length = 1 := fun x hx => by
    unfold ofDim at hx
    obtain ⟨j, hj, rfl⟩ := List.mem_map.1 hx
    obtain ⟨h1, h2⟩ := List.mem_filter.1 hj
    simp only [beq_iff_eq] at h2
    exact ⟨j, rfl, List.mem_range.1 h1, by omega⟩
  generalize ofDim c 0 c.length = L at e0 hl hd
  refine spec_l13Vertices.of _ ?_
  have g := Goes.push (R := (List Int × Unit) × Unit) (fun k i s => spec_l13Vertices.l4 k c (i : Int) s L) L.length (fun i => (c.getD (L.getD i 0).toNat []).getD 0 0) fun i s hi hs => Goes.succ fun k => by
    obtain ⟨j, j1, j2, j3⟩ := hd _ (getD_mem 0 hi)
    rw [spec_l13Vertices.l4_eq, if_pos (ltI.2 hi), if_pos (idxI.2 hi)]
    simp only [Int.toNat_natCast]
    rw [j1, if_pos (idxI.2 j2)]
    simp only [Int.toNat_natCast]
    rw [if_pos (by omega), if_pos (push_ok hs (by omega)), wrapN (by omega)]; rfl
  have em : (List.range L.length).map (fun i => (c.getD (L.getD i 0).toNat []).getD 0 0) = L.map fun i => (c.getD i.toNat []).getD 0 0 := by
    refine List.ext_getElem (by simp) fun i h1 h2 => ?_
    simp only [List.getElem_map, List.getElem_range]
    rw [getD_eq (xs := L) (by simpa using h1)]
  rw [em] at g
  refine Ev.of_eq (g _ ((Ev.const _).succ fun k => ?_)) fun k => ?_
  · rw [spec_l13Vertices.l4_eq, if_neg (by simp)]
  · rw [spec_l13Vertices.T, e0]; rfl
theorem restr_impl {s : ShfV} {p : List (List Int)} (h : SheafOk s) (hc : CplxOk p) (hi : IsIn p s.1) : impl_restricted.F (s, p, ()) = some ((pulS s p (vts p), ()), ()) := by
  have T : impl_restricted.F (s, p, ()) = impl_restricted.T s.1 s.2.1 s.2.2.1 s.2.2.2 p := impl_restricted.eq _ _ _ _ _
  have hn := hc.1
  rw [T, impl_restricted.T, impl_verticesOf.val p (by omega)]
  have hp : impl_pulled.F ((s.1, (s.2.1, (s.2.2.1, s.2.2.2))), p, vts p, ()) = _ := impl_pulled.val h hc (own_map hc hi)
  simp only [Option.bind_some, hp]
open Classical in
noncomputable def partC (s : ShfV) (p : List (List Int)) : Int := if ShfIs s ∧ CplxOk p then (if IsIn p s.1 then 0 else 6) else 1
noncomputable def rstV (s : ShfV) (p : List (List Int)) : ShfV := @ite _ (partC s p = 0) (Classical.propDecidable _) (pulS s p (vts p)) ([], 0, [], [])
theorem partC_zero {s : ShfV} {p : List (List Int)} : partC s p = 0 ↔ (ShfIs s ∧ CplxOk p) ∧ IsIn p s.1 := by
  unfold partC
  split
  · split <;> simp [*]
  · simp [*]
theorem impl_parted.val (s : ShfV) (p : List (List Int)) (hs : SmSh s) (hp : SmL p) : impl_parted.F (s, p, ()) = some ((partC s p, ()), ()) := by
  obtain ⟨v1, a1, a1'⟩ := impl_IsSheaf.val s hs
  obtain ⟨v2, a2, a2'⟩ := impl_ValidComplex.val p hp
  have a1 : impl_IsSheaf.F ((s.1, (s.2.1, (s.2.2.1, s.2.2.2))), ()) = _ := a1
  have T : impl_parted.F (s, p, ()) = impl_parted.T s.1 s.2.1 s.2.2.1 s.2.2.2 p := impl_parted.eq _ _ _ _ _
  rw [T, impl_parted.T, a1, a2]
  simp only [Option.bind_some]
  unfold partC
  cases v1 with
  | false => rw [if_pos (by simp), if_neg fun hh => absurd (a1'.2 hh.1) (by simp)]
  | true => cases v2 with
    | false => rw [if_neg (by simp), if_pos (by simp), if_neg fun hh => absurd (a2'.2 hh.2) (by simp)]
    | true =>
      have h := (a1'.1 rfl).1
      obtain ⟨v3, a3, a3'⟩ := impl_isPart.val p s.1 hp h.1.small h.1.sorted
      rw [if_neg (by simp), if_neg (by simp), if_pos ⟨a1'.1 rfl, a2'.1 rfl⟩, a3]
      simp only [Option.bind_some]
      cases v3 with
      | false => rw [if_pos (by simp), if_neg fun hh => absurd (a3'.2 hh) (by simp)]
      | true => rw [if_neg (by simp), if_pos (a3'.1 rfl)]
theorem impl_RestrictSheaf.val (s : ShfV) (p : List (List Int)) (hs : SmSh s) (hp : SmL p) : impl_RestrictSheaf.F (s, p, ()) = some ((rstV s p, partC s p, ()), ()) := by
  have T : impl_RestrictSheaf.F (s, p, ()) = impl_RestrictSheaf.T s.1 s.2.1 s.2.2.1 s.2.2.2 p := impl_RestrictSheaf.eq _ _ _ _ _
  have a1 : impl_parted.F ((s.1, (s.2.1, (s.2.2.1, s.2.2.2))), p, ()) = _ := impl_parted.val s p hs hp
  rw [T, impl_RestrictSheaf.T, a1]
  simp only [Option.bind_some]
  by_cases h : partC s p = 0
  · obtain ⟨⟨h1, h2⟩, h3⟩ := partC_zero.1 h
    have a2 : impl_restricted.F ((s.1, (s.2.1, (s.2.2.1, s.2.2.2))), p, ()) = _ := restr_impl h1.1 h2 h3
    rw [if_neg (by simp [h]), a2, rstV, if_pos h, h]; rfl
  · rw [if_pos (by simpa using h), rstV, if_neg h]
theorem spec_RestrictSheaf.val (s : ShfV) (p : List (List Int)) (hs : SmSh s) (hp : SmL p) : spec_RestrictSheaf.F (s, p, ()) = some ((rstV s p, partC s p, ()), ()) := by
  obtain ⟨v1, a1, a1'⟩ := spec_l09Is.val s hs
  obtain ⟨v2, a2, a2'⟩ := spec_l05Ok.val p hp
  have a1 : spec_l09Is.F ((s.1, (s.2.1, (s.2.2.1, s.2.2.2))), ()) = _ := a1
  have T : spec_RestrictSheaf.F (s, p, ()) = spec_RestrictSheaf.T s.1 s.2.1 s.2.2.1 s.2.2.2 p := spec_RestrictSheaf.eq _ _ _ _ _
  rw [T, spec_RestrictSheaf.T, a1, a2]
  simp only [Option.bind_some]
  cases v1 with
  | false =>
    have e : partC s p = 1 := by rw [partC, if_neg fun hh => absurd (a1'.2 hh.1) (by simp)]
    rw [if_pos (by simp), rstV, e, if_neg (by simp)]
  | true => cases v2 with
    | false =>
      have e : partC s p = 1 := by rw [partC, if_neg fun hh => absurd (a2'.2 hh.2) (by simp)]
      rw [if_neg (by simp), if_pos (by simp), rstV, e, if_neg (by simp)]
    | true =>
      have h := (a1'.1 rfl).1
      have hc := a2'.1 rfl
      obtain ⟨v3, a3, a3'⟩ := spec_l13Part.val p s.1 hp.1 h.1.small
      rw [if_neg (by simp), if_neg (by simp), a3]
      simp only [Option.bind_some]
      cases v3 with
      | false =>
        have e : partC s p = 6 := by rw [partC, if_pos ⟨a1'.1 rfl, hc⟩, if_neg fun hh => absurd (a3'.2 hh) (by simp)]
        rw [if_pos (by simp), rstV, e, if_neg (by simp)]
      | true =>
        have hi := a3'.1 rfl
        have e : partC s p = 0 := by rw [partC, if_pos ⟨a1'.1 rfl, hc⟩, if_pos hi]
        have hq : spec_l13Pull.F ((s.1, (s.2.1, (s.2.2.1, s.2.2.2))), p, vts p, ()) = _ := spec_l13Pull.val h hc (own_map hc hi)
        rw [if_neg (by simp), rstV, e, if_pos rfl, spec_l13Vertices.val hc]
        simp only [Option.bind_some, hq]
theorem rst_small (s : ShfV) (p : List (List Int)) : SmSh (rstV s p) := by
  unfold rstV
  split
  · rename_i h
    obtain ⟨⟨h1, h2⟩, h3⟩ := partC_zero.1 h
    exact pulS_small h1.1 h2 (own_map h2 h3)
  · exact ⟨⟨by simp, by simp⟩, by simp [Sm], ⟨by simp, by simp⟩⟩
theorem laws_szMatrix.val (m : MatV) (l : Int) (h0 : 0 ≤ l) (h1 : l ≤ 1048576) (hx : m.2.2.2.length ≤ maxLen) : ∃ r, laws_szMatrix.F (m, l, ()) = some ((r, ()), ()) ∧ (r = -1 ∨ 0 ≤ r ∧ r ≤ l ∧ SmM m) := by
  obtain ⟨a, b, c, xs⟩ := m
  obtain ⟨r, h2, h3⟩ := laws_szInt64S.val xs l h0 h1 hx
  rw [laws_szMatrix.eq, laws_szMatrix.T, h2]
  simp only [Option.bind_some]
  rcases h3 with rfl | ⟨a, b, c⟩
  · exact ⟨-1, by rw [if_pos (by simp)], .inl rfl⟩
  · exact ⟨r, by rw [if_neg (by simp; omega)], .inr ⟨a, b, c⟩⟩
theorem laws_szMatrixS.val (xs : List MatV) (l : Int) (h0 : 0 ≤ l) (h1 : l ≤ 1048576) (hx : xs.length ≤ maxLen) (hr : ∀ x ∈ xs, x.2.2.2.length ≤ maxLen) : ∃ r, laws_szMatrixS.F (xs, l, ()) = some ((r, ()), ()) ∧ (r = -1 ∨ 0 ≤ r ∧ r ≤ l ∧ SmMs xs) := by
  have : xs.length ≤ 9223372036854775807 := hx
  by_cases h : l < xs.length
  · exact ⟨-1, laws_szMatrixS.of _ _ ((Ev.const _).of_eq fun k => by rw [laws_szMatrixS.T, wrapI (by omega) (by omega), if_pos (by simp; omega)]), .inl rfl⟩
  obtain ⟨r, hv, h2⟩ := sz_loop (fun k i s => laws_szMatrixS.l5 k xs s (i : Int)) xs (0, 0, 0, []) SmM (fun i s hi s0 s1 => by
    have E := fun k => laws_szMatrixS.l5_eq k xs s (i : Int)
    obtain ⟨r, hr1, hr2⟩ := laws_szMatrix.val (xs.getD i (0, 0, 0, [])) s s0 s1 (hr _ (getD_mem _ hi))
    simp only [if_pos (ltI.2 hi), if_pos (idxI.2 hi), Int.toNat_natCast, hr1, Option.bind_some, wrapN (show i < 4611686018427387904 by omega)] at E
    rcases hr2 with rfl | ⟨a, b, c⟩
    · exact .inr fun k => by rw [E, if_pos (by simp)]
    · exact .inl ⟨r, a, b, c, fun k => by rw [E, if_neg (by simp; omega)]⟩) (fun k l => by rw [laws_szMatrixS.l5_eq, if_neg (by simp)]) (l - xs.length) (by omega) (by omega)
  refine ⟨r, laws_szMatrixS.of _ _ (hv.of_eq fun k => by rw [laws_szMatrixS.T, wrapI (by omega) (by omega), if_neg (by simp; omega)]; rfl), ?_⟩
  rcases h2 with h2 | ⟨a, b, c⟩
  · exact .inl h2
  · exact .inr ⟨a, by omega, by omega, c⟩
theorem laws_toMatrix.val (m : MatV) (h : SmM m) : laws_toMatrix.F (m, ()) = some ((m, ()), ()) := by
  obtain ⟨a, b, c, xs⟩ := m
  have hs : xs.length ≤ 1048576 := h
  rw [laws_toMatrix.eq, laws_toMatrix.T, laws_toInt64S.val xs (by omega)]; rfl
theorem laws_toMatrixS.val (xs : List MatV) (h : SmMs xs) : laws_toMatrixS.F (xs, ()) = some ((xs, ()), ()) := by
  have hl := h.1
  refine laws_toMatrixS.of xs ?_
  have := Goes.fill (L := fun k i ys => laws_toMatrixS.l3 k xs (i : Int) ys) xs (0, 0, 0, []) (fun k i ys hi hy => by
    rw [laws_toMatrixS.l3_eq, if_pos (ltI.2 hi), if_pos (idxI.2 hi)]
    simp only [Int.toNat_natCast, laws_toMatrix.val _ (h.2 _ (getD_mem (0, 0, 0, []) hi)), Option.bind_some]
    rw [if_pos (by omega), wrapN (by omega)]) (List.replicate xs.length (0, 0, 0, [])) (by simp)
  refine Ev.of_eq (this _ ((Ev.const _).succ fun k => ?_)) fun k => ?_
  · rw [laws_toMatrixS.l3_eq, if_neg (by simp)]
  · rw [laws_toMatrixS.T, if_pos (by simp only [bigN]; omega)]; rfl
theorem laws_eqMatrix.same (m n : MatV) (h : SmM m) : ∃ b, laws_eqMatrix.F (m, n, ()) = some ((b, ()), ()) ∧ (b = true ↔ m = n) := by
  obtain ⟨a, b, c, xs⟩ := m
  obtain ⟨a', b', c', ys⟩ := n
  have hs : xs.length ≤ 1048576 := h
  obtain ⟨e, he, he'⟩ := laws_eqInt64S.val xs ys (by omega)
  rw [laws_eqMatrix.eq, laws_eqMatrix.T, he]
  simp only [Option.bind_some, Prod.mk.injEq]
  by_cases h1 : a = a'
  · by_cases h2 : b = b'
    · by_cases h3 : c = c'
      · rw [if_neg (by simp [h1]), if_neg (by simp [h2]), if_neg (by simp [h3])]
        exact ⟨e, by cases e <;> rfl, by simp [h1, h2, h3, he']⟩
      · exact ⟨false, by rw [if_neg (by simp [h1]), if_neg (by simp [h2]), if_pos (by simp [h3])], by simp [h3]⟩
    · exact ⟨false, by rw [if_neg (by simp [h1]), if_pos (by simp [h2])], by simp [h2]⟩
  · exact ⟨false, by rw [if_pos (by simp [h1])], by simp [h1]⟩
theorem laws_eqMatrixS.same (xs ys : List MatV) (h : SmMs xs) : ∃ b, laws_eqMatrixS.F (xs, ys, ()) = some ((b, ()), ()) ∧ (b = true ↔ xs = ys) := by
  have hn := h.1
  by_cases hl : xs.length = ys.length
  · obtain ⟨b, hb, hb'⟩ := same_loop (fun k i => laws_eqMatrixS.l4 k xs ys (i : Int)) xs ys (0, 0, 0, []) hl (fun i hi => by
      obtain ⟨c, hc, hc'⟩ := laws_eqMatrix.same (xs.getD i (0, 0, 0, [])) (ys.getD i (0, 0, 0, [])) (h.2 _ (getD_mem _ hi))
      exact ⟨c, hc', fun k => by rw [laws_eqMatrixS.l4_eq, if_pos (ltI.2 hi), if_pos (idxI.2 hi), if_pos (idx2 (hl ▸ hi))]; simp only [Int.toNat_natCast, hc, Option.bind_some]; rw [wrapN (by omega)]⟩) (fun k => by rw [laws_eqMatrixS.l4_eq, if_neg (by simp)])
    exact ⟨b, laws_eqMatrixS.of _ _ (hb.of_eq fun k => by rw [laws_eqMatrixS.T, if_neg (by simp [hl])]; rfl), hb'⟩
  · exact ⟨false, laws_eqMatrixS.of _ _ ((Ev.const _).of_eq fun k => by rw [laws_eqMatrixS.T, if_pos (by simp; omega)]), by simp; intro e; exact hl (by rw [e])⟩
theorem shf_wf {s : ShfV} (h : wfT (.pair (.sl (.sl (.int .i64))) (.pair (.int .i64) (.pair (.sl (.int .i64)) (.sl (.pair (.int .i64) (.pair (.int .i64) (.pair (.int .i64) (.sl (.int .i64))))))))) s) : s.1.length ≤ maxLen ∧ (∀ x ∈ s.1, x.length ≤ maxLen) ∧ s.2.2.1.length ≤ maxLen ∧ s.2.2.2.length ≤ maxLen ∧ ∀ x ∈ s.2.2.2, x.2.2.2.length ≤ maxLen := by
  obtain ⟨a, p, b, c⟩ := s
  obtain ⟨⟨h1, h2⟩, _, ⟨h3, _⟩, h4, h5⟩ := h
  exact ⟨h1, fun x hx => (h2 x hx).1, h3, h4, fun x hx => (h5 x hx).2.2.2.1⟩
theorem laws_szSheaf.val (s : ShfV) (l : Int) (h0 : 0 ≤ l) (h1 : l ≤ 1048576) (w1 : s.1.length ≤ maxLen) (w2 : ∀ x ∈ s.1, x.length ≤ maxLen) (w3 : s.2.2.1.length ≤ maxLen) (w4 : s.2.2.2.length ≤ maxLen) (w5 : ∀ x ∈ s.2.2.2, x.2.2.2.length ≤ maxLen) : ∃ r, laws_szSheaf.F (s, l, ()) = some ((r, ()), ()) ∧ (r = -1 ∨ 0 ≤ r ∧ r ≤ l ∧ SmSh s) := by
  obtain ⟨a, p, b, c⟩ := s
  obtain ⟨r1, e1, k1⟩ := laws_szComplex.val a l h0 h1 w1 w2
  rw [laws_szSheaf.eq, laws_szSheaf.T, e1]
  simp only [Option.bind_some]
  rcases k1 with rfl | ⟨a1, b1, c1⟩
  · exact ⟨-1, by rw [if_pos (by simp)], .inl rfl⟩
  rw [if_neg (by simp; omega)]
  obtain ⟨r2, e2, k2⟩ := laws_szInt64S.val b r1 a1 (by omega) w3
  rw [e2]
  simp only [Option.bind_some]
  rcases k2 with rfl | ⟨a2, b2, c2⟩
  · exact ⟨-1, by rw [if_pos (by simp)], .inl rfl⟩
  rw [if_neg (by simp; omega)]
  obtain ⟨r3, e3, k3⟩ := laws_szMatrixS.val c r2 a2 (by omega) w4 w5
  rw [e3]
  simp only [Option.bind_some]
  rcases k3 with rfl | ⟨a3, b3, c3⟩
  · exact ⟨-1, by rw [if_pos (by simp)], .inl rfl⟩
  exact ⟨r3, by rw [if_neg (by simp; omega)], .inr ⟨a3, by omega, c1, c2, c3⟩⟩
theorem laws_toSheaf.val (s : ShfV) (h : SmSh s) : laws_toSheaf.F (s, ()) = some ((s, ()), ()) := by
  obtain ⟨a, p, b, c⟩ := s
  obtain ⟨h1, h2, h3⟩ := h
  have h2' : b.length ≤ 1048576 := h2
  rw [laws_toSheaf.eq, laws_toSheaf.T, laws_toComplex.val a h1, laws_toInt64S.val b (by omega), laws_toMatrixS.val c h3]; rfl
theorem laws_eqSheaf.same (s t : ShfV) (h : SmSh s) : ∃ b, laws_eqSheaf.F (s, t, ()) = some ((b, ()), ()) ∧ (b = true ↔ s = t) := by
  obtain ⟨a, p, b, c⟩ := s
  obtain ⟨a', p', b', c'⟩ := t
  obtain ⟨h1, h2, h3⟩ := h
  have h2' : b.length ≤ 1048576 := h2
  obtain ⟨v1, e1, k1⟩ := laws_eqComplex.same a a' h1
  obtain ⟨v2, e2, k2⟩ := laws_eqInt64S.val b b' (by omega)
  obtain ⟨v3, e3, k3⟩ := laws_eqMatrixS.same c c' h3
  rw [laws_eqSheaf.eq, laws_eqSheaf.T, e1, e2, e3]
  simp only [Option.bind_some, Prod.mk.injEq]
  by_cases hp : p = p'
  · rw [show (p != p') = false by simp [hp]]
    refine ⟨v1 && v2 && v3, by cases v1 <;> cases v2 <;> cases v3 <;> rfl, ?_⟩
    simp only [Bool.and_eq_true, k1, k2, k3, hp, true_and, and_assoc]
  · rw [show (p != p') = true by simp [hp]]
    exact ⟨false, by cases v1 <;> rfl, by simp [hp]⟩
def Marked (ys : List Int) (k : Int) : Prop := ∀ j, j < ys.length → ys.getD j 0 = k + j
theorem laws_markInt64S.val (xs : List Int) (k0 : Int) (h0 : 0 ≤ k0) (h1 : k0 + xs.length ≤ 4611686018427387904) : ∃ ys, laws_markInt64S.F (xs, k0, ()) = some ((k0 + xs.length, ()), (ys, ())) ∧ ys.length = xs.length ∧ Marked ys k0 := by
  obtain ⟨⟨v, ys⟩, ⟨hv, hl, hm⟩, hg⟩ := Goes.loop (R := (Int × Unit) × (List Int × Unit)) (fun k i (s : Int × List Int) => laws_markInt64S.l2 k s.1 (i : Int) s.2) xs.length (fun i s => s.1 = k0 + i ∧ s.2.length = xs.length ∧ ∀ j, j < i → s.2.getD j 0 = k0 + j)
    (fun i s hi ⟨h2, h3, h4⟩ => ⟨(s.1 + 1, s.2.set i s.1), ⟨by simp only []; omega, by simp [h3], fun j hj => by
      simp only [List.getD_eq_getElem?_getD, List.getElem?_set]
      by_cases hij : i = j
      · subst hij; simp [h3, hi, h2]
      · have := h4 j (by omega)
        simp only [List.getD_eq_getElem?_getD] at this
        simp [hij, this]⟩, Goes.succ fun k => by
      rw [laws_markInt64S.l2_eq, if_pos (by simp; omega), if_pos (by omega), wrapI (by omega) (by omega), wrapN (by omega)]
      simp only [Int.toNat_natCast]⟩) 0 (k0, xs) (Nat.zero_le _) ⟨by simp, rfl, fun j hj => by omega⟩
  simp only [] at hv hl hm
  refine ⟨ys, laws_markInt64S.of _ _ ((hg _ ((Ev.const _).succ fun k => ?_)).of_eq fun k => rfl), hl, fun j hj => hm j (by omega)⟩
  rw [laws_markInt64S.l2_eq, if_neg (by simp; omega), hv]
theorem laws_heldInt64S.val (ys : List Int) (k0 : Int) (h0 : 0 ≤ k0) (h1 : k0 + ys.length ≤ 4611686018427387904) (hm : Marked ys k0) : laws_heldInt64S.F (ys, k0, ()) = some ((k0 + ys.length, ()), ()) := by
  obtain ⟨v, hv, hg⟩ := Goes.loop (R := (Int × Unit) × Unit) (fun k i (s : Int) => laws_heldInt64S.l2 k ys s (i : Int)) ys.length (fun i s => s = k0 + i)
    (fun i s hi h2 => ⟨s + 1, by omega, Goes.succ fun k => by
      rw [laws_heldInt64S.l2_eq, if_pos (ltI.2 hi), if_pos (idxI.2 hi), if_neg (by simp only [Int.toNat_natCast]; rw [hm i hi, h2]; simp), wrapI (by omega) (by omega), wrapN (by omega)]⟩) 0 k0 (Nat.zero_le _) (by simp)
  refine laws_heldInt64S.of _ _ ((hg _ ((Ev.const _).succ fun k => ?_)).of_eq fun k => rfl)
  rw [laws_heldInt64S.l2_eq, if_neg (by simp), hv]
def mkI (n : Nat) (k : Int) : List Int := (List.range n).map fun (j : Nat) => k + (j : Int)
theorem mkI_length (n : Nat) (k : Int) : (mkI n k).length = n := by simp [mkI]
theorem mkI_marked (n : Nat) (k : Int) : Marked (mkI n k) k := fun j hj => by
  rw [mkI_length] at hj
  simp [mkI, List.getD_eq_getElem?_getD, hj]
theorem mkI_of {ys : List Int} {k : Int} (h : Marked ys k) : ys = mkI ys.length k := by
  refine List.ext_getElem (by simp [mkI]) fun i h1 h2 => ?_
  rw [← getD_eq (d := 0) h1, ← getD_eq (d := 0) h2, h i h1, mkI_marked _ _ i h2]
def mkM (m : MatV) (k : Int) : MatV := (k, k + 1, k + 1 + 1, mkI m.2.2.2.length (k + 1 + 1 + 1))
def szM (m : MatV) : Nat := 3 + m.2.2.2.length
def offM (ms : List MatV) (i : Nat) : Nat := ((ms.take i).map szM).sum
theorem offM_succ {ms : List MatV} {i : Nat} (h : i < ms.length) : offM ms (i + 1) = offM ms i + szM (ms.getD i (0, 0, 0, [])) := by
  unfold offM
  rw [List.take_add_one, List.getElem?_eq_getElem h, Option.toList_some, List.map_append, List.sum_append, getD_eq h]
  simp
theorem offM_le {ms : List MatV} {i j : Nat} (h : i ≤ j) : offM ms i ≤ offM ms j := by
  induction h with
  | refl => exact Nat.le_refl _
  | @step m _ ih =>
    by_cases hm : m < ms.length
    · rw [Nat.succ_eq_add_one, offM_succ hm]; omega
    · have : offM ms (m + 1) = offM ms m := by unfold offM; rw [List.take_of_length_le (by omega), List.take_of_length_le (by omega)]
      rw [Nat.succ_eq_add_one, this]; exact ih
theorem offM_bd {ms : List MatV} (h : SmMs ms) : offM ms ms.length ≤ 1048579 * 1048576 := by
  have key : ∀ i, i ≤ ms.length → offM ms i ≤ 1048579 * i := by
    intro i
    induction i with
    | zero => intro _; simp [offM]
    | succ i ih =>
      intro hi
      have h1 := ih (by omega)
      have h2 : (ms.getD i (0, 0, 0, [])).2.2.2.length ≤ 1048576 := h.2 _ (getD_mem _ (by omega))
      rw [offM_succ (by omega), szM]; omega
  have := key ms.length (Nat.le_refl _)
  have := h.1
  omega
theorem set_same {α : Type} (l : List α) (i : Nat) (x y : α) : (l.set i x).set i y = l.set i y := by rw [List.set_set]
theorem getD_set_self {α : Type} (l : List α) (i : Nat) (x d : α) (h : i < l.length) : (l.set i x).getD i d = x := by simp [List.getD_eq_getElem?_getD, h]
theorem laws_markMatrixS.val (ms : List MatV) (k0 : Int) (h0 : 0 ≤ k0) (hx : ms.length < 4611686018427387904) (h1 : k0 + offM ms ms.length ≤ 4611686018427387904) :
    ∃ ys, laws_markMatrixS.F (ms, k0, ()) = some ((k0 + offM ms ms.length, ()), (ys, ())) ∧ ys.length = ms.length ∧ ∀ j, j < ms.length → ys.getD j (0, 0, 0, []) = mkM (ms.getD j (0, 0, 0, [])) (k0 + offM ms j) := by
  obtain ⟨⟨v, ys⟩, ⟨hv, hl, hm, -⟩, hg⟩ := Goes.loop (R := (Int × Unit) × (List MatV × Unit)) (fun k i (s : Int × List MatV) => laws_markMatrixS.l2 k s.1 (i : Int) s.2) ms.length
    (fun i s => s.1 = k0 + offM ms i ∧ s.2.length = ms.length ∧ (∀ j, j < i → s.2.getD j (0, 0, 0, []) = mkM (ms.getD j (0, 0, 0, [])) (k0 + offM ms j)) ∧ ∀ j, i ≤ j → s.2.getD j (0, 0, 0, []) = ms.getD j (0, 0, 0, []))
    (fun i s hi ⟨h2, h3, h4, h5⟩ => by
      have hle := offM_le (ms := ms) (show i + 1 ≤ ms.length by omega)
      rw [offM_succ hi, szM] at hle
      obtain ⟨m, hm⟩ : ∃ m, ms.getD i (0, 0, 0, []) = m := ⟨_, rfl⟩
      rw [hm] at hle
      obtain ⟨ys, e1, e2, e3⟩ := laws_markInt64S.val m.2.2.2 (s.1 + 1 + 1 + 1) (by omega) (by omega)
      have e4 : ys = mkI m.2.2.2.length (s.1 + 1 + 1 + 1) := by rw [← e2]; exact mkI_of e3
      have w1 : IntKind.i64.wrap (s.1 + 1) = s.1 + 1 := wrapI (by omega) (by omega)
      have w2 : IntKind.i64.wrap (s.1 + 1 + 1) = s.1 + 1 + 1 := wrapI (by omega) (by omega)
      have w3 : IntKind.i64.wrap (s.1 + 1 + 1 + 1) = s.1 + 1 + 1 + 1 := wrapI (by omega) (by omega)
      have hsi : s.2.getD i (0, 0, 0, []) = m := by rw [h5 i (Nat.le_refl _), hm]
      have hil : i < s.2.length := by omega
      refine ⟨(s.1 + 1 + 1 + 1 + m.2.2.2.length, s.2.set i (mkM m s.1)), ⟨by simp only []; rw [offM_succ hi, hm, szM]; omega, by simp [h3], fun j hj => ?_, fun j hj => ?_⟩, Goes.succ fun k => ?_⟩
      · by_cases hij : i = j
        · subst hij; simp only []; rw [getD_set_self _ _ _ _ hil, hm, h2]
        · have := h4 j (by omega)
          simp only [List.getD_eq_getElem?_getD, List.getElem?_set] at this ⊢
          rw [if_neg hij]; exact this
      · have := h5 j (by omega)
        simp only [List.getD_eq_getElem?_getD, List.getElem?_set] at this ⊢
        rw [if_neg (by omega)]; exact this
      · rw [laws_markMatrixS.l2_eq, if_pos (by simp; omega), if_pos (by omega)]
        simp only [Int.toNat_natCast, hsi, set_same, getD_set_self _ _ _ _ hil, List.length_set, w1, w2, w3]
        rw [if_pos (by omega), if_pos (by omega), if_pos (by omega), e1]
        simp only [Option.bind_some]
        rw [wrapN (by omega), e4]
        rfl) 0 (k0, ms) (Nat.zero_le _) ⟨by simp [offM], rfl, fun j hj => by omega, fun _ _ => rfl⟩
  simp only [] at hv hl hm
  refine ⟨ys, laws_markMatrixS.of _ _ ((hg _ ((Ev.const _).succ fun k => ?_)).of_eq fun k => rfl), hl, hm⟩
  rw [laws_markMatrixS.l2_eq, if_neg (by simp; omega), hv]
def offs (xs : List (List Int)) (i : Nat) : Nat := ((xs.take i).map List.length).sum
theorem offs_succ {xs : List (List Int)} {i : Nat} (h : i < xs.length) : offs xs (i + 1) = offs xs i + (xs.getD i []).length := by
  unfold offs
  rw [List.take_add_one, List.getElem?_eq_getElem h, Option.toList_some, List.map_append, List.sum_append, getD_eq h]
  simp
theorem offs_le {xs : List (List Int)} {i j : Nat} (h : i ≤ j) : offs xs i ≤ offs xs j := by
  induction h with
  | refl => exact Nat.le_refl _
  | @step m _ ih =>
    by_cases hm : m < xs.length
    · rw [Nat.succ_eq_add_one, offs_succ hm]; omega
    · have : offs xs (m + 1) = offs xs m := by unfold offs; rw [List.take_of_length_le (by omega), List.take_of_length_le (by omega)]
      rw [Nat.succ_eq_add_one, this]; exact ih
theorem laws_markInt64SS.val (xs : List (List Int)) (k0 : Int) (h0 : 0 ≤ k0) (hx : xs.length < 4611686018427387904) (h1 : k0 + offs xs xs.length ≤ 4611686018427387904) :
    ∃ ys, laws_markInt64SS.F (xs, k0, ()) = some ((k0 + offs xs xs.length, ()), (ys, ())) ∧ ys.length = xs.length ∧ ∀ j, j < xs.length → (ys.getD j []).length = (xs.getD j []).length ∧ Marked (ys.getD j []) (k0 + offs xs j) := by
  obtain ⟨⟨v, ys⟩, ⟨hv, hl, hm, -⟩, hg⟩ := Goes.loop (R := (Int × Unit) × (List (List Int) × Unit)) (fun k i (s : Int × List (List Int)) => laws_markInt64SS.l2 k s.1 (i : Int) s.2) xs.length
    (fun i s => s.1 = k0 + offs xs i ∧ s.2.length = xs.length ∧ (∀ j, j < i → (s.2.getD j []).length = (xs.getD j []).length ∧ Marked (s.2.getD j []) (k0 + offs xs j)) ∧ ∀ j, i ≤ j → s.2.getD j [] = xs.getD j [])
    (fun i s hi ⟨h2, h3, h4, h5⟩ => by
      have hle := offs_le (xs := xs) (show i + 1 ≤ xs.length by omega)
      rw [offs_succ hi] at hle
      obtain ⟨ys, e1, e2, e3⟩ := laws_markInt64S.val (s.2.getD i []) s.1 (by omega) (by rw [h5 i (Nat.le_refl _), h2]; omega)
      rw [h5 i (Nat.le_refl _)] at e1 e2
      refine ⟨(s.1 + (xs.getD i []).length, s.2.set i ys), ⟨by simp only []; rw [offs_succ hi]; omega, by simp [h3], fun j hj => ?_, fun j hj => ?_⟩, Goes.succ fun k => ?_⟩
      · simp only [List.getD_eq_getElem?_getD, List.getElem?_set]
        by_cases hij : i = j
        · subst hij
          simp only [h3, hi, if_true, Option.getD_some]
          exact ⟨by rw [e2, List.getD_eq_getElem?_getD], by rw [← h2]; exact e3⟩
        · have := h4 j (by omega)
          simp only [List.getD_eq_getElem?_getD] at this
          simpa [hij] using this
      · have := h5 j (by omega)
        simp only [List.getD_eq_getElem?_getD, List.getElem?_set] at this ⊢
        rw [if_neg (by omega)]; exact this
      · rw [laws_markInt64SS.l2_eq, if_pos (by simp; omega), if_pos (by omega)]
        simp only [Int.toNat_natCast, h5 i (Nat.le_refl _), e1, Option.bind_some]
        rw [wrapN (by omega)]) 0 (k0, xs) (Nat.zero_le _) ⟨by simp [offs], rfl, fun j hj => by omega, fun _ _ => rfl⟩
  simp only [] at hv hl hm
  refine ⟨ys, laws_markInt64SS.of _ _ ((hg _ ((Ev.const _).succ fun k => ?_)).of_eq fun k => rfl), hl, hm⟩
  rw [laws_markInt64SS.l2_eq, if_neg (by simp; omega), hv]
theorem laws_heldInt64SS.val (xs ys : List (List Int)) (k0 : Int) (h0 : 0 ≤ k0) (hx : xs.length < 4611686018427387904) (h1 : k0 + offs xs xs.length ≤ 4611686018427387904) (hl : ys.length = xs.length)
    (hm : ∀ j, j < xs.length → (ys.getD j []).length = (xs.getD j []).length ∧ Marked (ys.getD j []) (k0 + offs xs j)) : laws_heldInt64SS.F (ys, k0, ()) = some ((k0 + offs xs xs.length, ()), ()) := by
  obtain ⟨v, hv, hg⟩ := Goes.loop (R := (Int × Unit) × Unit) (fun k i (s : Int) => laws_heldInt64SS.l2 k ys s (i : Int)) xs.length (fun i s => s = k0 + offs xs i)
    (fun i s hi h2 => by
      have hle := offs_le (xs := xs) (show i + 1 ≤ xs.length by omega)
      rw [offs_succ hi] at hle
      obtain ⟨e1, e2⟩ := hm i hi
      have e3 := laws_heldInt64S.val (ys.getD i []) s (by omega) (by rw [e1, h2]; omega) (by rw [h2]; exact e2)
      refine ⟨s + (xs.getD i []).length, by rw [offs_succ hi]; omega, Goes.succ fun k => ?_⟩
      rw [laws_heldInt64SS.l2_eq, if_pos (by simp; omega), if_pos (by omega)]
      simp only [Int.toNat_natCast, e3, Option.bind_some]
      rw [if_neg (by simp; omega), wrapN (by omega), e1]) 0 k0 (Nat.zero_le _) (by simp [offs])
  refine laws_heldInt64SS.of _ _ ((hg _ ((Ev.const _).succ fun k => ?_)).of_eq fun k => rfl)
  rw [laws_heldInt64SS.l2_eq, if_neg (by simp; omega), hv]
theorem offs_bd {xs : List (List Int)} (h : SmL xs) : offs xs xs.length ≤ 1048576 * 1048576 := by
  have key : ∀ i, i ≤ xs.length → offs xs i ≤ 1048576 * i := by
    intro i
    induction i with
    | zero => intro _; simp [offs]
    | succ i ih =>
      intro hi
      have h1 := ih (by omega)
      have h2 : (xs.getD i []).length ≤ 1048576 := h.2 _ (getD_mem _ (by omega))
      rw [offs_succ (by omega)]; omega
  have := key xs.length (Nat.le_refl _)
  have := h.1
  omega
theorem laws_markComplex.some (c : List (List Int)) (k0 : Int) (h : SmL c) (h0 : 0 ≤ k0) (h1 : k0 ≤ 1152921504606846976) : ∃ v ys, laws_markComplex.F (c, k0, ()) = some ((v, ()), (ys, ())) ∧ k0 ≤ v ∧ v ≤ k0 + 1099511627776 := by
  have b := offs_bd h
  have hl := h.1
  obtain ⟨ys, e, _⟩ := laws_markInt64SS.val c k0 h0 (by omega) (by omega)
  rw [laws_markComplex.eq, laws_markComplex.T, e]
  exact ⟨k0 + ((offs c c.length : Nat) : Int), _, rfl, by omega, by omega⟩
theorem laws_markSheaf.some (s : ShfV) (k0 : Int) (h : SmSh s) (h0 : 0 ≤ k0) (h1 : k0 ≤ 576460752303423488) : ∃ v ys, laws_markSheaf.F (s, k0, ()) = some ((v, ()), (ys, ())) ∧ k0 ≤ v ∧ v ≤ k0 + 8796093022208 := by
  obtain ⟨c, p, st, ms⟩ := s
  obtain ⟨hc, hst, hms⟩ := h
  have hst : st.length ≤ 1048576 := hst
  have hml := hms.1
  have b := offM_bd hms
  obtain ⟨v1, y1, e1, a1, b1⟩ := laws_markComplex.some c k0 hc h0 (by omega)
  obtain ⟨y2, e2, _⟩ := laws_markInt64S.val st v1 (by omega) (by omega)
  obtain ⟨y3, e3, _⟩ := laws_markMatrixS.val ms (v1 + st.length) (by omega) (by have : ms.length ≤ 1048576 := hml; omega) (by have : offM ms ms.length ≤ 1048579 * 1048576 := b; omega)
  rw [laws_markSheaf.eq, laws_markSheaf.T, e1]
  simp only [Option.bind_some, e2, e3]
  have : offM ms ms.length ≤ 1048579 * 1048576 := b
  exact ⟨_, _, rfl, by omega, by omega⟩
theorem laws_heldMatrixS.val (ms ys : List MatV) (k0 : Int) (h0 : 0 ≤ k0) (hx : ms.length < 4611686018427387904) (h1 : k0 + offM ms ms.length ≤ 4611686018427387904) (hl : ys.length = ms.length)
    (hm : ∀ j, j < ms.length → ys.getD j (0, 0, 0, []) = mkM (ms.getD j (0, 0, 0, [])) (k0 + offM ms j)) : laws_heldMatrixS.F (ys, k0, ()) = some ((k0 + offM ms ms.length, ()), ()) := by
  obtain ⟨v, hv, hg⟩ := Goes.loop (R := (Int × Unit) × Unit) (fun k i (s : Int) => laws_heldMatrixS.l2 k ys s (i : Int)) ms.length (fun i s => s = k0 + offM ms i)
    (fun i s hi h2 => by
      have hle := offM_le (ms := ms) (show i + 1 ≤ ms.length by omega)
      rw [offM_succ hi, szM] at hle
      obtain ⟨m, hme⟩ : ∃ m, ms.getD i (0, 0, 0, []) = m := ⟨_, rfl⟩
      have e0 := hm i hi
      rw [← h2, hme] at e0
      rw [hme] at hle
      have e3 := laws_heldInt64S.val (mkI m.2.2.2.length (s + 1 + 1 + 1)) (s + 1 + 1 + 1) (by omega) (by rw [mkI_length]; omega) (mkI_marked _ _)
      rw [mkI_length] at e3
      have w1 : IntKind.i64.wrap (s + 1) = s + 1 := wrapI (by omega) (by omega)
      have w2 : IntKind.i64.wrap (s + 1 + 1) = s + 1 + 1 := wrapI (by omega) (by omega)
      have w3 : IntKind.i64.wrap (s + 1 + 1 + 1) = s + 1 + 1 + 1 := wrapI (by omega) (by omega)
      refine ⟨s + 1 + 1 + 1 + m.2.2.2.length, by rw [offM_succ hi, hme, szM]; omega, Goes.succ fun k => ?_⟩
      have hc : (0 ≤ (i : Int) ∧ (i : Int) < (ys.length : Int)) := by omega
      rw [laws_heldMatrixS.l2_eq, if_pos (by simp; omega)]
      simp only [if_pos hc, Int.toNat_natCast, e0, mkM, w1, w2, w3, e3, Option.bind_some]
      rw [if_neg (by simp), if_neg (by simp), if_neg (by simp), if_neg (by simp; omega), wrapN (by omega)]) 0 k0 (Nat.zero_le _) (by simp [offM])
  refine laws_heldMatrixS.of _ _ ((hg _ ((Ev.const _).succ fun k => ?_)).of_eq fun k => rfl)
  rw [laws_heldMatrixS.l2_eq, if_neg (by simp; omega), hv]
theorem heldComplex_val (c ys : List (List Int)) (k0 : Int) (h : SmL c) (h0 : 0 ≤ k0) (h1 : k0 ≤ 576460752303423488) (e : ∃ v, laws_markComplex.F (c, k0, ()) = some ((v, ()), (ys, ()))) : laws_heldComplex.F (ys, k0, ()) = some ((k0 + offs c c.length, ()), ()) := by
  have b := offs_bd h
  have hl := h.1
  obtain ⟨v, e⟩ := e
  obtain ⟨ys', e1, e2, e3⟩ := laws_markInt64SS.val c k0 h0 (by omega) (by omega)
  rw [laws_markComplex.eq, laws_markComplex.T, e1] at e
  have e : some ((k0 + ((offs c c.length : Nat) : Int), ()), (ys', ())) = some ((v, ()), (ys, ())) := e
  simp only [Option.some.injEq, Prod.mk.injEq, and_true] at e
  obtain ⟨rfl, rfl⟩ := e
  rw [laws_heldComplex.eq, laws_heldComplex.T, laws_heldInt64SS.val c ys' k0 h0 (by omega) (by omega) e2 e3]
  simp only [Option.bind_some]
  rw [if_neg (by simp; omega)]
theorem markComplex_val (c : List (List Int)) (k0 : Int) (h : SmL c) (h0 : 0 ≤ k0) (h1 : k0 ≤ 576460752303423488) : ∃ ys, laws_markComplex.F (c, k0, ()) = some ((k0 + offs c c.length, ()), (ys, ())) ∧ laws_heldComplex.F (ys, k0, ()) = some ((k0 + offs c c.length, ()), ()) := by
  have b := offs_bd h
  have hl := h.1
  obtain ⟨ys', e1, e2, e3⟩ := laws_markInt64SS.val c k0 h0 (by omega) (by omega)
  have e : laws_markComplex.F (c, k0, ()) = some ((k0 + ((offs c c.length : Nat) : Int), ()), (ys', ())) := by rw [laws_markComplex.eq, laws_markComplex.T, e1]; rfl
  exact ⟨ys', e, heldComplex_val c ys' k0 h h0 h1 ⟨_, e⟩⟩
end Go.Proofs.YtanmmcfiogamfaaGreat
