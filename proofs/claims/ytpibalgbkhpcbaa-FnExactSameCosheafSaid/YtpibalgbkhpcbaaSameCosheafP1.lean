/- What the functions answer. -/
import Derived.Test.YtpibalgbkhpcbaaSameCosheafG1
namespace Go.Proofs.Ytpibalgbkhpcbaa
open Go Go.Vm
set_option linter.unusedVariables false
set_option linter.unusedSimpArgs false
theorem wrapI {x : Int} (h1 : -9223372036854775808 ≤ x) (h2 : x ≤ 9223372036854775807) : IntKind.i64.wrap x = x := by
  have e : (2 : Int) ^ (IntKind.i64).bits = 18446744073709551616 := by decide
  have e2 : (2 : Int) ^ ((IntKind.i64).bits - 1) = 9223372036854775808 := by decide
  unfold IntKind.wrap
  simp only [e, e2, show IntKind.i64.signed = true from rfl, Bool.true_and, decide_eq_true_eq]
  split <;> omega
theorem wrapN {i : Nat} (h : i < 4611686018427387904) : IntKind.i64.wrap ((i : Int) + 1) = ((i + 1 : Nat) : Int) := by
  rw [wrapI (by omega) (by omega)]; omega
theorem idxI {α : Type} {xs : List α} {i : Nat} : (0 ≤ (i : Int) ∧ (i : Int) < (xs.length : Int)) ↔ i < xs.length := by omega
theorem ltI {i n : Nat} : (decide ((i : Int) < (n : Int))) = true ↔ i < n := by simp
theorem getD_eq {α : Type} {xs : List α} {i : Nat} {d : α} (h : i < xs.length) : xs.getD i d = xs[i] := by
  rw [List.getD_eq_getElem?_getD, List.getElem?_eq_getElem h]; rfl
def Goes {R : Type} (A B : Nat → Option R) : Prop := ∀ r, Ev B r → Ev A r
theorem Goes.refl {R : Type} (A : Nat → Option R) : Goes A A := fun _ h => h
theorem Goes.trans {R : Type} {A B C : Nat → Option R} (h : Goes A B) (k : Goes B C) : Goes A C := fun r hr => h r (k r hr)
theorem Goes.succ {R : Type} {A B : Nat → Option R} (e : ∀ k, A (k + 1) = B k) : Goes A B := fun _ h => h.succ e
theorem Goes.of_eq {R : Type} {A B : Nat → Option R} (e : ∀ k, A k = B k) : Goes A B := fun _ h => h.of_eq e
theorem Ev.loop {σ R : Type} (L : Nat → Nat → σ → Option R) (n : Nat) (I : Nat → σ → Prop) (Q : R → Prop)
    (hstep : ∀ i s, i < n → I i s → (∃ r, Ev (fun k => L k i s) r ∧ Q r) ∨ (∃ s', I (i + 1) s' ∧ Goes (fun k => L k i s) (fun k => L k (i + 1) s')))
    (hend : ∀ s, I n s → ∃ r, Ev (fun k => L k n s) r ∧ Q r) : ∀ i s, i ≤ n → I i s → ∃ r, Ev (fun k => L k i s) r ∧ Q r := by
  have key : ∀ j i s, i + j = n → I i s → ∃ r, Ev (fun k => L k i s) r ∧ Q r := by
    intro j
    induction j with
    | zero => intro i s hi h; obtain rfl : i = n := by omega
              exact hend s h
    | succ j ih =>
      intro i s hi h
      rcases hstep i s (by omega) h with h1 | ⟨s', h1, h2⟩
      · exact h1
      · obtain ⟨r, hr, hq⟩ := ih (i + 1) s' (by omega) h1
        exact ⟨r, h2 r hr, hq⟩
  exact fun i s hi h => key (n - i) i s (by omega) h
theorem Goes.loop {σ R : Type} (L : Nat → Nat → σ → Option R) (n : Nat) (I : Nat → σ → Prop)
    (hstep : ∀ i s, i < n → I i s → ∃ s', I (i + 1) s' ∧ Goes (fun k => L k i s) (fun k => L k (i + 1) s')) : ∀ i s, i ≤ n → I i s → ∃ s', I n s' ∧ Goes (fun k => L k i s) (fun k => L k n s') := by
  have key : ∀ j i s, i + j = n → I i s → ∃ s', I n s' ∧ Goes (fun k => L k i s) (fun k => L k n s') := by
    intro j
    induction j with
    | zero => intro i s hi h; obtain rfl : i = n := by omega
              exact ⟨s, h, Goes.refl _⟩
    | succ j ih =>
      intro i s hi h
      obtain ⟨s', h1, h2⟩ := hstep i s (by omega) h
      obtain ⟨s2, h3, h4⟩ := ih (i + 1) s' (by omega) h1
      exact ⟨s2, h3, h2.trans h4⟩
  exact fun i s hi h => key (n - i) i s (by omega) h
theorem Ev.all {A B : Type} {L : Nat → Nat → Option ((Bool × A) × B)} {a : A} {b : B} {n : Nat} (p : Nat → Bool) (hstep : ∀ k i, i < n → L (k + 1) i = if p i = true then L k (i + 1) else some ((false, a), b)) (hend : ∀ k, L (k + 1) n = some ((true, a), b)) (i : Nat) (hi : i ≤ n) :
    ∃ v, Ev (fun k => L k i) ((v, a), b) ∧ (v = true ↔ ∀ j, i ≤ j → j < n → p j = true) := by
  have key : ∀ m i, i + m = n → ∃ v, Ev (fun k => L k i) ((v, a), b) ∧ (v = true ↔ ∀ j, i ≤ j → j < n → p j = true) := by
    intro m
    induction m with
    | zero => intro i hi; obtain rfl : i = n := by omega
              exact ⟨true, (Ev.const _).succ hend, by simp; intro j _ _; omega⟩
    | succ m ih =>
      intro i hi
      obtain ⟨v, hv, hv'⟩ := ih (i + 1) (by omega)
      cases hp : p i with
      | false => exact ⟨false, (Ev.const _).succ fun k => by rw [hstep k i (by omega), hp]; rfl, by simp; exact ⟨i, Nat.le_refl _, by omega, hp⟩⟩
      | true =>
        refine ⟨v, hv.succ fun k => by rw [hstep k i (by omega), hp]; rfl, hv'.trans ⟨fun h j hj hn => ?_, fun h j hj hn => h j (by omega) hn⟩⟩
        by_cases hij : j = i
        · rw [hij]; exact hp
        · exact h j (by omega) hn
  exact key (n - i) i (by omega)
theorem all_eq {α : Type} {xs ys : List α} (hl : xs.length = ys.length) (q : α → α → Bool) (hq : ∀ x y, q x y = true ↔ x = y) (d : α) : (∀ j, 0 ≤ j → j < xs.length → q (xs.getD j d) (ys.getD j d) = true) ↔ xs = ys := by
  constructor
  · intro h
    refine List.ext_getElem hl fun i h1 h2 => ?_
    have := (hq _ _).1 (h i (Nat.zero_le _) h1)
    rwa [getD_eq h1, getD_eq h2] at this
  · rintro rfl j _ _
    exact (hq _ _).2 rfl
theorem Goes.fill {α R : Type} {L : Nat → Nat → List α → Option R} (xs : List α) (d : α) (hstep : ∀ k i ys, i < xs.length → ys.length = xs.length → L (k + 1) i ys = L k (i + 1) (ys.set i (xs.getD i d))) (ys : List α) (hy : ys.length = xs.length) :
    Goes (fun k => L k 0 ys) (fun k => L k xs.length xs) := by
  obtain ⟨s, ⟨hs1, hs2⟩, hs3⟩ := Goes.loop L xs.length (fun i s => s.length = xs.length ∧ s.take i = xs.take i) (fun i s hi ⟨h1, h2⟩ => ⟨s.set i (xs.getD i d), ⟨by simp [h1], by
    rw [List.take_add_one, List.take_add_one, List.take_set_of_le (Nat.le_refl _), h2]
    simp [hi, h1, getD_eq hi]⟩, Goes.succ fun k => hstep k i s hi h1⟩) 0 ys (Nat.zero_le _) ⟨hy, by simp⟩
  have : s = xs := by
    rw [List.take_of_length_le (by omega), List.take_of_length_le (Nat.le_refl _)] at hs2
    exact hs2
  rw [this] at hs3
  exact hs3
theorem ite_nb {α : Type} (b : Bool) (x y : α) : (if (!b) = true then x else y) = if b = true then y else x := by cases b <;> rfl
theorem Ev.allP {A B : Type} {L : Nat → Nat → Option ((Bool × A) × B)} {a : A} {b : B} {n : Nat} (P : Nat → Prop) (e : Bool) (hstep : ∀ i, i < n → (P i ∧ ∀ k, L (k + 1) i = L k (i + 1)) ∨ (¬ P i ∧ ∀ k, L (k + 1) i = some ((false, a), b))) (hend : Ev (fun k => L k n) ((e, a), b)) (i : Nat) (hi : i ≤ n) :
    ∃ v, Ev (fun k => L k i) ((v, a), b) ∧ (v = true ↔ e = true ∧ ∀ j, i ≤ j → j < n → P j) := by
  have key : ∀ m i, i + m = n → ∃ v, Ev (fun k => L k i) ((v, a), b) ∧ (v = true ↔ e = true ∧ ∀ j, i ≤ j → j < n → P j) := by
    intro m
    induction m with
    | zero => intro i hi; obtain rfl : i = n := by omega
              exact ⟨e, hend, ⟨fun h => ⟨h, fun j h1 h2 => by omega⟩, fun h => h.1⟩⟩
    | succ m ih =>
      intro i hi
      obtain ⟨v, hv, hv'⟩ := ih (i + 1) (by omega)
      rcases hstep i (by omega) with ⟨hp, h⟩ | ⟨hp, h⟩
      · refine ⟨v, hv.succ h, hv'.trans ⟨fun ⟨h1, h2⟩ => ⟨h1, fun j hj hn => ?_⟩, fun ⟨h1, h2⟩ => ⟨h1, fun j hj hn => h2 j (by omega) hn⟩⟩⟩
        by_cases hij : j = i
        · rw [hij]; exact hp
        · exact h2 j (by omega) hn
      · exact ⟨false, (Ev.const _).succ h, ⟨fun h => (by cases h), fun ⟨_, h2⟩ => absurd (h2 i (Nat.le_refl _) (by omega)) hp⟩⟩
  exact key (n - i) i (by omega)
theorem getD_mem {α : Type} {xs : List α} {i : Nat} (d : α) (h : i < xs.length) : xs.getD i d ∈ xs := by rw [getD_eq h]; exact List.getElem_mem h
abbrev MatV := Int × Int × Int × List Int
abbrev ShfV := List (List Int) × Int × List Int × List MatV
def Sm (xs : List Int) : Prop := xs.length ≤ 1048576
def SmL (xs : List (List Int)) : Prop := xs.length ≤ 1048576 ∧ ∀ x ∈ xs, Sm x
def SmM (m : MatV) : Prop := Sm m.2.2.2
def SmMs (ms : List MatV) : Prop := ms.length ≤ 1048576 ∧ ∀ m ∈ ms, SmM m
def SmSh (s : ShfV) : Prop := SmL s.1 ∧ Sm s.2.2.1 ∧ SmMs s.2.2.2
theorem sz_loop {α : Type} (L : Nat → Nat → Int → Option ((Int × Unit) × Unit)) (xs : List α) (d : α) (P : α → Prop)
    (hstep : ∀ i l, i < xs.length → 0 ≤ l → l ≤ 1048576 → (∃ r, 0 ≤ r ∧ r ≤ l ∧ P (xs.getD i d) ∧ ∀ k, L (k + 1) i l = L k (i + 1) r) ∨ ∀ k, L (k + 1) i l = some ((-1, ()), ()))
    (hend : ∀ k l, L (k + 1) xs.length l = some ((l, ()), ())) (l : Int) (h0 : 0 ≤ l) (h1 : l ≤ 1048576) :
    ∃ r, Ev (fun k => L k 0 l) ((r, ()), ()) ∧ (r = -1 ∨ 0 ≤ r ∧ r ≤ l ∧ ∀ x ∈ xs, P x) := by
  obtain ⟨r, hr, q, rfl, hq⟩ := Ev.loop (σ := Int) L xs.length (fun i s => 0 ≤ s ∧ s ≤ l ∧ ∀ j, j < i → P (xs.getD j d)) (fun r => ∃ q : Int, r = ((q, ()), ()) ∧ (q = -1 ∨ 0 ≤ q ∧ q ≤ l ∧ ∀ x ∈ xs, P x))
    (fun i s hi ⟨a, b, c⟩ => by
      rcases hstep i s hi a (by omega) with ⟨r, r0, r1, hp, e⟩ | e
      · refine .inr ⟨r, ⟨r0, by omega, fun j hj => ?_⟩, Goes.succ e⟩
        by_cases hji : j = i
        · rw [hji]; exact hp
        · exact c j (by omega)
      · exact .inl ⟨_, (Ev.const _).succ e, -1, rfl, .inl rfl⟩)
    (fun s ⟨a, b, c⟩ => ⟨_, (Ev.const _).succ fun k => hend k s, s, rfl, .inr ⟨a, b, fun x hx => by
      obtain ⟨j, hj, rfl⟩ := List.getElem_of_mem hx
      rw [← getD_eq (d := d) hj]; exact c j hj⟩⟩) 0 l (Nat.zero_le _) ⟨h0, Int.le_refl _, fun j hj => by omega⟩
  exact ⟨q, hr, hq⟩
theorem same_loop {α : Type} (L : Nat → Nat → Option ((Bool × Unit) × Unit)) (xs ys : List α) (d : α) (hl : xs.length = ys.length)
    (hstep : ∀ i, i < xs.length → ∃ b : Bool, (b = true ↔ xs.getD i d = ys.getD i d) ∧ ∀ k, L (k + 1) i = if (!b) = true then some ((false, ()), ()) else L k (i + 1))
    (hend : ∀ k, L (k + 1) xs.length = some ((true, ()), ())) : ∃ v, Ev (fun k => L k 0) ((v, ()), ()) ∧ (v = true ↔ xs = ys) := by
  obtain ⟨v, hv, hv'⟩ := Ev.allP (L := L) (a := ()) (b := ()) (n := xs.length) (fun i => xs.getD i d = ys.getD i d) true (fun i hi => by
    obtain ⟨b, hb, e⟩ := hstep i hi
    cases b with
    | true => exact .inl ⟨hb.1 rfl, fun k => by rw [e]; rfl⟩
    | false => exact .inr ⟨fun h => absurd (hb.2 h) (by simp), fun k => by rw [e]; rfl⟩) ((Ev.const _).succ hend) 0 (Nat.zero_le _)
  refine ⟨v, hv, hv'.trans ⟨fun ⟨_, h⟩ => ?_, fun h => ⟨rfl, fun j _ _ => by rw [h]⟩⟩⟩
  refine List.ext_getElem hl fun i h1 h2 => ?_
  have := h i (Nat.zero_le _) h1
  rwa [getD_eq h1, getD_eq h2] at this
theorem idx2 {i n : Nat} (h : i < n) : 0 ≤ (i : Int) ∧ (i : Int) < (n : Int) := by omega
theorem spec_l00Same.same (xs ys : List Int) (h : Sm xs) : ∃ b, spec_l00Same.F (xs, ys, ()) = some ((b, ()), ()) ∧ (b = true ↔ xs = ys) := by
  have hn : xs.length ≤ 1048576 := h
  by_cases hl : xs.length = ys.length
  · obtain ⟨b, hb, hb'⟩ := same_loop (fun k i => spec_l00Same.l4 k xs ys (i : Int)) xs ys 0 hl (fun i hi => ⟨xs.getD i 0 == ys.getD i 0, by simp, fun k => by
      rw [spec_l00Same.l4_eq, if_pos (ltI.2 hi), if_pos (idxI.2 hi), if_pos (idx2 (hl ▸ hi))]; simp only [Int.toNat_natCast]; rw [wrapN (by omega)]; rfl⟩) (fun k => by rw [spec_l00Same.l4_eq, if_neg (by simp)])
    exact ⟨b, spec_l00Same.of _ _ (hb.of_eq fun k => by rw [spec_l00Same.T, if_neg (by simp [hl])]; rfl), hb'⟩
  · exact ⟨false, spec_l00Same.of _ _ ((Ev.const _).of_eq fun k => by rw [spec_l00Same.T, if_pos (by simp; omega)]), by simp; intro e; exact hl (by rw [e])⟩
theorem slices_Equal_Lint64_int64.same (xs ys : List Int) (h : Sm xs) : ∃ b, slices_Equal_Lint64_int64.F (xs, ys, ()) = some ((b, ()), ()) ∧ (b = true ↔ xs = ys) := by
  have hn : xs.length ≤ 1048576 := h
  by_cases hl : xs.length = ys.length
  · obtain ⟨b, hb, hb'⟩ := same_loop (fun k i => slices_Equal_Lint64_int64.l4 k xs ys xs.length (i : Int)) xs ys 0 hl (fun i hi => ⟨xs.getD i 0 == ys.getD i 0, by simp, fun k => by
      rw [slices_Equal_Lint64_int64.l4_eq, if_pos (ltI.2 hi), if_pos (idxI.2 hi), if_pos (idx2 (hl ▸ hi))]; simp only [Int.toNat_natCast]; rw [wrapN (by omega)]; rfl⟩) (fun k => by rw [slices_Equal_Lint64_int64.l4_eq, if_neg (by simp)])
    exact ⟨b, slices_Equal_Lint64_int64.of _ _ (hb.of_eq fun k => by rw [slices_Equal_Lint64_int64.T, if_neg (by simp [hl])]; rfl), hb'⟩
  · exact ⟨false, slices_Equal_Lint64_int64.of _ _ ((Ev.const _).of_eq fun k => by rw [slices_Equal_Lint64_int64.T, if_pos (by simp; omega)]), by simp; intro e; exact hl (by rw [e])⟩
theorem spec_l05Same.same (xs ys : List (List Int)) (h : SmL xs) : ∃ b, spec_l05Same.F (xs, ys, ()) = some ((b, ()), ()) ∧ (b = true ↔ xs = ys) := by
  have hn := h.1
  by_cases hl : xs.length = ys.length
  · obtain ⟨b, hb, hb'⟩ := same_loop (fun k i => spec_l05Same.l4 k xs ys (i : Int)) xs ys [] hl (fun i hi => by
      obtain ⟨c, hc, hc'⟩ := spec_l00Same.same (xs.getD i []) (ys.getD i []) (h.2 _ (getD_mem _ hi))
      exact ⟨c, hc', fun k => by rw [spec_l05Same.l4_eq, if_pos (ltI.2 hi), if_pos (idxI.2 hi), if_pos (idx2 (hl ▸ hi))]; simp only [Int.toNat_natCast, hc, Option.bind_some]; rw [wrapN (by omega)]⟩) (fun k => by rw [spec_l05Same.l4_eq, if_neg (by simp)])
    exact ⟨b, spec_l05Same.of _ _ (hb.of_eq fun k => by rw [spec_l05Same.T, if_neg (by simp [hl])]; rfl), hb'⟩
  · exact ⟨false, spec_l05Same.of _ _ ((Ev.const _).of_eq fun k => by rw [spec_l05Same.T, if_pos (by simp; omega)]), by simp; intro e; exact hl (by rw [e])⟩
theorem impl_areSame.same (xs ys : List (List Int)) (h : SmL xs) : ∃ b, impl_areSame.F (xs, ys, ()) = some ((b, ()), ()) ∧ (b = true ↔ xs = ys) := by
  have hn := h.1
  rw [impl_areSame.eq, impl_areSame.T]
  suffices ∃ b, slices_EqualFunc_LLint64_LLint64_Lint64_Lint64.F (xs, ys, slices_Equal_Lint64_int64.cloG (()), ()) = some ((b, ()), ()) ∧ (b = true ↔ xs = ys) by
    obtain ⟨b, hb, hb'⟩ := this
    rw [hb]; exact ⟨b, rfl, hb'⟩
  by_cases hl : xs.length = ys.length
  · obtain ⟨b, hb, hb'⟩ := same_loop (fun k i => slices_EqualFunc_LLint64_LLint64_Lint64_Lint64.l4 k ys (slices_Equal_Lint64_int64.cloG (())) xs xs.length (i : Int)) xs ys [] hl (fun i hi => by
      obtain ⟨c, hc, hc'⟩ := slices_Equal_Lint64_int64.same (xs.getD i []) (ys.getD i []) (h.2 _ (getD_mem _ hi))
      have hc2 : slices_Equal_Lint64_int64.cloG (()) (xs.getD i [], ys.getD i [], ()) = some (c, ()) := by
        show (slices_Equal_Lint64_int64.F (xs.getD i [], ys.getD i [], ())).map (·.1) = _
        rw [hc]; rfl
      exact ⟨c, hc', fun k => by rw [slices_EqualFunc_LLint64_LLint64_Lint64_Lint64.l4_eq, if_pos (ltI.2 hi), if_pos (idxI.2 hi), if_pos (idx2 (hl ▸ hi))]; simp only [Int.toNat_natCast, hc2, Option.bind_some]; rw [wrapN (by omega)]⟩) (fun k => by rw [slices_EqualFunc_LLint64_LLint64_Lint64_Lint64.l4_eq, if_neg (by simp)])
    exact ⟨b, slices_EqualFunc_LLint64_LLint64_Lint64_Lint64.of _ _ _ (hb.of_eq fun k => by rw [slices_EqualFunc_LLint64_LLint64_Lint64_Lint64.T, if_neg (by simp [hl])]; rfl), hb'⟩
  · exact ⟨false, slices_EqualFunc_LLint64_LLint64_Lint64_Lint64.of _ _ _ ((Ev.const _).of_eq fun k => by rw [slices_EqualFunc_LLint64_LLint64_Lint64_Lint64.T, if_pos (by simp; omega)]), by simp; intro e; exact hl (by rw [e])⟩
theorem impl_SameComplex.same (xs ys : List (List Int)) (h : SmL xs) : ∃ b, impl_SameComplex.F (xs, ys, ()) = some ((b, ()), ()) ∧ (b = true ↔ xs = ys) := by
  obtain ⟨b, hb, hb'⟩ := impl_areSame.same xs ys h
  rw [impl_SameComplex.eq, impl_SameComplex.T, hb]
  exact ⟨b, rfl, hb'⟩
theorem spec_l03Same.same (m n : MatV) (h : SmM m) : ∃ b, spec_l03Same.F (m, n, ()) = some ((b, ()), ()) ∧ (b = true ↔ m = n) := by
  obtain ⟨a, b, c, xs⟩ := m
  obtain ⟨a', b', c', ys⟩ := n
  have hn : xs.length ≤ 1048576 := h
  simp only [Prod.mk.injEq]
  by_cases h1 : a = a'
  · by_cases h2 : b = b'
    · by_cases h3 : c = c'
      · by_cases hl : xs.length = ys.length
        · obtain ⟨e, he, he'⟩ := same_loop (fun k i => spec_l03Same.l4 k a b c xs a' b' c' ys (i : Int)) xs ys 0 hl (fun i hi => ⟨xs.getD i 0 == ys.getD i 0, by simp, fun k => by
            rw [spec_l03Same.l4_eq, if_pos (ltI.2 hi), if_pos (idxI.2 hi), if_pos (idx2 (hl ▸ hi))]; simp only [Int.toNat_natCast]; rw [wrapN (by omega)]; rfl⟩) (fun k => by rw [spec_l03Same.l4_eq, if_neg (by simp)])
          exact ⟨e, spec_l03Same.of _ _ _ _ _ _ _ _ (he.of_eq fun k => by rw [spec_l03Same.T, if_neg (by simp [h1]), if_neg (by simp [h2]), if_neg (by simp [h3]), if_neg (by simp [hl])]; rfl), by simp [h1, h2, h3, he']⟩
        · exact ⟨false, spec_l03Same.of _ _ _ _ _ _ _ _ ((Ev.const _).of_eq fun k => by rw [spec_l03Same.T, if_neg (by simp [h1]), if_neg (by simp [h2]), if_neg (by simp [h3]), if_pos (by simp; omega)]), by simp [h1, h2, h3]; intro e; exact hl (by rw [e])⟩
      · exact ⟨false, spec_l03Same.of _ _ _ _ _ _ _ _ ((Ev.const _).of_eq fun k => by rw [spec_l03Same.T, if_neg (by simp [h1]), if_neg (by simp [h2]), if_pos (by simp [h3])]), by simp [h3]⟩
    · exact ⟨false, spec_l03Same.of _ _ _ _ _ _ _ _ ((Ev.const _).of_eq fun k => by rw [spec_l03Same.T, if_neg (by simp [h1]), if_pos (by simp [h2])]), by simp [h2]⟩
  · exact ⟨false, spec_l03Same.of _ _ _ _ _ _ _ _ ((Ev.const _).of_eq fun k => by rw [spec_l03Same.T, if_pos (by simp [h1])]), by simp [h1]⟩
theorem impl_SameMatrix.same (m n : MatV) (h : SmM m) : ∃ b, impl_SameMatrix.F (m, n, ()) = some ((b, ()), ()) ∧ (b = true ↔ m = n) := by
  obtain ⟨a, b, c, xs⟩ := m
  obtain ⟨a', b', c', ys⟩ := n
  obtain ⟨e, he, he'⟩ := slices_Equal_Lint64_int64.same xs ys h
  rw [impl_SameMatrix.eq, impl_SameMatrix.T, he]
  simp only [Option.bind_some, Prod.mk.injEq]
  by_cases h1 : a = a'
  · by_cases h2 : b = b'
    · by_cases h3 : c = c'
      · exact ⟨e, by rw [if_pos (by simp [h1]), if_pos (by simp [h2]), if_pos (by simp [h3])], by simp [h1, h2, h3, he']⟩
      · exact ⟨false, by rw [if_pos (by simp [h1]), if_pos (by simp [h2]), if_neg (by simp [h3])], by simp [h3]⟩
    · exact ⟨false, by rw [if_pos (by simp [h1]), if_neg (by simp [h2])], by simp [h2]⟩
  · exact ⟨false, by rw [if_neg (by simp [h1])], by simp [h1]⟩
theorem equalMats.same (xs ys : List MatV) (h : SmMs xs) : ∃ b, slices_EqualFunc_Limpl_Matrix_Limpl_Matrix_impl_Matrix_impl_Matrix.F (xs, ys, impl_SameMatrix.cloG (()), ()) = some ((b, ()), ()) ∧ (b = true ↔ xs = ys) := by
  have hn := h.1
  by_cases hl : xs.length = ys.length
  · obtain ⟨b, hb, hb'⟩ := same_loop (fun k i => slices_EqualFunc_Limpl_Matrix_Limpl_Matrix_impl_Matrix_impl_Matrix.l4 k ys (impl_SameMatrix.cloG (())) xs xs.length (i : Int)) xs ys (0, 0, 0, []) hl (fun i hi => by
      obtain ⟨c, hc, hc'⟩ := impl_SameMatrix.same (xs.getD i (0, 0, 0, [])) (ys.getD i (0, 0, 0, [])) (h.2 _ (getD_mem _ hi))
      have hc2 : impl_SameMatrix.cloG (()) (xs.getD i (0, 0, 0, []), ys.getD i (0, 0, 0, []), ()) = some (c, ()) := by
        show (impl_SameMatrix.F (xs.getD i (0, 0, 0, []), ys.getD i (0, 0, 0, []), ())).map (·.1) = _
        rw [hc]; rfl
      exact ⟨c, hc', fun k => by rw [slices_EqualFunc_Limpl_Matrix_Limpl_Matrix_impl_Matrix_impl_Matrix.l4_eq, if_pos (ltI.2 hi), if_pos (idxI.2 hi), if_pos (idx2 (hl ▸ hi))]; simp only [Int.toNat_natCast, hc2, Option.bind_some]; rw [wrapN (by omega)]⟩) (fun k => by rw [slices_EqualFunc_Limpl_Matrix_Limpl_Matrix_impl_Matrix_impl_Matrix.l4_eq, if_neg (by simp)])
    exact ⟨b, slices_EqualFunc_Limpl_Matrix_Limpl_Matrix_impl_Matrix_impl_Matrix.of _ _ _ (hb.of_eq fun k => by rw [slices_EqualFunc_Limpl_Matrix_Limpl_Matrix_impl_Matrix_impl_Matrix.T, if_neg (by simp [hl])]; rfl), hb'⟩
  · exact ⟨false, slices_EqualFunc_Limpl_Matrix_Limpl_Matrix_impl_Matrix_impl_Matrix.of _ _ _ ((Ev.const _).of_eq fun k => by rw [slices_EqualFunc_Limpl_Matrix_Limpl_Matrix_impl_Matrix_impl_Matrix.T, if_pos (by simp; omega)]), by simp; intro e; exact hl (by rw [e])⟩
theorem spec_l09Same.same (s t : ShfV) (h : SmSh s) : ∃ b, spec_l09Same.F (s, t, ()) = some ((b, ()), ()) ∧ (b = true ↔ s = t) := by
  obtain ⟨a, p, b, c⟩ := s
  obtain ⟨a', p', b', c'⟩ := t
  obtain ⟨h1, h2, h3⟩ := h
  have hn := h3.1
  simp only [] at hn
  obtain ⟨v1, e1, k1⟩ := spec_l05Same.same a a' h1
  obtain ⟨v2, e2, k2⟩ := spec_l00Same.same b b' h2
  have main : ∃ v3, (v3 = true ↔ c = c') ∧ Ev (fun k => if ((c.length : Int) != (c'.length : Int)) = true then some ((false, ()), ()) else spec_l09Same.l4 k a p b c a' p' b' c' (0 : Int)) ((v3, ()), ()) := by
    by_cases hl : c.length = c'.length
    · obtain ⟨e, he, he'⟩ := same_loop (fun k i => spec_l09Same.l4 k a p b c a' p' b' c' (i : Int)) c c' (0, 0, 0, []) hl (fun i hi => by
        obtain ⟨q, hq, hq'⟩ := spec_l03Same.same (c.getD i (0, 0, 0, [])) (c'.getD i (0, 0, 0, [])) (h3.2 _ (getD_mem _ hi))
        exact ⟨q, hq', fun k => by rw [spec_l09Same.l4_eq, if_pos (ltI.2 hi), if_pos (idxI.2 hi), if_pos (idx2 (hl ▸ hi))]; simp only [Int.toNat_natCast, hq, Option.bind_some]; rw [wrapN (by omega)]⟩) (fun k => by rw [spec_l09Same.l4_eq, if_neg (by simp)])
      exact ⟨e, he', he.of_eq fun k => by rw [if_neg (by simp [hl])]; rfl⟩
    · exact ⟨false, by simp; intro e; exact hl (by rw [e]), (Ev.const _).of_eq fun k => by rw [if_pos (by simp; omega)]⟩
  obtain ⟨v3, k3, e3⟩ := main
  simp only [Prod.mk.injEq]
  cases v1 with
  | false => exact ⟨false, spec_l09Same.of _ _ _ _ _ _ _ _ ((Ev.const _).of_eq fun k => by rw [spec_l09Same.T, e1]; rfl), by simp; intro e; exact absurd (k1.2 e) (by simp)⟩
  | true =>
    by_cases hp : p = p'
    · cases v2 with
      | false => exact ⟨false, spec_l09Same.of _ _ _ _ _ _ _ _ ((Ev.const _).of_eq fun k => by rw [spec_l09Same.T, e1, e2]; simp [hp]), by simp; intro _ _ e; exact absurd (k2.2 e) (by simp)⟩
      | true => exact ⟨v3, spec_l09Same.of _ _ _ _ _ _ _ _ (e3.of_eq fun k => by rw [spec_l09Same.T, e1, e2]; simp only [Option.bind_some, Bool.not_true, Bool.false_eq_true, if_false]; rw [if_neg (by simp [hp])]), by simp [k1.1 rfl, k2.1 rfl, hp, k3]⟩
    · exact ⟨false, spec_l09Same.of _ _ _ _ _ _ _ _ ((Ev.const _).of_eq fun k => by rw [spec_l09Same.T, e1]; simp [hp]), by simp [hp]⟩
theorem impl_SameSheaf.same (s t : ShfV) (h : SmSh s) : ∃ b, impl_SameSheaf.F (s, t, ()) = some ((b, ()), ()) ∧ (b = true ↔ s = t) := by
  obtain ⟨a, p, b, c⟩ := s
  obtain ⟨a', p', b', c'⟩ := t
  obtain ⟨h1, h2, h3⟩ := h
  obtain ⟨v1, e1, k1⟩ := impl_SameComplex.same a a' h1
  obtain ⟨v2, e2, k2⟩ := slices_Equal_Lint64_int64.same b b' h2
  obtain ⟨v3, e3, k3⟩ := equalMats.same c c' h3
  rw [impl_SameSheaf.eq, impl_SameSheaf.T, e1, e2, e3]
  simp only [Option.bind_some, Prod.mk.injEq]
  by_cases hp : p = p'
  · rw [show (p == p') = true by simp [hp]]
    refine ⟨v1 && v2 && v3, by cases v1 <;> cases v2 <;> cases v3 <;> rfl, ?_⟩
    simp only [Bool.and_eq_true, k1, k2, k3, hp, true_and, and_assoc]
  · rw [show (p == p') = false by simp [hp]]
    exact ⟨false, by cases v1 <;> rfl, by simp [hp]⟩
theorem laws_toInt64S.val (xs : List Int) (h : xs.length ≤ 1099511627776) : laws_toInt64S.F (xs, ()) = some ((xs, ()), ()) := by
  refine laws_toInt64S.of xs ?_
  have := Goes.fill (L := fun k i ys => laws_toInt64S.l3 k xs (i : Int) ys) xs 0 (fun k i ys hi hy => by
    rw [laws_toInt64S.l3_eq, if_pos (ltI.2 hi), if_pos (idxI.2 hi), if_pos (by omega), wrapN (by omega)]
    simp only [Int.toNat_natCast]) (List.replicate xs.length 0) (by simp)
  refine Ev.of_eq (this _ ((Ev.const _).succ fun k => ?_)) fun k => ?_
  · rw [laws_toInt64S.l3_eq, if_neg (by simp)]
  · rw [laws_toInt64S.T, if_pos (by simp only [bigN]; omega)]; rfl
theorem laws_eqInt64S.val (xs ys : List Int) (hn : xs.length < 4611686018427387904) : ∃ b, laws_eqInt64S.F (xs, ys, ()) = some ((b, ()), ()) ∧ (b = true ↔ xs = ys) := by
  by_cases hl : xs.length = ys.length
  · obtain ⟨b, hb, hb'⟩ := Ev.all (L := fun k i => laws_eqInt64S.l4 k xs ys (i : Int)) (a := ()) (b := ()) (n := xs.length) (fun i => xs.getD i 0 == ys.getD i 0) (fun k i hi => by
      rw [laws_eqInt64S.l4_eq, if_pos (ltI.2 hi), if_pos (idxI.2 hi), if_pos (by omega), wrapN (by omega)]
      simp only [Int.toNat_natCast]
      exact ite_nb _ _ _) (fun k => by rw [laws_eqInt64S.l4_eq, if_neg (by simp)]) 0 (Nat.zero_le _)
    refine ⟨b, laws_eqInt64S.of _ _ (hb.of_eq fun k => ?_), by rw [hb', all_eq hl (fun x y => x == y) (by simp)]⟩
    rw [laws_eqInt64S.T, if_neg (by simp [hl])]
    rfl
  · refine ⟨false, laws_eqInt64S.of _ _ ((Ev.const _).of_eq fun k => ?_), by simp; intro e; exact hl (by rw [e])⟩
    rw [laws_eqInt64S.T, if_pos (by simp; omega)]
theorem laws_szInt64S.val (xs : List Int) (l : Int) (h0 : 0 ≤ l) (h1 : l ≤ 1048576) (hx : xs.length ≤ maxLen) : ∃ r, laws_szInt64S.F (xs, l, ()) = some ((r, ()), ()) ∧ (r = -1 ∨ 0 ≤ r ∧ r ≤ l ∧ Sm xs) := by
  have : xs.length ≤ 9223372036854775807 := hx
  rw [laws_szInt64S.eq, laws_szInt64S.T, wrapI (by omega) (by omega)]
  by_cases h : l < xs.length
  · exact ⟨-1, by rw [if_pos (by simp; omega)], .inl rfl⟩
  · exact ⟨_, by rw [if_neg (by simp; omega)], .inr ⟨by omega, by omega, by unfold Sm; omega⟩⟩
theorem laws_szInt64SS.val (xs : List (List Int)) (l : Int) (h0 : 0 ≤ l) (h1 : l ≤ 1048576) (hx : xs.length ≤ maxLen) (hr : ∀ x ∈ xs, x.length ≤ maxLen) : ∃ r, laws_szInt64SS.F (xs, l, ()) = some ((r, ()), ()) ∧ (r = -1 ∨ 0 ≤ r ∧ r ≤ l ∧ SmL xs) := by
  have : xs.length ≤ 9223372036854775807 := hx
  by_cases h : l < xs.length
  · exact ⟨-1, laws_szInt64SS.of _ _ ((Ev.const _).of_eq fun k => by rw [laws_szInt64SS.T, wrapI (by omega) (by omega), if_pos (by simp; omega)]), .inl rfl⟩
  obtain ⟨r, hv, h2⟩ := sz_loop (fun k i s => laws_szInt64SS.l5 k xs s (i : Int)) xs [] Sm (fun i s hi s0 s1 => by
    have E := fun k => laws_szInt64SS.l5_eq k xs s (i : Int)
    obtain ⟨r, hr1, hr2⟩ := laws_szInt64S.val (xs.getD i []) s s0 s1 (hr _ (getD_mem _ hi))
    simp only [if_pos (ltI.2 hi), if_pos (idxI.2 hi), Int.toNat_natCast, hr1, Option.bind_some, wrapN (show i < 4611686018427387904 by omega)] at E
    rcases hr2 with rfl | ⟨a, b, c⟩
    · exact .inr fun k => by rw [E, if_pos (by simp)]
    · exact .inl ⟨r, a, b, c, fun k => by rw [E, if_neg (by simp; omega)]⟩) (fun k l => by rw [laws_szInt64SS.l5_eq, if_neg (by simp)]) (l - xs.length) (by omega) (by omega)
  refine ⟨r, laws_szInt64SS.of _ _ (hv.of_eq fun k => by rw [laws_szInt64SS.T, wrapI (by omega) (by omega), if_neg (by simp; omega)]; rfl), ?_⟩
  rcases h2 with h2 | ⟨a, b, c⟩
  · exact .inl h2
  · exact .inr ⟨a, by omega, by omega, c⟩
theorem laws_szComplex.val (xs : List (List Int)) (l : Int) (h0 : 0 ≤ l) (h1 : l ≤ 1048576) (hx : xs.length ≤ maxLen) (hr : ∀ x ∈ xs, x.length ≤ maxLen) : ∃ r, laws_szComplex.F (xs, l, ()) = some ((r, ()), ()) ∧ (r = -1 ∨ 0 ≤ r ∧ r ≤ l ∧ SmL xs) := by
  obtain ⟨r, h2, h3⟩ := laws_szInt64SS.val xs l h0 h1 hx hr
  rw [laws_szComplex.eq, laws_szComplex.T, h2]
  simp only [Option.bind_some]
  rcases h3 with rfl | ⟨a, b, c⟩
  · exact ⟨-1, by rw [if_pos (by simp)], .inl rfl⟩
  · exact ⟨r, by rw [if_neg (by simp; omega)], .inr ⟨a, b, c⟩⟩
theorem laws_toInt64SS.val (xs : List (List Int)) (h : SmL xs) : laws_toInt64SS.F (xs, ()) = some ((xs, ()), ()) := by
  have hl := h.1
  refine laws_toInt64SS.of xs ?_
  have := Goes.fill (L := fun k i ys => laws_toInt64SS.l3 k xs (i : Int) ys) xs [] (fun k i ys hi hy => by
    have hs : (xs.getD i []).length ≤ 1048576 := h.2 _ (getD_mem _ hi)
    rw [laws_toInt64SS.l3_eq, if_pos (ltI.2 hi), if_pos (idxI.2 hi)]
    simp only [Int.toNat_natCast, laws_toInt64S.val (xs.getD i []) (by omega), Option.bind_some]
    rw [if_pos (by omega), wrapN (by omega)]) (List.replicate xs.length []) (by simp)
  refine Ev.of_eq (this _ ((Ev.const _).succ fun k => ?_)) fun k => ?_
  · rw [laws_toInt64SS.l3_eq, if_neg (by simp)]
  · rw [laws_toInt64SS.T, if_pos (by simp only [bigN]; omega)]; rfl
theorem laws_toComplex.val (xs : List (List Int)) (h : SmL xs) : laws_toComplex.F (xs, ()) = some ((xs, ()), ()) := by
  rw [laws_toComplex.eq, laws_toComplex.T, laws_toInt64SS.val xs h]; rfl
theorem laws_eqInt64SS.same (xs ys : List (List Int)) (h : SmL xs) : ∃ b, laws_eqInt64SS.F (xs, ys, ()) = some ((b, ()), ()) ∧ (b = true ↔ xs = ys) := by
  have hn := h.1
  by_cases hl : xs.length = ys.length
  · obtain ⟨b, hb, hb'⟩ := same_loop (fun k i => laws_eqInt64SS.l4 k xs ys (i : Int)) xs ys [] hl (fun i hi => by
      have hs : (xs.getD i []).length ≤ 1048576 := h.2 _ (getD_mem _ hi)
      obtain ⟨c, hc, hc'⟩ := laws_eqInt64S.val (xs.getD i []) (ys.getD i []) (by omega)
      exact ⟨c, hc', fun k => by rw [laws_eqInt64SS.l4_eq, if_pos (ltI.2 hi), if_pos (idxI.2 hi), if_pos (idx2 (hl ▸ hi))]; simp only [Int.toNat_natCast, hc, Option.bind_some]; rw [wrapN (by omega)]⟩) (fun k => by rw [laws_eqInt64SS.l4_eq, if_neg (by simp)])
    exact ⟨b, laws_eqInt64SS.of _ _ (hb.of_eq fun k => by rw [laws_eqInt64SS.T, if_neg (by simp [hl])]; rfl), hb'⟩
  · exact ⟨false, laws_eqInt64SS.of _ _ ((Ev.const _).of_eq fun k => by rw [laws_eqInt64SS.T, if_pos (by simp; omega)]), by simp; intro e; exact hl (by rw [e])⟩
theorem laws_eqComplex.same (xs ys : List (List Int)) (h : SmL xs) : ∃ b, laws_eqComplex.F (xs, ys, ()) = some ((b, ()), ()) ∧ (b = true ↔ xs = ys) := by
  obtain ⟨b, hb, hb'⟩ := laws_eqInt64SS.same xs ys h
  rw [laws_eqComplex.eq, laws_eqComplex.T, hb]
  exact ⟨b, by cases b <;> rfl, hb'⟩
theorem laws_szMatrix.val (m : MatV) (l : Int) (h0 : 0 ≤ l) (h1 : l ≤ 1048576) (hx : m.2.2.2.length ≤ maxLen) : ∃ r, laws_szMatrix.F (m, l, ()) = some ((r, ()), ()) ∧ (r = -1 ∨ 0 ≤ r ∧ r ≤ l ∧ SmM m) := by
  obtain ⟨a, b, c, xs⟩ := m
  obtain ⟨r, h2, h3⟩ := laws_szInt64S.val xs l h0 h1 hx
  rw [laws_szMatrix.eq, laws_szMatrix.T, h2]
  simp only [Option.bind_some]
  rcases h3 with rfl | ⟨a, b, c⟩
  · exact ⟨-1, by rw [if_pos (by simp)], .inl rfl⟩
  · exact ⟨r, by rw [if_neg (by simp; omega)], .inr ⟨a, b, c⟩⟩
theorem laws_szMatrixS.val (xs : List MatV) (l : Int) (h0 : 0 ≤ l) (h1 : l ≤ 1048576) (hx : xs.length ≤ maxLen) (hr : ∀ x ∈ xs, x.2.2.2.length ≤ maxLen) : ∃ r, laws_szMatrixS.F (xs, l, ()) = some ((r, ()), ()) ∧ (r = -1 ∨ 0 ≤ r ∧ r ≤ l ∧ SmMs xs) := by
  have : xs.length ≤ 9223372036854775807 := hx
  by_cases h : l < xs.length
  · exact ⟨-1, laws_szMatrixS.of _ _ ((Ev.const _).of_eq fun k => by rw [laws_szMatrixS.T, wrapI (by omega) (by omega), if_pos (by simp; omega)]), .inl rfl⟩
  obtain ⟨r, hv, h2⟩ := sz_loop (fun k i s => laws_szMatrixS.l5 k xs s (i : Int)) xs (0, 0, 0, []) SmM (fun i s hi s0 s1 => by
    have E := fun k => laws_szMatrixS.l5_eq k xs s (i : Int)
    obtain ⟨r, hr1, hr2⟩ := laws_szMatrix.val (xs.getD i (0, 0, 0, [])) s s0 s1 (hr _ (getD_mem _ hi))
    simp only [if_pos (ltI.2 hi), if_pos (idxI.2 hi), Int.toNat_natCast, hr1, Option.bind_some, wrapN (show i < 4611686018427387904 by omega)] at E
    rcases hr2 with rfl | ⟨a, b, c⟩
    · exact .inr fun k => by rw [E, if_pos (by simp)]
    · exact .inl ⟨r, a, b, c, fun k => by rw [E, if_neg (by simp; omega)]⟩) (fun k l => by rw [laws_szMatrixS.l5_eq, if_neg (by simp)]) (l - xs.length) (by omega) (by omega)
  refine ⟨r, laws_szMatrixS.of _ _ (hv.of_eq fun k => by rw [laws_szMatrixS.T, wrapI (by omega) (by omega), if_neg (by simp; omega)]; rfl), ?_⟩
  rcases h2 with h2 | ⟨a, b, c⟩
  · exact .inl h2
  · exact .inr ⟨a, by omega, by omega, c⟩
theorem laws_toMatrix.val (m : MatV) (h : SmM m) : laws_toMatrix.F (m, ()) = some ((m, ()), ()) := by
  obtain ⟨a, b, c, xs⟩ := m
  have hs : xs.length ≤ 1048576 := h
  rw [laws_toMatrix.eq, laws_toMatrix.T, laws_toInt64S.val xs (by omega)]; rfl
theorem laws_toMatrixS.val (xs : List MatV) (h : SmMs xs) : laws_toMatrixS.F (xs, ()) = some ((xs, ()), ()) := by
  have hl := h.1
  refine laws_toMatrixS.of xs ?_
  have := Goes.fill (L := fun k i ys => laws_toMatrixS.l3 k xs (i : Int) ys) xs (0, 0, 0, []) (fun k i ys hi hy => by
    rw [laws_toMatrixS.l3_eq, if_pos (ltI.2 hi), if_pos (idxI.2 hi)]
    simp only [Int.toNat_natCast, laws_toMatrix.val _ (h.2 _ (getD_mem (0, 0, 0, []) hi)), Option.bind_some]
    rw [if_pos (by omega), wrapN (by omega)]) (List.replicate xs.length (0, 0, 0, [])) (by simp)
  refine Ev.of_eq (this _ ((Ev.const _).succ fun k => ?_)) fun k => ?_
  · rw [laws_toMatrixS.l3_eq, if_neg (by simp)]
  · rw [laws_toMatrixS.T, if_pos (by simp only [bigN]; omega)]; rfl
theorem laws_eqMatrix.same (m n : MatV) (h : SmM m) : ∃ b, laws_eqMatrix.F (m, n, ()) = some ((b, ()), ()) ∧ (b = true ↔ m = n) := by
  obtain ⟨a, b, c, xs⟩ := m
  obtain ⟨a', b', c', ys⟩ := n
  have hs : xs.length ≤ 1048576 := h
  obtain ⟨e, he, he'⟩ := laws_eqInt64S.val xs ys (by omega)
  rw [laws_eqMatrix.eq, laws_eqMatrix.T, he]
  simp only [Option.bind_some, Prod.mk.injEq]
  by_cases h1 : a = a'
  · by_cases h2 : b = b'
    · by_cases h3 : c = c'
      · rw [if_neg (by simp [h1]), if_neg (by simp [h2]), if_neg (by simp [h3])]
        exact ⟨e, by cases e <;> rfl, by simp [h1, h2, h3, he']⟩
      · exact ⟨false, by rw [if_neg (by simp [h1]), if_neg (by simp [h2]), if_pos (by simp [h3])], by simp [h3]⟩
    · exact ⟨false, by rw [if_neg (by simp [h1]), if_pos (by simp [h2])], by simp [h2]⟩
  · exact ⟨false, by rw [if_pos (by simp [h1])], by simp [h1]⟩
theorem laws_eqMatrixS.same (xs ys : List MatV) (h : SmMs xs) : ∃ b, laws_eqMatrixS.F (xs, ys, ()) = some ((b, ()), ()) ∧ (b = true ↔ xs = ys) := by
  have hn := h.1
  by_cases hl : xs.length = ys.length
  · obtain ⟨b, hb, hb'⟩ := same_loop (fun k i => laws_eqMatrixS.l4 k xs ys (i : Int)) xs ys (0, 0, 0, []) hl (fun i hi => by
      obtain ⟨c, hc, hc'⟩ := laws_eqMatrix.same (xs.getD i (0, 0, 0, [])) (ys.getD i (0, 0, 0, [])) (h.2 _ (getD_mem _ hi))
      exact ⟨c, hc', fun k => by rw [laws_eqMatrixS.l4_eq, if_pos (ltI.2 hi), if_pos (idxI.2 hi), if_pos (idx2 (hl ▸ hi))]; simp only [Int.toNat_natCast, hc, Option.bind_some]; rw [wrapN (by omega)]⟩) (fun k => by rw [laws_eqMatrixS.l4_eq, if_neg (by simp)])
    exact ⟨b, laws_eqMatrixS.of _ _ (hb.of_eq fun k => by rw [laws_eqMatrixS.T, if_neg (by simp [hl])]; rfl), hb'⟩
  · exact ⟨false, laws_eqMatrixS.of _ _ ((Ev.const _).of_eq fun k => by rw [laws_eqMatrixS.T, if_pos (by simp; omega)]), by simp; intro e; exact hl (by rw [e])⟩
theorem laws_szCosheaf.val (s : ShfV) (l : Int) (h0 : 0 ≤ l) (h1 : l ≤ 1048576) (w1 : s.1.length ≤ maxLen) (w2 : ∀ x ∈ s.1, x.length ≤ maxLen) (w3 : s.2.2.1.length ≤ maxLen) (w4 : s.2.2.2.length ≤ maxLen) (w5 : ∀ x ∈ s.2.2.2, x.2.2.2.length ≤ maxLen) : ∃ r, laws_szCosheaf.F (s, l, ()) = some ((r, ()), ()) ∧ (r = -1 ∨ 0 ≤ r ∧ r ≤ l ∧ SmSh s) := by
  obtain ⟨a, p, b, c⟩ := s
  obtain ⟨r1, e1, k1⟩ := laws_szComplex.val a l h0 h1 w1 w2
  rw [laws_szCosheaf.eq, laws_szCosheaf.T, e1]
  simp only [Option.bind_some]
  rcases k1 with rfl | ⟨a1, b1, c1⟩
  · exact ⟨-1, by rw [if_pos (by simp)], .inl rfl⟩
  rw [if_neg (by simp; omega)]
  obtain ⟨r2, e2, k2⟩ := laws_szInt64S.val b r1 a1 (by omega) w3
  rw [e2]
  simp only [Option.bind_some]
  rcases k2 with rfl | ⟨a2, b2, c2⟩
  · exact ⟨-1, by rw [if_pos (by simp)], .inl rfl⟩
  rw [if_neg (by simp; omega)]
  obtain ⟨r3, e3, k3⟩ := laws_szMatrixS.val c r2 a2 (by omega) w4 w5
  rw [e3]
  simp only [Option.bind_some]
  rcases k3 with rfl | ⟨a3, b3, c3⟩
  · exact ⟨-1, by rw [if_pos (by simp)], .inl rfl⟩
  exact ⟨r3, by rw [if_neg (by simp; omega)], .inr ⟨a3, by omega, c1, c2, c3⟩⟩
theorem laws_toCosheaf.val (s : ShfV) (h : SmSh s) : laws_toCosheaf.F (s, ()) = some ((s, ()), ()) := by
  obtain ⟨a, p, b, c⟩ := s
  obtain ⟨h1, h2, h3⟩ := h
  have h2' : b.length ≤ 1048576 := h2
  rw [laws_toCosheaf.eq, laws_toCosheaf.T, laws_toComplex.val a h1, laws_toInt64S.val b (by omega), laws_toMatrixS.val c h3]; rfl
theorem laws_eqCosheaf.same (s t : ShfV) (h : SmSh s) : ∃ b, laws_eqCosheaf.F (s, t, ()) = some ((b, ()), ()) ∧ (b = true ↔ s = t) := by
  obtain ⟨a, p, b, c⟩ := s
  obtain ⟨a', p', b', c'⟩ := t
  obtain ⟨h1, h2, h3⟩ := h
  have h2' : b.length ≤ 1048576 := h2
  obtain ⟨v1, e1, k1⟩ := laws_eqComplex.same a a' h1
  obtain ⟨v2, e2, k2⟩ := laws_eqInt64S.val b b' (by omega)
  obtain ⟨v3, e3, k3⟩ := laws_eqMatrixS.same c c' h3
  rw [laws_eqCosheaf.eq, laws_eqCosheaf.T, e1, e2, e3]
  simp only [Option.bind_some, Prod.mk.injEq]
  by_cases hp : p = p'
  · rw [show (p != p') = false by simp [hp]]
    refine ⟨v1 && v2 && v3, by cases v1 <;> cases v2 <;> cases v3 <;> rfl, ?_⟩
    simp only [Bool.and_eq_true, k1, k2, k3, hp, true_and, and_assoc]
  · rw [show (p != p') = true by simp [hp]]
    exact ⟨false, by cases v1 <;> rfl, by simp [hp]⟩
theorem shf_wf {s : ShfV} (h : wfT (.pair (.sl (.sl (.int .i64))) (.pair (.int .i64) (.pair (.sl (.int .i64)) (.sl (.pair (.int .i64) (.pair (.int .i64) (.pair (.int .i64) (.sl (.int .i64))))))))) s) : s.1.length ≤ maxLen ∧ (∀ x ∈ s.1, x.length ≤ maxLen) ∧ s.2.2.1.length ≤ maxLen ∧ s.2.2.2.length ≤ maxLen ∧ ∀ x ∈ s.2.2.2, x.2.2.2.length ≤ maxLen := by
  obtain ⟨a, p, b, c⟩ := s
  obtain ⟨⟨h1, h2⟩, _, ⟨h3, _⟩, h4, h5⟩ := h
  exact ⟨h1, fun x hx => (h2 x hx).1, h3, h4, fun x hx => (h5 x hx).2.2.2.1⟩
theorem laws_FnExactSameCosheaf.pure (d : Ins laws_FnExactSameCosheaf.sig.ps) (h : wfIns laws_FnExactSameCosheaf.sig.ps d) : ∃ mu, laws_FnExactSameCosheaf.F d = some ((true, ()), mu) := by
  obtain ⟨s, t, ⟨⟩⟩ := d
  obtain ⟨hs, ht, _⟩ := h
  obtain ⟨w1, w2, w3, w4, w5⟩ := shf_wf hs
  obtain ⟨u1, u2, u3, u4, u5⟩ := shf_wf ht
  obtain ⟨r1, e1, k1⟩ := laws_szCosheaf.val s 1048576 (by omega) (by omega) w1 w2 w3 w4 w5
  refine ⟨(), ?_⟩
  have hT : laws_FnExactSameCosheaf.F (s, t, ()) = laws_FnExactSameCosheaf.T s.1 s.2.1 s.2.2.1 s.2.2.2 t.1 t.2.1 t.2.2.1 t.2.2.2 := laws_FnExactSameCosheaf.eq _ _ _ _ _ _ _ _
  rw [hT, laws_FnExactSameCosheaf.T]
  simp only [e1, Option.bind_some]
  rcases k1 with rfl | ⟨a1, b1, c1⟩
  · rw [if_pos (by simp)]
  rw [if_neg (by simp; omega)]
  obtain ⟨r2, e2, k2⟩ := laws_szCosheaf.val t r1 a1 b1 u1 u2 u3 u4 u5
  simp only [e2, Option.bind_some]
  rcases k2 with rfl | ⟨a2, b2, c2⟩
  · rw [if_pos (by simp)]
  rw [if_neg (by simp; omega)]
  obtain ⟨v1, q1, q1'⟩ := spec_l09Same.same s t c1
  obtain ⟨v2, q2, q2'⟩ := impl_SameSheaf.same s t c1
  obtain rfl : v2 = v1 := Bool.eq_iff_iff.2 (q2'.trans q1'.symm)
  have p1 : spec_SameCosheaf.F (s, t, ()) = some ((v2, ()), ()) := by
    have : spec_SameCosheaf.F (s, t, ()) = spec_SameCosheaf.T s.1 s.2.1 s.2.2.1 s.2.2.2 t.1 t.2.1 t.2.2.1 t.2.2.2 := spec_SameCosheaf.eq _ _ _ _ _ _ _ _
    rw [this, spec_SameCosheaf.T]
    simp only [q1, Option.bind_some]
  have p2 : impl_SameCosheaf.F (s, t, ()) = some ((v2, ()), ()) := by
    have : impl_SameCosheaf.F (s, t, ()) = impl_SameCosheaf.T s.1 s.2.1 s.2.2.1 s.2.2.2 t.1 t.2.1 t.2.2.1 t.2.2.2 := impl_SameCosheaf.eq _ _ _ _ _ _ _ _
    rw [this, impl_SameCosheaf.T]
    simp only [q2, Option.bind_some]
  obtain ⟨f1, g1, g1'⟩ := laws_eqCosheaf.same s s c1
  obtain ⟨f2, g2, g2'⟩ := laws_eqCosheaf.same t t c2
  have hf1 : f1 = true := g1'.2 rfl
  have hf2 : f2 = true := g2'.2 rfl
  subst hf1 hf2
  simp [laws_toCosheaf.val s c1, laws_toCosheaf.val t c2, p1, p2, g1, g2]
end Go.Proofs.Ytpibalgbkhpcbaa
