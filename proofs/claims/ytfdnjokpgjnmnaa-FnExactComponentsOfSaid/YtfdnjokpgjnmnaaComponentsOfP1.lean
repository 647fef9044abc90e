/- What the functions answer. -/
import Derived.Test.YtfdnjokpgjnmnaaComponentsOfG2
namespace Go.Proofs.Ytfdnjokpgjnmnaa
open Go Go.Vm
set_option linter.unusedVariables false
set_option linter.unusedSimpArgs false
abbrev A0z := Int × Int × Int
theorem A0w {x : Int} (h1 : -9223372036854775808 ≤ x) (h2 : x ≤ 9223372036854775807) : IntKind.i64.wrap x = x := by
 have e : (2 : Int) ^ (IntKind.i64).bits = 18446744073709551616 := by decide
 have e2 : (2 : Int) ^ ((IntKind.i64).bits - 1) = 9223372036854775808 := by decide
 unfold IntKind.wrap;simp only [e, e2, show IntKind.i64.signed = true from rfl, Bool.true_and, decide_eq_true_eq];split <;> omega
theorem A0q {i : Nat} (h : i < 4611686018427387904) : IntKind.i64.wrap ((i : Int) + 1) = ((i + 1 : Nat) : Int) := by
 rw [A0w (by omega) (by omega)]; omega
theorem idxI {α : Type} {xs : List α} {i : Nat} : (0 ≤ (i : Int) /\ (i : Int) < (xs.length : Int)) ↔ i < xs.length := by omega
theorem ltI {i n : Nat} : (decide ((i : Int) < (n : Int))) = true ↔ i < n := by simp
theorem A0C {α : Type} {xs : List α} {i : Nat} {d : α} (h : i < xs.length) : xs.getD i d = xs[i] := by
 rw [List.getD_eq_getElem?_getD, List.getElem?_eq_getElem h]; rfl
def Goes {R : Type} (A B : Nat -> Option R) : Prop := ∀ r, Ev B r -> Ev A r
theorem Goes.refl {R : Type} (A : Nat -> Option R) : Goes A A := fun _ h => h
theorem Goes.trans {R : Type} {A B C : Nat -> Option R} (h : Goes A B) (k : Goes B C) : Goes A C := fun r hr => h r (k r hr)
theorem Goes.succ {R : Type} {A B : Nat -> Option R} (e : ∀ k, A (k + 1) = B k) : Goes A B := fun _ h => h.succ e
theorem Goes.of_eq {R : Type} {A B : Nat -> Option R} (e : ∀ k, A k = B k) : Goes A B := fun _ h => h.of_eq e
theorem Ev.loop {σ R : Type} (L : Nat -> Nat -> σ -> Option R) (n : Nat) (I : Nat -> σ -> Prop) (Q : R -> Prop)
   (hstep : ∀ i s, i < n -> I i s -> (∃ r, Ev (fun k => L k i s) r /\ Q r) ∨ (∃ s', I (i + 1) s' /\ Goes (fun k => L k i s) (fun k => L k (i + 1) s')))
   (hend : ∀ s, I n s -> ∃ r, Ev (fun k => L k n s) r /\ Q r) : ∀ i s, i ≤ n -> I i s -> ∃ r, Ev (fun k => L k i s) r /\ Q r := by
 have key : ∀ j i s, i + j = n -> I i s -> ∃ r, Ev (fun k => L k i s) r /\ Q r := by
   intro j;induction j with
   | zero => intro i s hi h; obtain rfl : i = n := by omega
             exact hend s h
   | succ j ih =>
     intro i s hi h;rcases hstep i s (by omega) h with h1 | ⟨s', h1, h2⟩
     . exact h1
     . obtain ⟨r, hr, hq⟩ := ih (i + 1) s' (by omega) h1;exact ⟨r, h2 r hr, hq⟩
 exact fun i s hi h => key (n - i) i s (by omega) h
theorem Goes.loop {σ R : Type} (L : Nat -> Nat -> σ -> Option R) (n : Nat) (I : Nat -> σ -> Prop)
   (hstep : ∀ i s, i < n -> I i s -> ∃ s', I (i + 1) s' /\ Goes (fun k => L k i s) (fun k => L k (i + 1) s')) : ∀ i s, i ≤ n -> I i s -> ∃ s', I n s' /\ Goes (fun k => L k i s) (fun k => L k n s') := by
 have key : ∀ j i s, i + j = n -> I i s -> ∃ s', I n s' /\ Goes (fun k => L k i s) (fun k => L k n s') := by
   intro j;induction j with
   | zero => intro i s hi h; obtain rfl : i = n := by omega
             exact ⟨s, h, Goes.refl _⟩
   | succ j ih =>
     intro i s hi h;obtain ⟨s', h1, h2⟩ := hstep i s (by omega) h;obtain ⟨s2, h3, h4⟩ := ih (i + 1) s' (by omega) h1;exact ⟨s2, h3, h2.trans h4⟩
 exact fun i s hi h => key (n - i) i s (by omega) h
theorem Ev.all {A B : Type} {L : Nat -> Nat -> Option ((Bool × A) × B)} {a : A} {b : B} {n : Nat} (p : Nat -> Bool) (hstep : ∀ k i, i < n -> L (k + 1) i = if p i = true then L k (i + 1) else some ((false, a), b)) (hend : ∀ k, L (k + 1) n = some ((true, a), b)) (i : Nat) (hi : i ≤ n) :
   ∃ v, Ev (fun k => L k i) ((v, a), b) /\ (v = true ↔ ∀ j, i ≤ j -> j < n -> p j = true) := by
 have key : ∀ m i, i + m = n -> ∃ v, Ev (fun k => L k i) ((v, a), b) /\ (v = true ↔ ∀ j, i ≤ j -> j < n -> p j = true) := by
   intro m;induction m with
   | zero => intro i hi; obtain rfl : i = n := by omega
             exact ⟨true, (Ev.const _).succ hend, by simp; intro j _ _; omega⟩
   | succ m ih =>
     intro i hi;obtain ⟨v, hv, hv'⟩ := ih (i + 1) (by omega);cases hp : p i with
     | false => exact ⟨false, (Ev.const _).succ fun k => by rw [hstep k i (by omega), hp]; rfl, by simp; exact ⟨i, Nat.le_refl _, by omega, hp⟩⟩
     | true =>
       refine ⟨v, hv.succ fun k => by rw [hstep k i (by omega), hp]; rfl, hv'.trans ⟨fun h j hj hn => ?_, fun h j hj hn => h j (by omega) hn⟩⟩;by_cases hij : j = i
       . rw [hij]; exact hp
       . exact h j (by omega) hn
 exact key (n - i) i (by omega)
theorem A0R {α : Type} {xs ys : List α} (hl : xs.length = ys.length) (q : α -> α -> Bool) (hq : ∀ x y, q x y = true ↔ x = y) (d : α) : (∀ j, 0 ≤ j -> j < xs.length -> q (xs.getD j d) (ys.getD j d) = true) ↔ xs = ys := by
 constructor
 . intro h;refine List.ext_getElem hl fun i h1 h2 => ?_;have := (hq _ _).1 (h i (Nat.zero_le _) h1)
   rwa [A0C h1, A0C h2] at this
 . rintro rfl j _ _;exact (hq _ _).2 rfl
theorem Goes.fill {α R : Type} {L : Nat -> Nat -> List α -> Option R} (xs : List α) (d : α) (hstep : ∀ k i ys, i < xs.length -> ys.length = xs.length -> L (k + 1) i ys = L k (i + 1) (ys.set i (xs.getD i d))) (ys : List α) (hy : ys.length = xs.length) :
   Goes (fun k => L k 0 ys) (fun k => L k xs.length xs) := by
 obtain ⟨s, ⟨hs1, hs2⟩, hs3⟩ := Goes.loop L xs.length (fun i s => s.length = xs.length /\ s.take i = xs.take i) (fun i s hi ⟨h1, h2⟩ => ⟨s.set i (xs.getD i d), ⟨by simp [h1], by
   rw [List.take_add_one, List.take_add_one, List.take_set_of_le (Nat.le_refl _), h2];simp [hi, h1, A0C hi]⟩, Goes.succ fun k => hstep k i s hi h1⟩) 0 ys (Nat.zero_le _) ⟨hy, by simp⟩
 have : s = xs := by
   rw [List.take_of_length_le (by omega), List.take_of_length_le (Nat.le_refl _)] at hs2;exact hs2
 rw [this] at hs3;exact hs3
theorem A0S {α : Type} (b : Bool) (x y : α) : (if (!b) = true then x else y) = if b = true then y else x := by cases b <;> rfl
theorem Ev.allP {A B : Type} {L : Nat -> Nat -> Option ((Bool × A) × B)} {a : A} {b : B} {n : Nat} (P : Nat -> Prop) (e : Bool) (hstep : ∀ i, i < n -> (P i /\ ∀ k, L (k + 1) i = L k (i + 1)) ∨ (¬ P i /\ ∀ k, L (k + 1) i = some ((false, a), b))) (hend : Ev (fun k => L k n) ((e, a), b)) (i : Nat) (hi : i ≤ n) :
   ∃ v, Ev (fun k => L k i) ((v, a), b) /\ (v = true ↔ e = true /\ ∀ j, i ≤ j -> j < n -> P j) := by
 have key : ∀ m i, i + m = n -> ∃ v, Ev (fun k => L k i) ((v, a), b) /\ (v = true ↔ e = true /\ ∀ j, i ≤ j -> j < n -> P j) := by
   intro m;induction m with
   | zero => intro i hi; obtain rfl : i = n := by omega
             exact ⟨e, hend, ⟨fun h => ⟨h, fun j h1 h2 => by omega⟩, fun h => h.1⟩⟩
   | succ m ih =>
     intro i hi;obtain ⟨v, hv, hv'⟩ := ih (i + 1) (by omega);rcases hstep i (by omega) with ⟨hp, h⟩ | ⟨hp, h⟩
     . refine ⟨v, hv.succ h, hv'.trans ⟨fun ⟨h1, h2⟩ => ⟨h1, fun j hj hn => ?_⟩, fun ⟨h1, h2⟩ => ⟨h1, fun j hj hn => h2 j (by omega) hn⟩⟩⟩;by_cases hij : j = i
       . rw [hij]; exact hp
       . exact h2 j (by omega) hn
     . exact ⟨false, (Ev.const _).succ h, ⟨fun h => (by cases h), fun ⟨_, h2⟩ => absurd (h2 i (Nat.le_refl _) (by omega)) hp⟩⟩
 exact key (n - i) i (by omega)
theorem wrapP {i : Nat} (h : 0 < i) (h2 : i < 4611686018427387904) : IntKind.i64.wrap ((i : Int) - 1) = ((i - 1 : Nat) : Int) := by
 rw [A0w (by omega) (by omega)]; omega
theorem Goes.foldl {α σ R : Type} {L : Nat -> Nat -> σ -> Option R} (xs : List α) (d : α) (f : σ -> α -> σ) (hstep : ∀ k i s, i < xs.length -> L (k + 1) i s = L k (i + 1) (f s (xs.getD i d))) (s : σ) : Goes (fun k => L k 0 s) (fun k => L k xs.length (xs.foldl f s)) := by
 have key : ∀ m i s, i + m = xs.length -> Goes (fun k => L k i s) (fun k => L k xs.length ((xs.drop i).foldl f s)) := by
   intro m;induction m with
   | zero => intro i s hi; obtain rfl : i = xs.length := by omega
             rw [List.drop_length]; exact Goes.refl _
   | succ m ih =>
     intro i s hi;have h : i < xs.length := by omega
     refine (Goes.succ fun k => hstep k i s h).trans ?_;rw [List.drop_eq_getElem_cons h, List.foldl_cons, <- A0C (d := d) h];exact ih (i + 1) _ (by omega)
 have := key xs.length 0 s (by omega);simpa using this
theorem A0P (x y : A0z) : eqT TEdge x y = true ↔ x = y := by
 obtain ⟨a, b, c⟩ := x;obtain ⟨a', b', c'⟩ := y;simp [eqT]
theorem Ac2.val (xs : List A0z) (left : Int) (h0 : 0 ≤ left) (h1 : left ≤ 1048576) (hx : xs.length ≤ maxLen) :
   Ac2.F (xs, left, ()) = some ((if left < xs.length then -1 else left - xs.length, ()), ()) := by
 have : xs.length ≤ 9223372036854775807 := hx;rw [Ac2.eq, Ac2.T, A0w (by omega) (by omega)];by_cases h : left < xs.length
 . rw [if_pos (by simp; omega), if_pos h]
 . rw [if_neg (by simp; omega), if_neg h]
theorem Ac3.val (n : Int) (xs : List A0z) (left : Int) (h0 : 0 ≤ left) (h1 : left ≤ 1048576) (hx : xs.length ≤ maxLen) :
   Ac3.F ((n, xs), left, ()) = some ((if left < xs.length then -1 else left - xs.length, ()), ()) := by
 rw [Ac3.eq, Ac3.T, Ac2.val xs left h0 h1 hx];simp only [Option.bind_some];by_cases h : left < xs.length
 . rw [if_pos h]; rfl
 . rw [if_neg h, if_neg (by simp; omega)]
theorem Ac7.val (x : A0z) : Ac7.F (x, ()) = some ((x, ()), ()) := by
 obtain ⟨a, b, c⟩ := x;exact Ac7.eq a b c
theorem Aa9.val (xs : List A0z) (h : xs.length ≤ 1099511627776) : Aa9.F (xs, ()) = some ((xs, ()), ()) := by
 refine Aa9.of xs ?_;have := Goes.fill (L := fun k i ys => Aa9.l3 k xs (i : Int) ys) xs (0, 0, 0) (fun k i ys hi hy => by
   rw [Aa9.l3_eq, if_pos (ltI.2 hi), if_pos (idxI.2 hi), Ac7.val, Option.bind_some, if_pos (by omega), A0q (by omega)];simp only [Int.toNat_natCast]) (List.replicate xs.length (0, 0, 0)) (by simp)
 refine Ev.of_eq (this _ ((Ev.const _).succ fun k => ?_)) fun k => ?_
 . rw [Aa9.l3_eq, if_neg (by simp)]
 . rw [Aa9.T, if_pos (by simp only [bigN]; omega)]; rfl
theorem Ab0.val (n : Int) (xs : List A0z) (h : xs.length ≤ 1099511627776) : Ab0.F ((n, xs), ()) = some (((n, xs), ()), ()) := by
 rw [Ab0.eq, Ab0.T, Aa9.val xs h]; rfl
theorem Ab9.val (x y : A0z) : Ab9.F (x, y, ()) = some ((eqT TEdge x y, ()), ()) := by
 obtain ⟨a, b, c⟩ := x;obtain ⟨a', b', c'⟩ := y;rw [Ab9.eq, Ab9.T];by_cases h1 : a = a' <;> by_cases h2 : b = b' <;> by_cases h3 : c = c' <;> simp [eqT, h1, h2, h3]
theorem Aa3.val (xs ys : List A0z) (hn : xs.length < 4611686018427387904) : ∃ b, Aa3.F (xs, ys, ()) = some ((b, ()), ()) /\ (b = true ↔ xs = ys) := by
 by_cases hl : xs.length = ys.length
 . obtain ⟨b, hb, hb'⟩ := Ev.all (L := fun k i => Aa3.l4 k xs ys (i : Int)) (a := ()) (b := ()) (n := xs.length) (fun i => eqT TEdge (xs.getD i (0, 0, 0)) (ys.getD i (0, 0, 0))) (fun k i hi => by
     rw [Aa3.l4_eq, if_pos (ltI.2 hi), if_pos (idxI.2 hi), if_pos (by omega), Ab9.val, Option.bind_some, A0q (by omega)];simp only [Int.toNat_natCast];exact A0S _ _ _) (fun k => by rw [Aa3.l4_eq, if_neg (by simp)]) 0 (Nat.zero_le _)
   refine ⟨b, Aa3.of _ _ (hb.of_eq fun k => ?_), by rw [hb', A0R hl _ A0P]⟩;rw [Aa3.T, if_neg (by simp [hl])];rfl
 . refine ⟨false, Aa3.of _ _ ((Ev.const _).of_eq fun k => ?_), by simp; intro e; exact hl (by rw [e])⟩;rw [Aa3.T, if_pos (by simp; omega)]
theorem Ac0.val (n m : Int) (xs ys : List A0z) (hn : xs.length < 4611686018427387904) : ∃ b, Ac0.F ((n, xs), (m, ys), ()) = some ((b, ()), ()) /\ (b = true ↔ n = m /\ xs = ys) := by
 rw [Ac0.eq, Ac0.T];by_cases h : n = m
 . obtain ⟨b, hb, hb'⟩ := Aa3.val xs ys hn;exact ⟨b, by rw [if_neg (by simp [h]), hb]; cases b <;> rfl, by simp [h, hb']⟩
 . exact ⟨false, by rw [if_pos (by simp [h])], by simp [h]⟩
theorem Aa4.val (n lo hi : Int) : Aa4.F (n, lo, hi, ()) = some ((decide (lo ≤ n /\ n ≤ hi), ()), ()) := by
 rw [Aa4.eq, Aa4.T];by_cases h : lo ≤ n
 . rw [if_pos (by simp [h])]; simp [h]
 . rw [if_neg (by simp [h])]; simp [h]
theorem Ab3.val (n lo hi : Int) : Ab3.F (n, lo, hi, ()) = some ((decide (lo ≤ n /\ n ≤ hi), ()), ()) := by
 rw [Ab3.eq, Ab3.T];by_cases h : lo ≤ n
 . rw [if_pos (by simp [h])]; simp [h]
 . rw [if_neg (by simp [h])]; simp [h]
def cmpI (x y : Int) : Int := if x < y then -1 else if x > y then 1 else 0
theorem Ab1.val (x y : Int) : Ab1.F (x, y, ()) = some ((cmpI x y, ()), ()) := by
 rw [Ab1.eq, Ab1.T, Ab6.eq, Ab6.T, Ab6.eq, Ab6.T];simp only [Option.bind_some, bne_self_eq_false, Bool.false_eq_true, if_false, decide_eq_true_eq, cmpI]
 repeat' split
 all_goals rfl
theorem Aa6.val2 (x y : Int) : Aa6.F ([x, y], ()) = some ((if x ≠ 0 then x else y, ()), ()) := by
 refine Aa6.of _ ⟨3, fun k hk => ?_⟩;obtain ⟨k, rfl⟩ : ∃ j, k = j + 1 + 1 + 1 := ⟨k - 3, by omega⟩;show Aa6.T (k + 1 + 1 + 1) [x, y] = _;rw [Aa6.T, Aa6.l3_eq];by_cases hx : x = 0
 . subst hx;simp only [List.length_cons, List.length_nil];rw [if_pos (by simp), if_pos (by simp), if_neg (by simp), Aa6.l3_eq];simp only [List.length_cons, List.length_nil];rw [A0w (by omega) (by omega)];rw [if_pos (by simp), if_pos (by simp)];by_cases hy : y = 0
   . subst hy;rw [if_neg (by simp), Aa6.l3_eq, A0w (by omega) (by omega), if_neg (by simp)]; simp
   . rw [if_pos (by simp [hy])]; simp
 . simp only [List.length_cons, List.length_nil];rw [if_pos (by simp), if_pos (by simp), if_pos (by simp [hx])];simp [hx]
def A0F (n : Int) (xs : List A0z) (j : Nat) : Prop :=
 0 ≤ (xs.getD j (0, 0, 0)).1 /\ (xs.getD j (0, 0, 0)).1 < (xs.getD j (0, 0, 0)).2.1 /\ (xs.getD j (0, 0, 0)).2.1 < n /\ 1 ≤ (xs.getD j (0, 0, 0)).2.2 /\ (xs.getD j (0, 0, 0)).2.2 ≤ 9 ∧
   (0 < j -> (xs.getD (j - 1) (0, 0, 0)).1 < (xs.getD j (0, 0, 0)).1 ∨ (xs.getD (j - 1) (0, 0, 0)).1 = (xs.getD j (0, 0, 0)).1 /\ (xs.getD (j - 1) (0, 0, 0)).2.1 < (xs.getD j (0, 0, 0)).2.1)
def A0x (n : Int) (xs : List A0z) : Prop := 1 ≤ n /\ n ≤ 12 /\ xs.length ≤ 24 /\ ∀ j, j < xs.length -> A0F n xs j
theorem Ab7.val (x y : A0z) : ∃ r, Ab7.F (x, y, ()) = some ((r, ()), ()) /\ (r < 0 ↔ x.1 < y.1 ∨ x.1 = y.1 /\ x.2.1 < y.2.1) := by
 obtain ⟨a, b, c⟩ := x;obtain ⟨a', b', c'⟩ := y;refine ⟨if cmpI a a' ≠ 0 then cmpI a a' else cmpI b b', ?_, ?_⟩
 . rw [Ab7.eq, Ab7.T, Ab1.val, Ab1.val];simp only [Option.bind_some];rw [Aa6.val2]; rfl
 . show _ ↔ a < a' ∨ a = a' /\ b < b';simp only [cmpI];by_cases h1 : a < a'
   . simp [h1]
   . by_cases h2 : a > a'
     . have : ¬ a = a' := by omega
       simp [h1, h2, this]
     . have : a = a' := by omega
       subst this;by_cases h3 : b < b'
       . simp [h3]
       . by_cases h4 : b > b' <;> simp [h3, h4]
theorem Aa5.val (n : Int) (xs : List A0z) (hn : xs.length < 4611686018427387904) : ∃ v, Aa5.F ((n, xs), ()) = some ((v, ()), ()) /\ (v = true ↔ A0x n xs) := by
 by_cases h : 1 ≤ n /\ n ≤ 12
 . obtain ⟨v, hv, hv'⟩ := Ev.allP (L := fun k i => Aa5.l4 k n xs (i : Int)) (a := ()) (b := ()) (n := xs.length) (A0F n xs) (decide ((xs.length : Int) ≤ 24)) (fun i hi => by
     obtain ⟨x, hx⟩ : ∃ x, x = xs.getD i (0, 0, 0) := ⟨_, rfl⟩;have E := fun k => Aa5.l4_eq k n xs (i : Int);simp only [if_pos (ltI.2 hi), if_pos (idxI.2 hi), Aa4.val, Option.bind_some, A0q (show i < 4611686018427387904 by omega), Int.toNat_natCast, <- hx, A0w (show -9223372036854775808 ≤ n - 1 by omega) (show n - 1 ≤ 9223372036854775807 by omega)] at E;unfold A0F;rw [<- hx];clear hx;obtain ⟨a, b, c⟩ := x;simp only [];by_cases h1 : 0 ≤ b /\ b ≤ n - 1
     . simp only [if_neg (show ¬ (!decide (0 ≤ b /\ b ≤ n - 1)) = true by simp [h1]), A0w (show -9223372036854775808 ≤ b - 1 by omega) (show b - 1 ≤ 9223372036854775807 by omega)] at E;by_cases h2 : 0 ≤ a /\ a ≤ b - 1
       . simp only [if_neg (show ¬ (!decide (0 ≤ a /\ a ≤ b - 1)) = true by simp [h2])] at E;by_cases h3 : 1 ≤ c /\ c ≤ 9
         . simp only [if_neg (show ¬ (!decide (1 ≤ c /\ c ≤ 9)) = true by simp [h3])] at E;by_cases h4 : 0 < i
           . simp only [if_pos (show decide ((i : Int) > 0) = true by simp; omega), wrapP h4 (show i < 4611686018427387904 by omega), if_pos (show 0 ≤ ((i - 1 : Nat) : Int) /\ ((i - 1 : Nat) : Int) < (xs.length : Int) by omega), Int.toNat_natCast] at E;generalize xs.getD (i - 1) (0, 0, 0) = y at *;obtain ⟨a', b', c'⟩ := y;simp only [];by_cases h5 : a' > a
             . exact .inr ⟨by omega, fun k => by rw [E, if_pos (by simp [h5])]⟩
             . simp only [if_neg (show ¬ decide (a' > a) = true by simp; omega)] at E;by_cases h6 : a' = a
               . subst h6;by_cases h7 : b' ≥ b
                 . exact .inr ⟨by omega, fun k => by rw [E, if_pos (by simp), if_pos (by simp [h7])]⟩
                 . exact .inl ⟨by omega, fun k => by rw [E, if_pos (by simp), if_neg (by simp; omega)]⟩
               . exact .inl ⟨by omega, fun k => by rw [E, if_neg (by simp [h6])]⟩
           . exact .inl ⟨by omega, fun k => by rw [E, if_neg (by simp; omega)]⟩
         . exact .inr ⟨by omega, fun k => by rw [E, if_pos (by simp; omega)]⟩
       . exact .inr ⟨by omega, fun k => by rw [E, if_pos (by simp; omega)]⟩
     . exact .inr ⟨by omega, fun k => by rw [E, if_pos (by simp; omega)]⟩) ((Ev.const _).succ fun k => by rw [Aa5.l4_eq, if_neg (by simp)]) 0 (Nat.zero_le _)
   refine ⟨v, Aa5.of _ _ (hv.of_eq fun k => ?_), hv'.trans ?_⟩
   . rw [Aa5.T, Aa4.val];simp only [Option.bind_some];rw [if_neg (by simp [h])]; rfl
   . unfold A0x;simp only [decide_eq_true_eq];exact ⟨fun ⟨h1, h2⟩ => ⟨h.1, h.2, by omega, fun j hj => h2 j (Nat.zero_le _) hj⟩, fun ⟨_, _, h1, h2⟩ => ⟨by omega, fun j _ hj => h2 j hj⟩⟩
 . refine ⟨false, Aa5.of _ _ ((Ev.const _).of_eq fun k => ?_), by unfold A0x; simp; intro h1 h2; exact absurd ⟨h1, h2⟩ h⟩;rw [Aa5.T, Aa4.val];simp only [Option.bind_some];rw [if_pos (by simp; omega)]
theorem Ab2.val (n : Int) (xs : List A0z) (hn : xs.length < 4611686018427387904) : ∃ v, Ab2.F ((n, xs), ()) = some ((v, ()), ()) /\ (v = true ↔ A0x n xs) := by
 obtain ⟨v, hv, hv'⟩ := Ev.allP (L := fun k i => Ab2.l2 k xs xs.length (i : Int) n xs) (a := ()) (b := ()) (n := xs.length) (A0F n xs) (decide (1 ≤ n /\ n ≤ 12) && decide ((xs.length : Int) ≤ 24)) (fun i hi => by
     obtain ⟨x, hx⟩ : ∃ x, x = xs.getD i (0, 0, 0) := ⟨_, rfl⟩;have E := fun k => Ab2.l2_eq k xs xs.length (i : Int) n xs;simp only [if_pos (ltI.2 hi), if_pos (idxI.2 hi), Ab3.val, Option.bind_some, A0q (show i < 4611686018427387904 by omega), Int.toNat_natCast, <- hx] at E;unfold A0F;rw [<- hx];clear hx;obtain ⟨a, b, c⟩ := x;simp only [];by_cases h1 : a < 0
     . exact .inr ⟨by omega, fun k => by rw [E, if_pos (by simp [h1])]⟩
     simp only [if_neg (show ¬ decide (a < 0) = true by simp; omega)] at E;by_cases h2 : a ≥ b
     . exact .inr ⟨by omega, fun k => by rw [E, if_pos (by simp [h2])]⟩
     simp only [if_neg (show ¬ decide (a ≥ b) = true by simp; omega)] at E;by_cases h3 : b ≥ n
     . exact .inr ⟨by omega, fun k => by rw [E, if_pos (by simp [h3])]⟩
     simp only [if_neg (show ¬ decide (b ≥ n) = true by simp; omega)] at E;by_cases h4 : 1 ≤ c /\ c ≤ 9
     . simp only [if_neg (show ¬ (!decide (1 ≤ c /\ c ≤ 9)) = true by simp [h4])] at E;by_cases h5 : 0 < i
       . obtain ⟨r, hr, hr'⟩ := Ab7.val (xs.getD (i - 1) (0, 0, 0)) (a, b, c);simp only [if_pos (show decide ((i : Int) > 0) = true by simp; omega), wrapP h5 (show i < 4611686018427387904 by omega), if_pos (show 0 ≤ ((i - 1 : Nat) : Int) /\ ((i - 1 : Nat) : Int) < (xs.length : Int) by omega), Int.toNat_natCast, hr, Option.bind_some] at E;by_cases h6 : r < 0
         . exact .inl ⟨⟨by omega, by omega, by omega, by omega, by omega, fun _ => hr'.1 h6⟩, fun k => by rw [E, if_neg (by simp; omega)]⟩
         . exact .inr ⟨fun ⟨_, _, _, _, _, h⟩ => h6 (hr'.2 (h h5)), fun k => by rw [E, if_pos (by simp; omega)]⟩
       . exact .inl ⟨by omega, fun k => by rw [E, if_neg (by simp; omega)]⟩
     . exact .inr ⟨by omega, fun k => by rw [E, if_pos (by simp; omega)]⟩) ((Ev.const _).succ fun k => by
       rw [Ab2.l2_eq, if_neg (by simp), Ab3.val];simp only [Option.bind_some];by_cases h : 1 ≤ n /\ n ≤ 12
       . rw [if_pos (by simp [h])]; simp [h]
       . rw [if_neg (by simp; omega)]; simp [h]) 0 (Nat.zero_le _)
 refine ⟨v, Ab2.of _ _ (hv.of_eq fun k => rfl), hv'.trans ?_⟩;unfold A0x;simp only [Bool.and_eq_true, decide_eq_true_eq];exact ⟨fun ⟨⟨h0, h1⟩, h2⟩ => ⟨h0.1, h0.2, by omega, fun j hj => h2 j (Nat.zero_le _) hj⟩, fun ⟨h0, h3, h1, h2⟩ => ⟨⟨⟨h0, h3⟩, by omega⟩, fun j _ hj => h2 j hj⟩⟩
def A0Q (ys : List Int) (k : Int) : Prop := ∀ j, j < ys.length -> ys.getD j 0 = k + j
theorem Aa8.val (xs : List Int) (k0 : Int) (h0 : 0 ≤ k0) (h1 : k0 + xs.length ≤ 4611686018427387904) : ∃ ys, Aa8.F (xs, k0, ()) = some ((k0 + xs.length, ()), (ys, ())) /\ ys.length = xs.length /\ A0Q ys k0 := by
 obtain ⟨⟨v, ys⟩, ⟨hv, hl, hm⟩, hg⟩ := Goes.loop (R := (Int × Unit) × (List Int × Unit)) (fun k i (s : Int × List Int) => Aa8.l2 k s.1 (i : Int) s.2) xs.length (fun i s => s.1 = k0 + i /\ s.2.length = xs.length /\ ∀ j, j < i -> s.2.getD j 0 = k0 + j)
   (fun i s hi ⟨h2, h3, h4⟩ => ⟨(s.1 + 1, s.2.set i s.1), ⟨by simp only []; omega, by simp [h3], fun j hj => by
     simp only [List.getD_eq_getElem?_getD, List.getElem?_set];by_cases hij : i = j
     . subst hij; simp [h3, hi, h2]
     . have := h4 j (by omega);simp only [List.getD_eq_getElem?_getD] at this;simp [hij, this]⟩, Goes.succ fun k => by
     rw [Aa8.l2_eq, if_pos (by simp; omega), if_pos (by omega), A0w (by omega) (by omega), A0q (by omega)];simp only [Int.toNat_natCast]⟩) 0 (k0, xs) (Nat.zero_le _) ⟨by simp, rfl, fun j hj => by omega⟩
 simp only [] at hv hl hm;refine ⟨ys, Aa8.of _ _ ((hg _ ((Ev.const _).succ fun k => ?_)).of_eq fun k => rfl), hl, fun j hj => hm j (by omega)⟩;rw [Aa8.l2_eq, if_neg (by simp; omega), hv]
theorem Aa7.val (ys : List Int) (k0 : Int) (h0 : 0 ≤ k0) (h1 : k0 + ys.length ≤ 4611686018427387904) (hm : A0Q ys k0) : Aa7.F (ys, k0, ()) = some ((k0 + ys.length, ()), ()) := by
 obtain ⟨v, hv, hg⟩ := Goes.loop (R := (Int × Unit) × Unit) (fun k i (s : Int) => Aa7.l2 k ys s (i : Int)) ys.length (fun i s => s = k0 + i)
   (fun i s hi h2 => ⟨s + 1, by omega, Goes.succ fun k => by
     rw [Aa7.l2_eq, if_pos (ltI.2 hi), if_pos (idxI.2 hi), if_neg (by simp only [Int.toNat_natCast]; rw [hm i hi, h2]; simp), A0w (by omega) (by omega), A0q (by omega)]⟩) 0 k0 (Nat.zero_le _) (by simp)
 refine Aa7.of _ _ ((hg _ ((Ev.const _).succ fun k => ?_)).of_eq fun k => rfl);rw [Aa7.l2_eq, if_neg (by simp), hv]
theorem A0J (xs : List Int) (h1 : xs.length ≤ 4611686018427387903) : ∃ ys v, Aa8.F (xs, 1, ()) = some ((v, ()), (ys, ())) /\ Aa7.F (ys, 1, ()) = some ((v, ()), ()) /\ 0 ≤ v := by
 obtain ⟨ys, h2, h3, h4⟩ := Aa8.val xs 1 (by omega) (by omega);exact ⟨ys, _, h2, by rw [Aa7.val ys 1 (by omega) (by omega) h4, h3], by omega⟩
theorem Aa0.val (xs ys : List Int) (hn : xs.length < 4611686018427387904) : ∃ b, Aa0.F (xs, ys, ()) = some ((b, ()), ()) /\ (b = true ↔ xs = ys) := by
 by_cases hl : xs.length = ys.length
 . obtain ⟨b, hb, hb'⟩ := Ev.all (L := fun k i => Aa0.l4 k xs ys (i : Int)) (a := ()) (b := ()) (n := xs.length) (fun i => xs.getD i 0 == ys.getD i 0) (fun k i hi => by
     rw [Aa0.l4_eq, if_pos (ltI.2 hi), if_pos (idxI.2 hi), if_pos (by omega), A0q (by omega)];simp only [Int.toNat_natCast];exact A0S _ _ _) (fun k => by rw [Aa0.l4_eq, if_neg (by simp)]) 0 (Nat.zero_le _)
   refine ⟨b, Aa0.of _ _ (hb.of_eq fun k => ?_), by rw [hb', A0R hl (fun x y => x == y) (by simp)]⟩;rw [Aa0.T, if_neg (by simp [hl])];rfl
 . refine ⟨false, Aa0.of _ _ ((Ev.const _).of_eq fun k => ?_), by simp; intro e; exact hl (by rw [e])⟩;rw [Aa0.T, if_pos (by simp; omega)]
theorem Aa0.refl (xs : List Int) (hn : xs.length < 4611686018427387904) : Aa0.F (xs, xs, ()) = some ((true, ()), ()) := by
 obtain ⟨b, hb, hb'⟩ := Aa0.val xs xs hn;rw [hb, hb'.2 rfl]
theorem Ab4.val (xs : List A0z) (k0 : Int) (h0 : 0 ≤ k0) (h1 : k0 + 3 * xs.length ≤ 1099511627776) : ∃ ys, Ab4.F (xs, k0, ()) = some ((k0 + 3 * xs.length, ()), (ys, ())) := by
 obtain ⟨⟨v, ys⟩, ⟨hv, hl⟩, hg⟩ := Goes.loop (R := (Int × Unit) × (List A0z × Unit)) (fun k i (s : Int × List A0z) => Ab4.l2 k s.1 (i : Int) s.2) xs.length (fun i s => s.1 = k0 + 3 * i /\ s.2.length = xs.length)
   (fun i s hi ⟨h2, h3⟩ => by
     have E := fun k => Ab4.l2_eq k s.1 (i : Int) s.2;simp only [if_pos (show decide ((i : Int) < (s.2.length : Int)) = true by simp; omega), if_pos (show 0 ≤ (i : Int) /\ (i : Int) < (s.2.length : Int) by omega), List.length_set,
       A0w (show -9223372036854775808 ≤ s.1 + 1 by omega) (show s.1 + 1 ≤ 9223372036854775807 by omega), A0w (show -9223372036854775808 ≤ s.1 + 1 + 1 by omega) (show s.1 + 1 + 1 ≤ 9223372036854775807 by omega), A0w (show -9223372036854775808 ≤ s.1 + 1 + 1 + 1 by omega) (show s.1 + 1 + 1 + 1 ≤ 9223372036854775807 by omega), A0q (show i < 4611686018427387904 by omega)] at E
     exact ⟨(s.1 + 1 + 1 + 1, _), ⟨by simp only []; omega, by simp [h3]⟩, Goes.succ fun k => E k⟩) 0 (k0, xs) (Nat.zero_le _) ⟨by simp, rfl⟩
 simp only [] at hv hl;refine ⟨ys, Ab4.of _ _ ((hg _ ((Ev.const _).succ fun k => ?_)).of_eq fun k => rfl)⟩;rw [Ab4.l2_eq, if_neg (by simp; omega), hv]
theorem Ac1.val (n : Int) (xs : List A0z) (h1 : 1 + 3 * xs.length ≤ 1099511627776) : ∃ v m, Ac1.F ((n, xs), 1, ()) = some ((v, ()), m) /\ 0 ≤ v := by
 obtain ⟨ys, hy⟩ := Ab4.val xs 1 (by omega) (by omega);exact ⟨1 + 3 * (xs.length : Int), _, by rw [Ac1.eq, Ac1.T, hy]; rfl, by omega⟩
theorem A0M {R : Type} (a : Option R) : both a a = a := by unfold both; rw [if_pos rfl]
def lowC (x : List Int) (e : A0z) : Int := if x.getD e.2.1.toNat 0 < x.getD e.1.toNat 0 then x.getD e.2.1.toNat 0 else x.getD e.1.toNat 0
def A0D (x : List Int) (e : A0z) : List Int := (x.set e.1.toNat (lowC x e)).set e.2.1.toNat (lowC x e)
theorem A0O (x : List Int) (e : A0z) : (A0D x e).length = x.length := by simp [A0D]
def A0y (n : Nat) : List Int := (List.range n).map fun i : Nat => (i : Int)
theorem A0B (n : Nat) : A0y (n + 1) = A0y n ++ [(n : Int)] := by simp [A0y, List.range_succ]
def turnC (xs : List A0z) (x : List Int) : List Int := xs.foldl A0D x
theorem A0H (xs : List A0z) (x : List Int) : (turnC xs x).length = x.length := by
 unfold turnC;induction xs generalizing x with
 | nil => rfl
 | cons e xs ih => rw [List.foldl_cons, ih, A0O]
def A0j (n : Nat) (xs : List A0z) : Nat -> List Int
 | 0 => A0y n
 | t + 1 => turnC xs (A0j n xs t)
theorem A0v (n : Nat) (xs : List A0z) : ∀ t, (A0j n xs t).length = n
 | 0 => by simp [A0j, A0y]
 | t + 1 => by rw [A0j, A0H, A0v n xs t]
theorem Ac5.valC (x : List Int) (e : A0z) : Ac5.F (x.getD e.1.toNat 0, x.getD e.2.1.toNat 0, ()) = some ((lowC x e, ()), ()) := by
 rw [Ac5.eq, Ac5.T, lowC];by_cases h : x.getD e.1.toNat 0 < x.getD e.2.1.toNat 0
 . rw [if_pos (by simpa using h), if_neg (by omega)]
 . rw [if_neg (by simpa using h)];by_cases h2 : x.getD e.2.1.toNat 0 < x.getD e.1.toNat 0
   . rw [if_pos h2]
   . rw [if_neg h2, show x.getD e.2.1.toNat 0 = x.getD e.1.toNat 0 by omega]
theorem A0E {n : Nat} {xs : List A0z} (h : A0x n xs) {i : Nat} (hi : i < xs.length) : (0 ≤ (xs.getD i (0, 0, 0)).1 /\ (xs.getD i (0, 0, 0)).1 < (n : Int)) /\ (0 ≤ (xs.getD i (0, 0, 0)).2.1 /\ (xs.getD i (0, 0, 0)).2.1 < (n : Int)) := by
 obtain ⟨h1, h2, h3, -⟩ := h.2.2.2 i hi;omega
theorem A0G {xs : List A0z} (x : List Int) {i : Nat} (hi : i < xs.length) : (xs.take (i + 1)).foldl A0D x = A0D ((xs.take i).foldl A0D x) (xs.getD i (0, 0, 0)) := by
 rw [List.take_add_one, List.getElem?_eq_getElem hi, Option.toList_some, List.foldl_append, A0C hi]; rfl
theorem A0I (xs : List A0z) (x : List Int) (i : Nat) : ((xs.take i).foldl A0D x).length = x.length := A0H (xs.take i) x
theorem A0L (n : Nat) (xs : List A0z) (h : A0x n xs) : Aa1.F (((n : Int), xs), ()) = some ((A0j n xs n, ()), ()) := by
 have hn : n ≤ 12 := by have := h.2.1; omega
 have hx : xs.length ≤ 24 := h.2.2.1;refine Aa1.of _ _ ?_;obtain ⟨M, hM, hg⟩ := Goes.loop (fun k i (s : List Int) => Aa1.l3 k n xs (i : Int) s) n (fun i s => s = A0y i) (fun i s hi h2 => ⟨_, rfl, Goes.succ fun k => by
   rw [Aa1.l3_eq, if_pos (ltI.2 hi), if_pos (by rw [h2]; simp only [A0y, List.length_map, List.length_range, List.length_cons, List.length_nil, bigA]; omega), A0q (by omega), h2, <- A0B]⟩) 0 [] (Nat.zero_le _) rfl
 obtain ⟨M2, hM2, hg2⟩ := Goes.loop (fun k t (s : List Int) => Aa1.l7 k n xs (t : Int) s) n (fun t s => s = A0j n xs t) (fun t s ht h2 => by
   obtain ⟨M3, hM3, hg3⟩ := Goes.loop (fun k i (y : List Int) => Aa1.l10 k n xs (t : Int) (i : Int) y) xs.length (fun i y => y = (xs.take i).foldl A0D s) (fun i y hi h3 => by
     have hl : y.length = n := by rw [h3, A0I, h2, A0v]
     obtain ⟨⟨a0, a1⟩, b0, b1⟩ := A0E h hi;refine ⟨_, rfl, Goes.succ fun k => ?_⟩;rw [Aa1.l10_eq, if_pos (ltI.2 hi), if_pos (idxI.2 hi)];simp only [Int.toNat_natCast];rw [if_pos (by rw [hl]; exact ⟨a0, a1⟩), if_pos (by rw [hl]; exact ⟨b0, b1⟩), Ac5.valC];simp only [Option.bind_some];rw [if_pos (by rw [hl]; exact ⟨a0, a1⟩), if_pos (by rw [List.length_set, hl]; exact ⟨b0, b1⟩), A0q (by omega), A0G s hi, <- h3];rfl) 0 s (Nat.zero_le _) rfl
   rw [List.take_of_length_le (Nat.le_refl _)] at hM3;refine ⟨M3, by rw [hM3, h2]; rfl, Goes.trans (Goes.succ fun k => ?_) (Goes.trans hg3 (Goes.succ fun k => ?_))⟩
   . rw [Aa1.l7_eq, if_pos (ltI.2 ht)]; rfl
   . rw [Aa1.l10_eq, if_neg (by simp), A0q (by omega)]) 0 (A0y n) (Nat.zero_le _) rfl
 subst hM;refine Ev.of_eq (hg _ (Ev.succ (M := fun k => Aa1.l3 k n xs (n : Int) (A0y n)) (hg2 _ ((Ev.const _).succ fun k => ?_)) fun k => ?_)) fun k => rfl
 . rw [Aa1.l7_eq, if_neg (by simp), hM2]
 . rw [Aa1.l3_eq, if_neg (by simp)]; rfl
theorem A0A (n : Nat) (hn : n ≤ 12) : Ab8.F ((n : Int), ()) = some ((A0y n, ()), ()) := by
 refine Ab8.of _ ?_;obtain ⟨M, hM, hg⟩ := Goes.loop (fun k i (s : List Int) => Ab8.l3 k n (i : Int) s) n (fun i s => s = A0y i) (fun i s hi h2 => ⟨_, rfl, Goes.succ fun k => by
   rw [Ab8.l3_eq, if_pos (ltI.2 hi), if_pos (by rw [h2]; simp only [A0y, List.length_map, List.length_range, List.length_cons, List.length_nil, bigA]; omega), A0q (by omega), h2, <- A0B]⟩) 0 [] (Nat.zero_le _) rfl
 refine Ev.of_eq (hg _ ((Ev.const _).succ fun k => ?_)) fun k => rfl;rw [Ab8.l3_eq, if_neg (by simp), hM]
theorem A0N (k : Nat) (n t : Int) (xs : List A0z) (m i g : Int) (ys : List A0z) (x : List Int) (hi : i < m) (hx : 0 ≤ i /\ i < (xs.length : Int)) (ha : 0 ≤ (xs.getD i.toNat (0, 0, 0)).1 /\ (xs.getD i.toNat (0, 0, 0)).1 < (x.length : Int)) (hb : 0 ≤ (xs.getD i.toNat (0, 0, 0)).2.1 /\ (xs.getD i.toNat (0, 0, 0)).2.1 < (x.length : Int)) :
   Aa2.l5 (k + 1) n t xs m i g ys x = Aa2.l5 k n t xs m (IntKind.i64.wrap (i + 1)) g ys (A0D x (xs.getD i.toNat (0, 0, 0))) := by
 have hb' : ∀ v : Int, 0 ≤ (xs.getD i.toNat (0, 0, 0)).2.1 /\ (xs.getD i.toNat (0, 0, 0)).2.1 < ((x.set (xs.getD i.toNat (0, 0, 0)).1.toNat v).length : Int) := fun v => by rw [List.length_set]; exact hb
 rw [Aa2.l5_eq, if_pos (decide_eq_true hi), if_pos hx, if_pos ha, if_pos hb];simp only [if_pos ha, if_pos hb, if_pos (hb' _), A0M];rfl
theorem A0K (n : Nat) (xs : List A0z) (h : A0x n xs) : Aa2.F (((n : Int), xs), ()) = some ((A0j n xs n, ()), ()) := by
 have hn : n ≤ 12 := by have := h.2.1; omega
 have hx : xs.length ≤ 24 := h.2.2.1;refine Aa2.of _ _ ?_;obtain ⟨M2, hM2, hg2⟩ := Goes.loop (fun k t (s : List Int) => Aa2.l3 k n (t : Int) n xs s) n (fun t s => s = A0j n xs t) (fun t s ht h2 => by
   obtain ⟨M3, hM3, hg3⟩ := Goes.loop (fun k i (y : List Int) => Aa2.l5 k n (t : Int) xs (xs.length : Int) (i : Int) n xs y) xs.length (fun i y => y = (xs.take i).foldl A0D s) (fun i y hi h3 => by
     have hl : y.length = n := by rw [h3, A0I, h2, A0v]
     obtain ⟨⟨a0, a1⟩, b0, b1⟩ := A0E h hi;refine ⟨_, rfl, Goes.succ fun k => ?_⟩;rw [A0N k n t xs _ (i : Int) n xs y (by omega) (idxI.2 hi) (by rw [hl, Int.toNat_natCast]; exact ⟨a0, a1⟩) (by rw [hl, Int.toNat_natCast]; exact ⟨b0, b1⟩), A0q (by omega), A0G s hi, <- h3, Int.toNat_natCast]) 0 s (Nat.zero_le _) rfl
   rw [List.take_of_length_le (Nat.le_refl _)] at hM3;refine ⟨M3, by rw [hM3, h2]; rfl, Goes.trans (Goes.succ fun k => ?_) (Goes.trans hg3 (Goes.succ fun k => ?_))⟩
   . rw [Aa2.l3_eq, if_pos (ltI.2 ht)]; rfl
   . rw [Aa2.l5_eq, if_neg (by simp), A0q (by omega)]) 0 (A0y n) (Nat.zero_le _) rfl
 refine Ev.of_eq (hg2 _ ((Ev.const _).succ fun k => ?_)) fun k => ?_
 . rw [Aa2.l3_eq, if_neg (by simp), hM2]
 . rw [Aa2.T, A0A n hn]; rfl
theorem A0k (n : Int) (xs : List A0z) (hn : xs.length < 4611686018427387904) : ∃ M c, Ac4.F ((n, xs), ()) = some ((M, (c, ())), ()) /\ Ab5.F ((n, xs), ()) = some ((M, (c, ())), ()) /\ M.length ≤ 12 := by
 obtain ⟨v1, h1, h1'⟩ := Aa5.val n xs hn;obtain ⟨v2, h2, h2'⟩ := Ab2.val n xs hn;obtain rfl : v2 = v1 := Bool.eq_iff_iff.2 (h2'.trans h1'.symm);cases v2 with
 | false =>
   refine ⟨[], 1, ?_, ?_, by simp⟩
   . rw [Ac4.eq, Ac4.T, h1]; rfl
   . rw [Ab5.eq, Ab5.T, h2]; rfl
 | true =>
   have hg := h1'.1 rfl;obtain ⟨m, rfl⟩ := Int.eq_ofNat_of_zero_le (show 0 ≤ n by have := hg.1; omega);have hm : m ≤ 12 := by have := hg.2.1; omega
   refine ⟨A0j m xs m, 0, ?_, ?_, by rw [A0v]; exact hm⟩
   . rw [Ac4.eq, Ac4.T, h1];simp only [Option.bind_some];rw [A0L m xs hg]; rfl
   . rw [Ab5.eq, Ab5.T, h2];simp only [Option.bind_some];rw [A0K m xs hg]; rfl
theorem Ac6.pure (d : Ins Ac6.sig.ps) (h : wfIns Ac6.sig.ps d) : ∃ mu, Ac6.F d = some ((true, ()), mu) := by
 obtain ⟨⟨n, xs⟩, ⟨⟩⟩ := d;obtain ⟨⟨_, hx, _⟩, _⟩ := h;refine ⟨(), ?_⟩;rw [Ac6.eq, Ac6.T, Ac3.val n xs 1048576 (by omega) (by omega) hx];simp only [Option.bind_some];by_cases h1 : (1048576 : Int) < xs.length
 . rw [if_pos h1, if_pos (by simp)]
 rw [if_neg h1, if_neg (by simp; omega)];obtain ⟨M, c, hb, hc, hM⟩ := A0k n xs (by omega);obtain ⟨e1, he1, he1'⟩ := Ac0.val n n xs xs (by omega);have r1 : e1 = true := he1'.2 ⟨rfl, rfl⟩;have he2 := Aa0.refl M (by omega);obtain ⟨v, mm, hv, hv0⟩ := Ac1.val n xs (by omega);obtain ⟨ys, u, hu, hh, hu0⟩ := A0J M (by omega);have n1 : ¬ v < 0 := by omega
 have n2 : ¬ u < 0 := by omega
 simp [Ab0.val n xs (by omega), hb, hc, he1, r1, he2, hv, hu, hh, n1, n2]
end Go.Proofs.Ytfdnjokpgjnmnaa
