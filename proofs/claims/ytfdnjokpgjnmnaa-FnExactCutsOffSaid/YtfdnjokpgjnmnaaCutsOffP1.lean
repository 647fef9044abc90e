/- What the functions answer. -/
import Derived.Test.YtfdnjokpgjnmnaaCutsOffG1
namespace Go.Proofs.Ytfdnjokpgjnmnaa
open Go Go.Vm
set_option linter.unusedVariables false
set_option linter.unusedSimpArgs false
theorem A0Q {x : Int} (h1 : -9223372036854775808 ≤ x) (h2 : x ≤ 9223372036854775807) : IntKind.i64.wrap x = x := by
 have e : (2 : Int) ^ (IntKind.i64).bits = 18446744073709551616 := by decide
 have e2 : (2 : Int) ^ ((IntKind.i64).bits - 1) = 9223372036854775808 := by decide
 unfold IntKind.wrap;simp only [e, e2, show IntKind.i64.signed = true from rfl, Bool.true_and, decide_eq_true_eq];split <;> omega
theorem A0j {i : Nat} (h : i < 4611686018427387904) : IntKind.i64.wrap ((i : Int) + 1) = ((i + 1 : Nat) : Int) := by
 rw [A0Q (by omega) (by omega)]; omega
theorem idxI {α : Type} {xs : List α} {i : Nat} : (0 ≤ (i : Int) /\ (i : Int) < (xs.length : Int)) ↔ i < xs.length := by omega
theorem ltI {i n : Nat} : (decide ((i : Int) < (n : Int))) = true ↔ i < n := by simp
theorem A0z {α : Type} {xs : List α} {i : Nat} {d : α} (h : i < xs.length) : xs.getD i d = xs[i] := by
 rw [List.getD_eq_getElem?_getD, List.getElem?_eq_getElem h]; rfl
def Goes {R : Type} (A B : Nat -> Option R) : Prop := ∀ r, Ev B r -> Ev A r
theorem Goes.refl {R : Type} (A : Nat -> Option R) : Goes A A := fun _ h => h
theorem Goes.trans {R : Type} {A B C : Nat -> Option R} (h : Goes A B) (k : Goes B C) : Goes A C := fun r hr => h r (k r hr)
theorem Goes.succ {R : Type} {A B : Nat -> Option R} (e : ∀ k, A (k + 1) = B k) : Goes A B := fun _ h => h.succ e
theorem Goes.of_eq {R : Type} {A B : Nat -> Option R} (e : ∀ k, A k = B k) : Goes A B := fun _ h => h.of_eq e
theorem Ev.loop {σ R : Type} (L : Nat -> Nat -> σ -> Option R) (n : Nat) (I : Nat -> σ -> Prop) (Q : R -> Prop)
   (hstep : ∀ i s, i < n -> I i s -> (∃ r, Ev (fun k => L k i s) r /\ Q r) ∨ (∃ s', I (i + 1) s' /\ Goes (fun k => L k i s) (fun k => L k (i + 1) s')))
   (hend : ∀ s, I n s -> ∃ r, Ev (fun k => L k n s) r /\ Q r) : ∀ i s, i ≤ n -> I i s -> ∃ r, Ev (fun k => L k i s) r /\ Q r := by
 have key : ∀ j i s, i + j = n -> I i s -> ∃ r, Ev (fun k => L k i s) r /\ Q r := by
   intro j;induction j with
   | zero => intro i s hi h; obtain rfl : i = n := by omega
             exact hend s h
   | succ j ih =>
     intro i s hi h;rcases hstep i s (by omega) h with h1 | ⟨s', h1, h2⟩
     . exact h1
     . obtain ⟨r, hr, hq⟩ := ih (i + 1) s' (by omega) h1;exact ⟨r, h2 r hr, hq⟩
 exact fun i s hi h => key (n - i) i s (by omega) h
theorem Goes.loop {σ R : Type} (L : Nat -> Nat -> σ -> Option R) (n : Nat) (I : Nat -> σ -> Prop)
   (hstep : ∀ i s, i < n -> I i s -> ∃ s', I (i + 1) s' /\ Goes (fun k => L k i s) (fun k => L k (i + 1) s')) : ∀ i s, i ≤ n -> I i s -> ∃ s', I n s' /\ Goes (fun k => L k i s) (fun k => L k n s') := by
 have key : ∀ j i s, i + j = n -> I i s -> ∃ s', I n s' /\ Goes (fun k => L k i s) (fun k => L k n s') := by
   intro j;induction j with
   | zero => intro i s hi h; obtain rfl : i = n := by omega
             exact ⟨s, h, Goes.refl _⟩
   | succ j ih =>
     intro i s hi h;obtain ⟨s', h1, h2⟩ := hstep i s (by omega) h;obtain ⟨s2, h3, h4⟩ := ih (i + 1) s' (by omega) h1;exact ⟨s2, h3, h2.trans h4⟩
 exact fun i s hi h => key (n - i) i s (by omega) h
theorem Ev.all {A B : Type} {L : Nat -> Nat -> Option ((Bool × A) × B)} {a : A} {b : B} {n : Nat} (p : Nat -> Bool) (hstep : ∀ k i, i < n -> L (k + 1) i = if p i = true then L k (i + 1) else some ((false, a), b)) (hend : ∀ k, L (k + 1) n = some ((true, a), b)) (i : Nat) (hi : i ≤ n) :
   ∃ v, Ev (fun k => L k i) ((v, a), b) /\ (v = true ↔ ∀ j, i ≤ j -> j < n -> p j = true) := by
 have key : ∀ m i, i + m = n -> ∃ v, Ev (fun k => L k i) ((v, a), b) /\ (v = true ↔ ∀ j, i ≤ j -> j < n -> p j = true) := by
   intro m;induction m with
   | zero => intro i hi; obtain rfl : i = n := by omega
             exact ⟨true, (Ev.const _).succ hend, by simp; intro j _ _; omega⟩
   | succ m ih =>
     intro i hi;obtain ⟨v, hv, hv'⟩ := ih (i + 1) (by omega);cases hp : p i with
     | false => exact ⟨false, (Ev.const _).succ fun k => by rw [hstep k i (by omega), hp]; rfl, by simp; exact ⟨i, Nat.le_refl _, by omega, hp⟩⟩
     | true =>
       refine ⟨v, hv.succ fun k => by rw [hstep k i (by omega), hp]; rfl, hv'.trans ⟨fun h j hj hn => ?_, fun h j hj hn => h j (by omega) hn⟩⟩;by_cases hij : j = i
       . rw [hij]; exact hp
       . exact h j (by omega) hn
 exact key (n - i) i (by omega)
theorem all_eq {α : Type} {xs ys : List α} (hl : xs.length = ys.length) (q : α -> α -> Bool) (hq : ∀ x y, q x y = true ↔ x = y) (d : α) : (∀ j, 0 ≤ j -> j < xs.length -> q (xs.getD j d) (ys.getD j d) = true) ↔ xs = ys := by
 constructor
 . intro h;refine List.ext_getElem hl fun i h1 h2 => ?_;have := (hq _ _).1 (h i (Nat.zero_le _) h1)
   rwa [A0z h1, A0z h2] at this
 . rintro rfl j _ _;exact (hq _ _).2 rfl
theorem Goes.fill {α R : Type} {L : Nat -> Nat -> List α -> Option R} (xs : List α) (d : α) (hstep : ∀ k i ys, i < xs.length -> ys.length = xs.length -> L (k + 1) i ys = L k (i + 1) (ys.set i (xs.getD i d))) (ys : List α) (hy : ys.length = xs.length) :
   Goes (fun k => L k 0 ys) (fun k => L k xs.length xs) := by
 obtain ⟨s, ⟨hs1, hs2⟩, hs3⟩ := Goes.loop L xs.length (fun i s => s.length = xs.length /\ s.take i = xs.take i) (fun i s hi ⟨h1, h2⟩ => ⟨s.set i (xs.getD i d), ⟨by simp [h1], by
   rw [List.take_add_one, List.take_add_one, List.take_set_of_le (Nat.le_refl _), h2];simp [hi, h1, A0z hi]⟩, Goes.succ fun k => hstep k i s hi h1⟩) 0 ys (Nat.zero_le _) ⟨hy, by simp⟩
 have : s = xs := by
   rw [List.take_of_length_le (by omega), List.take_of_length_le (Nat.le_refl _)] at hs2;exact hs2
 rw [this] at hs3;exact hs3
theorem ite_nb {α : Type} (b : Bool) (x y : α) : (if (!b) = true then x else y) = if b = true then y else x := by cases b <;> rfl
theorem Ev.allP {A B : Type} {L : Nat -> Nat -> Option ((Bool × A) × B)} {a : A} {b : B} {n : Nat} (P : Nat -> Prop) (e : Bool) (hstep : ∀ i, i < n -> (P i /\ ∀ k, L (k + 1) i = L k (i + 1)) ∨ (¬ P i /\ ∀ k, L (k + 1) i = some ((false, a), b))) (hend : Ev (fun k => L k n) ((e, a), b)) (i : Nat) (hi : i ≤ n) :
   ∃ v, Ev (fun k => L k i) ((v, a), b) /\ (v = true ↔ e = true /\ ∀ j, i ≤ j -> j < n -> P j) := by
 have key : ∀ m i, i + m = n -> ∃ v, Ev (fun k => L k i) ((v, a), b) /\ (v = true ↔ e = true /\ ∀ j, i ≤ j -> j < n -> P j) := by
   intro m;induction m with
   | zero => intro i hi; obtain rfl : i = n := by omega
             exact ⟨e, hend, ⟨fun h => ⟨h, fun j h1 h2 => by omega⟩, fun h => h.1⟩⟩
   | succ m ih =>
     intro i hi;obtain ⟨v, hv, hv'⟩ := ih (i + 1) (by omega);rcases hstep i (by omega) with ⟨hp, h⟩ | ⟨hp, h⟩
     . refine ⟨v, hv.succ h, hv'.trans ⟨fun ⟨h1, h2⟩ => ⟨h1, fun j hj hn => ?_⟩, fun ⟨h1, h2⟩ => ⟨h1, fun j hj hn => h2 j (by omega) hn⟩⟩⟩;by_cases hij : j = i
       . rw [hij]; exact hp
       . exact h2 j (by omega) hn
     . exact ⟨false, (Ev.const _).succ h, ⟨fun h => (by cases h), fun ⟨_, h2⟩ => absurd (h2 i (Nat.le_refl _) (by omega)) hp⟩⟩
 exact key (n - i) i (by omega)
theorem A1S {i : Nat} (h : 0 < i) (h2 : i < 4611686018427387904) : IntKind.i64.wrap ((i : Int) - 1) = ((i - 1 : Nat) : Int) := by
 rw [A0Q (by omega) (by omega)]; omega
theorem Goes.foldl {α σ R : Type} {L : Nat -> Nat -> σ -> Option R} (xs : List α) (d : α) (f : σ -> α -> σ) (hstep : ∀ k i s, i < xs.length -> L (k + 1) i s = L k (i + 1) (f s (xs.getD i d))) (s : σ) : Goes (fun k => L k 0 s) (fun k => L k xs.length (xs.foldl f s)) := by
 have key : ∀ m i s, i + m = xs.length -> Goes (fun k => L k i s) (fun k => L k xs.length ((xs.drop i).foldl f s)) := by
   intro m;induction m with
   | zero => intro i s hi; obtain rfl : i = xs.length := by omega
             rw [List.drop_length]; exact Goes.refl _
   | succ m ih =>
     intro i s hi;have h : i < xs.length := by omega
     refine (Goes.succ fun k => hstep k i s h).trans ?_;rw [List.drop_eq_getElem_cons h, List.foldl_cons, <- A0z (d := d) h];exact ih (i + 1) _ (by omega)
 have := key xs.length 0 s (by omega);simpa using this
theorem A0y {α : Type} {xs : List α} {i : Nat} (d : α) (h : i < xs.length) : xs.getD i d ∈ xs := by rw [A0z h]; exact List.getElem_mem h
theorem Ev.allF {A B : Type} {L : Nat -> Nat -> Option ((Bool × A) × B)} {a : A} {b : B} {n : Nat} (P : Nat -> Prop) (e : Bool) (i0 : Nat) (hstep : ∀ i, i0 ≤ i -> i < n -> (P i /\ ∀ k, L (k + 1) i = L k (i + 1)) ∨ (¬ P i /\ ∀ k, L (k + 1) i = some ((false, a), b))) (hend : Ev (fun k => L k n) ((e, a), b)) (i : Nat) (h0 : i0 ≤ i) (hi : i ≤ n) :
   ∃ v, Ev (fun k => L k i) ((v, a), b) /\ (v = true ↔ e = true /\ ∀ j, i ≤ j -> j < n -> P j) := by
 have key : ∀ m i, i0 ≤ i -> i + m = n -> ∃ v, Ev (fun k => L k i) ((v, a), b) /\ (v = true ↔ e = true /\ ∀ j, i ≤ j -> j < n -> P j) := by
   intro m;induction m with
   | zero => intro i h0 hi; obtain rfl : i = n := by omega
             exact ⟨e, hend, ⟨fun h => ⟨h, fun j h1 h2 => by omega⟩, fun h => h.1⟩⟩
   | succ m ih =>
     intro i h0 hi;obtain ⟨v, hv, hv'⟩ := ih (i + 1) (by omega) (by omega);rcases hstep i h0 (by omega) with ⟨hp, h⟩ | ⟨hp, h⟩
     . refine ⟨v, hv.succ h, hv'.trans ⟨fun ⟨h1, h2⟩ => ⟨h1, fun j hj hn => ?_⟩, fun ⟨h1, h2⟩ => ⟨h1, fun j hj hn => h2 j (by omega) hn⟩⟩⟩;by_cases hij : j = i
       . rw [hij]; exact hp
       . exact h2 j (by omega) hn
     . exact ⟨false, (Ev.const _).succ h, ⟨fun h => (by cases h), fun ⟨_, h2⟩ => absurd (h2 i (Nat.le_refl _) (by omega)) hp⟩⟩
 exact key (n - i) i h0 (by omega)
def Sm (xs : List Int) : Prop := xs.length ≤ 1048576
def SmL (xs : List (List Int)) : Prop := xs.length ≤ 1048576 /\ ∀ x ∈ xs, Sm x
theorem sz_loop {α : Type} (L : Nat -> Nat -> Int -> Option ((Int × Unit) × Unit)) (xs : List α) (d : α) (P : α -> Prop)
   (hstep : ∀ i l, i < xs.length -> 0 ≤ l -> l ≤ 1048576 -> (∃ r, 0 ≤ r /\ r ≤ l /\ P (xs.getD i d) /\ ∀ k, L (k + 1) i l = L k (i + 1) r) ∨ ∀ k, L (k + 1) i l = some ((-1, ()), ()))
   (hend : ∀ k l, L (k + 1) xs.length l = some ((l, ()), ())) (l : Int) (h0 : 0 ≤ l) (h1 : l ≤ 1048576) :
   ∃ r, Ev (fun k => L k 0 l) ((r, ()), ()) /\ (r = -1 ∨ 0 ≤ r /\ r ≤ l /\ ∀ x ∈ xs, P x) := by
 obtain ⟨r, hr, q, rfl, hq⟩ := Ev.loop (σ := Int) L xs.length (fun i s => 0 ≤ s /\ s ≤ l /\ ∀ j, j < i -> P (xs.getD j d)) (fun r => ∃ q : Int, r = ((q, ()), ()) /\ (q = -1 ∨ 0 ≤ q /\ q ≤ l /\ ∀ x ∈ xs, P x))
   (fun i s hi ⟨a, b, c⟩ => by
     rcases hstep i s hi a (by omega) with ⟨r, r0, r1, hp, e⟩ | e
     . refine .inr ⟨r, ⟨r0, by omega, fun j hj => ?_⟩, Goes.succ e⟩;by_cases hji : j = i
       . rw [hji]; exact hp
       . exact c j (by omega)
     . exact .inl ⟨_, (Ev.const _).succ e, -1, rfl, .inl rfl⟩)
   (fun s ⟨a, b, c⟩ => ⟨_, (Ev.const _).succ fun k => hend k s, s, rfl, .inr ⟨a, b, fun x hx => by
     obtain ⟨j, hj, rfl⟩ := List.getElem_of_mem hx;rw [<- A0z (d := d) hj]; exact c j hj⟩⟩) 0 l (Nat.zero_le _) ⟨h0, Int.le_refl _, fun j hj => by omega⟩
 exact ⟨q, hr, hq⟩
theorem A0a {α : Type} (L : Nat -> Nat -> Option ((Bool × Unit) × Unit)) (xs ys : List α) (d : α) (hl : xs.length = ys.length)
   (hstep : ∀ i, i < xs.length -> ∃ b : Bool, (b = true ↔ xs.getD i d = ys.getD i d) /\ ∀ k, L (k + 1) i = if (!b) = true then some ((false, ()), ()) else L k (i + 1))
   (hend : ∀ k, L (k + 1) xs.length = some ((true, ()), ())) : ∃ v, Ev (fun k => L k 0) ((v, ()), ()) /\ (v = true ↔ xs = ys) := by
 obtain ⟨v, hv, hv'⟩ := Ev.allP (L := L) (a := ()) (b := ()) (n := xs.length) (fun i => xs.getD i d = ys.getD i d) true (fun i hi => by
   obtain ⟨b, hb, e⟩ := hstep i hi;cases b with
   | true => exact .inl ⟨hb.1 rfl, fun k => by rw [e]; rfl⟩
   | false => exact .inr ⟨fun h => absurd (hb.2 h) (by simp), fun k => by rw [e]; rfl⟩) ((Ev.const _).succ hend) 0 (Nat.zero_le _)
 refine ⟨v, hv, hv'.trans ⟨fun ⟨_, h⟩ => ?_, fun h => ⟨rfl, fun j _ _ => by rw [h]⟩⟩⟩;refine List.ext_getElem hl fun i h1 h2 => ?_;have := h i (Nat.zero_le _) h1
 rwa [A0z h1, A0z h2] at this
theorem idx2 {i n : Nat} (h : i < n) : 0 ≤ (i : Int) /\ (i : Int) < (n : Int) := by omega
theorem Af6.val (xs : List Int) (h : xs.length ≤ 1048576) : Af6.F (xs, ()) = some ((xs, ()), ()) := by
 rw [Af6.eq, Af6.T];have hb : ([] : List Int).length + xs.length ≤ bigA := by simp only [List.length_nil, bigA]; omega
 by_cases h0 : 0 < xs.length
 . rw [if_pos h0, if_pos hb]; rfl
 . have : xs = [] := List.eq_nil_of_length_eq_zero (by omega);subst this;rw [if_neg h0];exact b2y rfl (by rw [if_pos hb]; rfl)
theorem Ab5.val (xs : List (List Int)) (h : SmL xs) : Ab5.F (xs, ()) = some ((xs, ()), ()) := by
 have hn := h.1;refine Ab5.of _ ?_;obtain ⟨s, hs, hg⟩ := Goes.loop (R := ((List (List Int) × Unit) × Unit)) (fun k i (x : List (List Int)) => Ab5.l3 k xs (xs.length : Int) (i : Int) x) xs.length (fun i x => x = xs.take i) (fun i x hi h2 => ⟨_, rfl, Goes.succ fun k => by
   rw [Ab5.l3_eq, if_pos (ltI.2 hi), if_pos (idxI.2 hi)];simp only [Int.toNat_natCast, Af6.val _ (h.2 _ (A0y [] hi)), Option.bind_some];rw [if_pos (by rw [h2]; simp only [List.length_take, List.length_cons, List.length_nil, bigA]; omega), A0j (by omega), h2, List.take_add_one, List.getElem?_eq_getElem hi, Option.toList_some, A0z hi]⟩) 0 [] (Nat.zero_le _) rfl
 rw [List.take_of_length_le (Nat.le_refl _)] at hs;refine Ev.of_eq (hg _ ((Ev.const _).succ fun k => ?_)) fun k => rfl;rw [Ab5.l3_eq, if_neg (by simp), hs]
theorem Ac4.val (n lo hi : Int) : Ac4.F (n, lo, hi, ()) = some ((decide (lo ≤ n /\ n ≤ hi), ()), ()) := by
 rw [Ac4.eq, Ac4.T];by_cases h : lo ≤ n
 . rw [if_pos (by simp [h])]; simp [h]
 . rw [if_neg (by simp [h])]; simp [h]
theorem Ac1.val (n lo hi : Int) : Ac1.F (n, lo, hi, ()) = some ((decide (lo ≤ n /\ n ≤ hi), ()), ()) := by
 rw [Ac1.eq, Ac1.T];by_cases h : lo ≤ n
 . rw [if_pos (by simp [h])]; simp [h]
 . rw [if_neg (by simp [h])]; simp [h]
def cmpI (x y : Int) : Int := if x < y then -1 else if x > y then 1 else 0
theorem Ae6.val (x y : Int) : Ae6.F (x, y, ()) = some ((cmpI x y, ()), ()) := by
 rw [Ae6.eq, Ae6.T, Ae8.eq, Ae8.T, Ae8.eq, Ae8.T];simp only [Option.bind_some, bne_self_eq_false, Bool.false_eq_true, if_false, decide_eq_true_eq, cmpI]
 repeat' split
 all_goals rfl
theorem Ac7.val2 (x y : Int) : Ac7.F ([x, y], ()) = some ((if x ≠ 0 then x else y, ()), ()) := by
 refine Ac7.of _ ⟨3, fun k hk => ?_⟩;obtain ⟨k, rfl⟩ : ∃ j, k = j + 1 + 1 + 1 := ⟨k - 3, by omega⟩;show Ac7.T (k + 1 + 1 + 1) [x, y] = _;rw [Ac7.T, Ac7.l3_eq];by_cases hx : x = 0
 . subst hx;simp only [List.length_cons, List.length_nil];rw [if_pos (by simp), if_pos (by simp), if_neg (by simp), Ac7.l3_eq];simp only [List.length_cons, List.length_nil];rw [A0Q (by omega) (by omega)];rw [if_pos (by simp), if_pos (by simp)];by_cases hy : y = 0
   . subst hy;rw [if_neg (by simp), Ac7.l3_eq, A0Q (by omega) (by omega), if_neg (by simp)]; simp
   . rw [if_pos (by simp [hy])]; simp
 . simp only [List.length_cons, List.length_nil];rw [if_pos (by simp), if_pos (by simp), if_pos (by simp [hx])];simp [hx]
def lexc : List Int -> List Int -> Int
 | [], [] => 0
 | [], _ :: _ => -1
 | _ :: _, [] => 1
 | a :: u, b :: v => if cmpI a b ≠ 0 then cmpI a b else lexc u v
theorem A0x (x y : Int) : (x < y /\ cmpI x y = -1) ∨ (x = y /\ cmpI x y = 0) ∨ (y < x /\ cmpI x y = 1) := by
 unfold cmpI;by_cases h : x < y
 . exact .inl ⟨h, if_pos h⟩
 . by_cases h2 : x > y
   . exact .inr (.inr ⟨h2, by rw [if_neg h, if_pos h2]⟩)
   . exact .inr (.inl ⟨by omega, by rw [if_neg h, if_neg h2]⟩)
theorem A0p : ∀ (a b : List Int), lexc a b = 0 ↔ a = b
 | [], [] => by simp [lexc]
 | [], _ :: _ => by simp [lexc]
 | _ :: _, [] => by simp [lexc]
 | a :: u, b :: v => by
   rcases A0x a b with ⟨h, e⟩ | ⟨h, e⟩ | ⟨h, e⟩
   . simp [lexc, e]; intro h'; omega
   . subst h; simp [lexc, e, A0p u v]
   . simp [lexc, e]; intro h'; omega
theorem A0d : ∀ (a b c : List Int), lexc a b < 0 -> lexc b c < 0 -> lexc a c < 0
 | [], [], c, h1, _ => by simp [lexc] at h1
 | [], _ :: _, [], _, h2 => by simp [lexc] at h2
 | [], _ :: _, _ :: _, _, _ => by simp [lexc]
 | _ :: _, [], c, h1, _ => by simp [lexc] at h1
 | _ :: _, _ :: _, [], _, h2 => by simp [lexc] at h2
 | a :: u, b :: v, c :: w, h1, h2 => by
   have ih := A0d u v w;simp only [lexc] at h1 h2 ⊢;rcases A0x a b with ⟨g1, e1⟩ | ⟨g1, e1⟩ | ⟨g1, e1⟩ <;> rcases A0x b c with ⟨g2, e2⟩ | ⟨g2, e2⟩ | ⟨g2, e2⟩ <;> rcases A0x a c with ⟨g3, e3⟩ | ⟨g3, e3⟩ | ⟨g3, e3⟩ <;> simp [e1, e2, e3] at h1 h2 ⊢ <;> first | omega | exact ih h1 h2
def cmpS (a b : List Int) : Int := if cmpI a.length b.length ≠ 0 then cmpI a.length b.length else lexc a b
theorem A0C (a b : List Int) : cmpS a b = 0 ↔ a = b := by
 unfold cmpS;rcases A0x a.length b.length with ⟨h, e⟩ | ⟨h, e⟩ | ⟨h, e⟩
 . simp [e]; intro h'; rw [h'] at h; omega
 . simp [e, A0p]
 . simp [e]; intro h'; rw [h'] at h; omega
theorem A0L (a b c : List Int) (h1 : cmpS a b < 0) (h2 : cmpS b c < 0) : cmpS a c < 0 := by
 unfold cmpS at *;rcases A0x a.length b.length with ⟨g1, e1⟩ | ⟨g1, e1⟩ | ⟨g1, e1⟩ <;> rcases A0x b.length c.length with ⟨g2, e2⟩ | ⟨g2, e2⟩ | ⟨g2, e2⟩ <;> rcases A0x a.length c.length with ⟨g3, e3⟩ | ⟨g3, e3⟩ | ⟨g3, e3⟩ <;> simp [e1, e2, e3] at h1 h2 ⊢ <;> first | omega | exact A0d a b c h1 h2
theorem A1C {a b : List Int} (h : a.length < b.length) : cmpS a b < 0 := by
 unfold cmpS;rcases A0x a.length b.length with ⟨g, e⟩ | ⟨g, e⟩ | ⟨g, e⟩
 . simp [e]
 . omega
 . omega
theorem Ae5.val (x y : Int) : Ae5.F (x, y, ()) = some ((cmpI x y, ()), ()) := by
 rw [Ae5.eq, Ae5.T, Ae7.eq, Ae7.T, Ae7.eq, Ae7.T];simp only [Option.bind_some, bne_self_eq_false, Bool.false_eq_true, if_false, decide_eq_true_eq, cmpI]
 repeat' split
 all_goals rfl
theorem A0o {a b : List Int} {i : Nat} (ha : i < a.length) (hb : i < b.length) : lexc (a.drop i) (b.drop i) = if cmpI (a.getD i 0) (b.getD i 0) ≠ 0 then cmpI (a.getD i 0) (b.getD i 0) else lexc (a.drop (i + 1)) (b.drop (i + 1)) := by
 rw [List.drop_eq_getElem_cons ha, List.drop_eq_getElem_cons hb, A0z ha, A0z hb]; rfl
theorem Ad3.val (a b : List Int) (ha : a.length ≤ 1048576) (hb : b.length ≤ 1048576) : Ad3.F (a, b, ()) = some ((lexc a b, ()), ()) := by
 obtain ⟨r, hr, hq⟩ := Ev.loop (σ := Unit) (R := (Int × Unit) × Unit) (fun k i _ => Ad3.l2 k a b a a.length (i : Int)) a.length (fun i _ => i ≤ b.length /\ lexc a b = lexc (a.drop i) (b.drop i)) (fun r => r = ((lexc a b, ()), ()))
   (fun i s hi ⟨h1, h2⟩ => by
     have E := fun k => Ad3.l2_eq k a b a a.length (i : Int);simp only [if_pos (ltI.2 hi), if_pos (idxI.2 hi), Int.toNat_natCast, A0j (show i < 4611686018427387904 by omega)] at E;by_cases hib : i < b.length
     . simp only [if_neg (show ¬ decide ((i : Int) ≥ (b.length : Int)) = true by simp; omega), if_pos (idxI.2 hib), Ae6.val, Option.bind_some] at E;have hd := A0o hi hib;obtain ⟨cc, hcc⟩ : ∃ cc, cmpI (a.getD i 0) (b.getD i 0) = cc := ⟨_, rfl⟩;rw [hcc] at hd;simp only [hcc] at E;by_cases hc : cc = 0
       . refine .inr ⟨(), ⟨by omega, by rw [h2, hd, if_neg (by simp [hc])]⟩, Goes.succ fun k => by rw [E, if_neg (by simp [hc])]⟩
       . exact .inl ⟨_, (Ev.const _).succ fun k => by rw [E, if_pos (by simp [hc])], by rw [h2, hd, if_pos hc]⟩
     . refine .inl ⟨_, (Ev.const _).succ fun k => by rw [E, if_pos (by simp; omega)], ?_⟩;rw [h2, List.drop_eq_getElem_cons hi, List.drop_of_length_le (show b.length ≤ i by omega)]; rfl)
   (fun s ⟨h1, h2⟩ => by
     by_cases hl : a.length < b.length
     . refine ⟨_, (Ev.const _).succ fun k => by rw [Ad3.l2_eq, if_neg (by simp), if_pos (by simp; omega)], ?_⟩;rw [h2, List.drop_of_length_le (Nat.le_refl _), List.drop_eq_getElem_cons hl]; rfl
     . refine ⟨_, (Ev.const _).succ fun k => by rw [Ad3.l2_eq, if_neg (by simp), if_neg (by simp; omega)], ?_⟩;rw [h2, List.drop_of_length_le (Nat.le_refl _), List.drop_of_length_le (by omega)]; rfl) 0 () (Nat.zero_le _) ⟨Nat.zero_le _, rfl⟩
 subst hq;exact Ad3.of _ _ (hr.of_eq fun k => rfl)
theorem Aa2.val (a b : List Int) (ha : a.length ≤ 1048576) (hb : b.length ≤ 1048576) : Aa2.F (a, b, ()) = some ((cmpS a b, ()), ()) := by
 rw [Aa2.eq, Aa2.T, Ae5.val, Ad3.val a b ha hb];simp only [Option.bind_some, Ac7.val2, cmpS]
theorem Aa8.val (a b : List Int) (ha : a.length ≤ 1048576) : Aa8.F (a, b, ()) = some ((decide (cmpS a b < 0), ()), ()) := by
 by_cases hl : a.length = b.length
 . obtain ⟨r, hr, hq⟩ := Ev.loop (σ := Unit) (R := (Bool × Unit) × Unit) (fun k i _ => Aa8.l4 k a b (i : Int)) a.length (fun i _ => lexc a b = lexc (a.drop i) (b.drop i)) (fun r => r = ((decide (lexc a b < 0), ()), ()))
     (fun i s hi h2 => by
       have hib : i < b.length := by omega
       have E := fun k => Aa8.l4_eq k a b (i : Int);simp only [if_pos (ltI.2 hi), if_pos (idxI.2 hi), if_pos (idxI.2 hib), Int.toNat_natCast, A0j (show i < 4611686018427387904 by omega)] at E;have hd := A0o hi hib;obtain ⟨ai, hai⟩ : ∃ ai, a.getD i 0 = ai := ⟨_, rfl⟩;obtain ⟨bi, hbi⟩ : ∃ bi, b.getD i 0 = bi := ⟨_, rfl⟩;rw [hai, hbi] at hd;simp only [hai, hbi] at E;rcases A0x ai bi with ⟨g, e⟩ | ⟨g, e⟩ | ⟨g, e⟩
       . refine .inl ⟨_, (Ev.const _).succ fun k => by rw [E, if_pos (by simp; omega)], ?_⟩;rw [h2, hd, if_pos (by rw [e]; omega), e]; simp [g]
       . exact .inr ⟨(), by rw [h2, hd, if_neg (by rw [e]; simp)], Goes.succ fun k => by rw [E, if_neg (by simp [g])]⟩
       . refine .inl ⟨_, (Ev.const _).succ fun k => by rw [E, if_pos (by simp; omega)], ?_⟩;rw [h2, hd, if_pos (by rw [e]; omega), e]; simp; omega)
     (fun s h2 => ⟨_, (Ev.const _).succ fun k => by rw [Aa8.l4_eq, if_neg (by simp)], by rw [h2, List.drop_of_length_le (Nat.le_refl _), List.drop_of_length_le (by omega)]; rfl⟩) 0 () (Nat.zero_le _) rfl
   subst hq;refine Aa8.of _ _ (hr.of_eq fun k => ?_) |>.trans ?_
   . rw [Aa8.T, if_neg (by simp [hl])]; rfl
   . have : cmpS a b = lexc a b := by
       unfold cmpS;rcases A0x a.length b.length with ⟨g, e⟩ | ⟨g, e⟩ | ⟨g, e⟩
       . omega
       . simp [e]
       . omega
     rw [this]
 . have : decide (cmpS a b < 0) = decide ((a.length : Int) < (b.length : Int)) := by
     unfold cmpS;rcases A0x a.length b.length with ⟨g, e⟩ | ⟨g, e⟩ | ⟨g, e⟩
     . simp [e]; omega
     . omega
     . simp [e]; omega
   rw [this];exact Aa8.of _ _ ((Ev.const _).of_eq fun k => by rw [Aa8.T, if_pos (by simp; omega)])
def A0B (xs : List (List Int)) : Prop := ∀ i j, i < j -> j < xs.length -> cmpS (xs.getD i []) (xs.getD j []) < 0
theorem A0f {xs : List (List Int)} (h : ∀ i, 0 < i -> i < xs.length -> cmpS (xs.getD (i - 1) []) (xs.getD i []) < 0) : A0B xs := by
 intro i j;induction j with
 | zero => intro h1; omega
 | succ j ih =>
   intro h1 h2;have h3 := h (j + 1) (by omega) h2;simp only [Nat.add_sub_cancel] at h3;by_cases hij : i = j
   . rw [hij]; exact h3
   . exact A0L _ _ _ (ih (by omega) (by omega)) h3
theorem wrapU {x : Int} (h1 : 0 ≤ x) (h2 : x < 18446744073709551616) : IntKind.u64.wrap x = x := by
 have e : (2 : Int) ^ (IntKind.u64).bits = 18446744073709551616 := by decide
 unfold IntKind.wrap;simp only [e, show IntKind.u64.signed = false from rfl, Bool.false_and, Bool.false_eq_true, if_false];omega
theorem midI {i j : Nat} (h : i + j < 4611686018427387904) : IntKind.i64.wrap ((IntKind.u64.wrap (IntKind.i64.wrap ((i : Int) + (j : Int)))).fdiv (2 ^ (min (1 : Int).toNat IntKind.u64.bits))) = (((i + j) / 2 : Nat) : Int) := by
 rw [A0Q (x := (i : Int) + (j : Int)) (by omega) (by omega), wrapU (by omega) (by omega)];have e : (2 : Int) ^ (min (1 : Int).toNat IntKind.u64.bits) = ((2 : Nat) : Int) := by decide
 rw [e, show (i : Int) + (j : Int) = ((i + j : Nat) : Int) by omega, <- Int.ofNat_fdiv, A0Q (by omega) (by omega)]
theorem binSearch.val (xs : List (List Int)) (t : List Int) (hs : A0B xs) (h1 : SmL xs) (h2 : t.length ≤ 1048576) :
   ∃ r : Int, ∃ b : Bool, Af5.F (xs, t, Aa2.cloG (()), ()) = some ((r, (b, ())), ()) /\ 0 ≤ r /\ (b = true ↔ t ∈ xs) /\ (b = true -> r.toNat < xs.length /\ xs.getD r.toNat [] = t) := by
 have hn := h1.1;have hcmp : ∀ i, i < xs.length -> Aa2.cloG (()) (xs.getD i [], t, ()) = some (cmpS (xs.getD i []) t, ()) := fun i hi => by
   show (Aa2.F (xs.getD i [], t, ())).map (·.1) = _;rw [Aa2.val _ _ (h1.2 _ (A0y _ hi)) h2]; rfl
 have key : ∀ d i j : Nat, j - i ≤ d -> i ≤ j -> j ≤ xs.length -> (∀ m, m < i -> cmpS (xs.getD m []) t < 0) -> (∀ m, j ≤ m -> m < xs.length -> ¬ cmpS (xs.getD m []) t < 0) →
     ∃ r : Int, ∃ b : Bool, Ev (fun k => Af5.l3 k xs t (Aa2.cloG (())) xs.length (i : Int) (j : Int)) ((r, (b, ())), ()) /\ 0 ≤ r /\ (b = true ↔ t ∈ xs) /\ (b = true -> r.toNat < xs.length /\ xs.getD r.toNat [] = t) := by
   intro d;induction d with
   | zero =>
     intro i j hd hij hj hlo hhi;obtain rfl : i = j := by omega
     have E := fun k => Af5.l3_eq k xs t (Aa2.cloG (())) xs.length (i : Int) (i : Int);simp only [if_neg (show ¬ decide ((i : Int) < (i : Int)) = true by simp)] at E;by_cases hi : i < xs.length
     . simp only [if_pos (ltI.2 hi), if_pos (idxI.2 hi), Int.toNat_natCast, hcmp i hi, Option.bind_some] at E;refine ⟨_, _, (Ev.const _).succ E, by omega, ?_, fun hb => ?_⟩
       rotate_left
       . simp only [beq_iff_eq, A0C] at hb;rw [Int.toNat_natCast]; exact ⟨hi, hb⟩
       simp only [beq_iff_eq, A0C];refine ⟨fun h => h ▸ A0y [] hi, fun h => ?_⟩;obtain ⟨m, hm, e⟩ := List.getElem_of_mem h;have e' : xs.getD m [] = t := by rw [A0z hm]; exact e
       rcases Nat.lt_trichotomy m i with h3 | h3 | h3
       . have := hlo m h3;rw [e', (A0C t t).2 rfl] at this; omega
       . rw [<- h3]; exact e'
       . have := hs i m h3 hm;rw [e'] at this;exact absurd this (hhi i (Nat.le_refl _) hi)
     . simp only [if_neg (show ¬ decide ((i : Int) < (xs.length : Int)) = true by simp; omega)] at E;refine ⟨_, _, (Ev.const _).succ E, by omega, ?_, fun hb => by cases hb⟩;simp only [Bool.false_eq_true, false_iff];intro h;obtain ⟨m, hm, e⟩ := List.getElem_of_mem h;have e' : xs.getD m [] = t := by rw [A0z hm]; exact e
       have := hlo m (by omega);rw [e', (A0C t t).2 rfl] at this; omega
   | succ d ih =>
     intro i j hd hij hj hlo hhi;by_cases he : i = j
     . exact ih i j (by omega) hij hj hlo hhi
     have E := fun k => Af5.l3_eq k xs t (Aa2.cloG (())) xs.length (i : Int) (j : Int);have hm : (i + j) / 2 < xs.length := by omega
     simp only [if_pos (show decide ((i : Int) < (j : Int)) = true by simp; omega), if_neg (show ¬ (1 : Int) < 0 by omega), midI (show i + j < 4611686018427387904 by omega), if_pos (idxI.2 hm), Int.toNat_natCast, hcmp _ hm, Option.bind_some, A0j (show (i + j) / 2 < 4611686018427387904 by omega)] at E;by_cases hc : cmpS (xs.getD ((i + j) / 2) []) t < 0
     . obtain ⟨r, b, hr, h⟩ := ih ((i + j) / 2 + 1) j (by omega) (by omega) hj (fun m hm2 => by
         by_cases h3 : m = (i + j) / 2
         . rw [h3]; exact hc
         . exact A0L _ _ _ (hs m ((i + j) / 2) (by omega) hm) hc) hhi
       exact ⟨r, b, hr.succ fun k => by rw [E, if_pos (by simpa using hc)], h⟩
     . obtain ⟨r, b, hr, h⟩ := ih i ((i + j) / 2) (by omega) (by omega) (by omega) hlo (fun m hm2 hm3 h4 => by
         by_cases h3 : m = (i + j) / 2
         . rw [h3] at h4; exact hc h4
         . exact hc (A0L _ _ _ (hs ((i + j) / 2) m (by omega) hm3) h4))
       exact ⟨r, b, hr.succ fun k => by rw [E, if_neg (by simpa using hc)], h⟩
 obtain ⟨r, b, hr, h⟩ := key xs.length 0 xs.length (by omega) (Nat.zero_le _) (Nat.le_refl _) (fun m hm => by omega) (fun m h3 h4 => by omega);exact ⟨r, b, Af5.of _ _ _ (hr.of_eq fun k => rfl), h⟩
theorem Af2.val (xs : List (List Int)) (t : List Int) (hs : A0B xs) (h1 : SmL xs) (h2 : t.length ≤ 1048576) : ∃ r : Int, Af2.F (xs, t, ()) = some ((r, ()), ()) /\ (r < 0 ↔ t ∉ xs) := by
 obtain ⟨r, b, hr, h3, h4, -⟩ := binSearch.val xs t hs h1 h2;rw [Af2.eq, Af2.T, hr];simp only [Option.bind_some];cases b with
 | true => exact ⟨r, by rw [if_neg (by simp)], by simp [h4.1 rfl]; omega⟩
 | false => exact ⟨-1, by rw [if_pos (by simp)], by simp; intro h; exact absurd (h4.2 h) (by simp)⟩
theorem Ac5.same (xs ys : List Int) (h : Sm xs) : ∃ b, Ac5.F (xs, ys, ()) = some ((b, ()), ()) /\ (b = true ↔ xs = ys) := by
 have hn : xs.length ≤ 1048576 := h;by_cases hl : xs.length = ys.length
 . obtain ⟨b, hb, hb'⟩ := A0a (fun k i => Ac5.l4 k xs ys (i : Int)) xs ys 0 hl (fun i hi => ⟨xs.getD i 0 == ys.getD i 0, by simp, fun k => by
     rw [Ac5.l4_eq, if_pos (ltI.2 hi), if_pos (idxI.2 hi), if_pos (idx2 (hl ▸ hi))]; simp only [Int.toNat_natCast]; rw [A0j (by omega)]; rfl⟩) (fun k => by rw [Ac5.l4_eq, if_neg (by simp)])
   exact ⟨b, Ac5.of _ _ (hb.of_eq fun k => by rw [Ac5.T, if_neg (by simp [hl])]; rfl), hb'⟩
 . exact ⟨false, Ac5.of _ _ ((Ev.const _).of_eq fun k => by rw [Ac5.T, if_pos (by simp; omega)]), by simp; intro e; exact hl (by rw [e])⟩
theorem Ab8.same (xs ys : List Int) (h : Sm xs) : ∃ b, Ab8.F (xs, ys, ()) = some ((b, ()), ()) /\ (b = true ↔ xs = ys) := by
 have hn : xs.length ≤ 1048576 := h;by_cases hl : xs.length = ys.length
 . obtain ⟨b, hb, hb'⟩ := A0a (fun k i => Ab8.l4 k xs ys xs.length (i : Int)) xs ys 0 hl (fun i hi => ⟨xs.getD i 0 == ys.getD i 0, by simp, fun k => by
     rw [Ab8.l4_eq, if_pos (ltI.2 hi), if_pos (idxI.2 hi), if_pos (idx2 (hl ▸ hi))]; simp only [Int.toNat_natCast]; rw [A0j (by omega)]; rfl⟩) (fun k => by rw [Ab8.l4_eq, if_neg (by simp)])
   exact ⟨b, Ab8.of _ _ (hb.of_eq fun k => by rw [Ab8.T, if_neg (by simp [hl])]; rfl), hb'⟩
 . exact ⟨false, Ab8.of _ _ ((Ev.const _).of_eq fun k => by rw [Ab8.T, if_pos (by simp; omega)]), by simp; intro e; exact hl (by rw [e])⟩
theorem A1K : ∀ a b : List Int, ordL a b = lexc a b
 | [], [] => rfl
 | [], _ :: _ => rfl
 | _ :: _, [] => rfl
 | a :: x, b :: y => by
   simp only [ordL, lexc, A1K x y];rcases A0x a b with ⟨h, e⟩ | ⟨h, e⟩ | ⟨h, e⟩ <;> rw [e]
   . rw [if_pos h]; rfl
   . rw [if_neg (by omega), if_neg (by omega)]; rfl
   . rw [if_neg (by omega), if_pos h]; rfl
theorem A0Z (a b : List Int) : ordS a b = cmpS a b := by
 unfold ordS cmpS;rw [A1K];rcases A0x a.length b.length with ⟨h, e⟩ | ⟨h, e⟩ | ⟨h, e⟩ <;> rw [e]
 . rw [if_pos (by omega)]; rfl
 . rw [if_neg (by omega), if_neg (by omega)]; rfl
 . rw [if_neg (by omega), if_pos (by omega)]; rfl
abbrev LtS (x y : List Int) : Prop := ordS x y < 0
theorem LtS.irrefl (x : List Int) : ¬ LtS x x := fun h => by have := a5I x x; simp only [LtS] at h; omega
theorem LtS.of_le {x y : List Int} (h : ¬ LtS y x) (hne : x ≠ y) : LtS x y := by
 have h1 := a5I x y;have h2 := a8Z y x;simp only [LtS] at *;rcases Int.lt_trichotomy (ordS y x) 0 with h3 | h3 | h3
 . exact absurd h3 h
 . exact absurd (h2 h3).symm hne
 . exact h1.2 h3
theorem sortedS_pw {xs : List (List Int)} : A0B xs ↔ xs.Pairwise LtS := by
 rw [List.pairwise_iff_getElem];constructor
 . intro h i j hi hj hij;have := h i j hij hj;rw [A0z hi, A0z hj, <- A0Z] at this;exact this
 . intro h i j hij hj;have := h i j (by omega) hj hij;rw [A0z (by omega), A0z hj, <- A0Z];exact this
theorem A0T : ∀ {xs ys : List (List Int)}, xs.Pairwise LtS -> ys.Pairwise LtS -> (∀ s, s ∈ xs ↔ s ∈ ys) -> xs = ys
 | [], ys, _, _, h => by
   cases ys with
   | nil => rfl
   | cons y ys => exact absurd ((h y).2 (by simp)) (by simp)
 | x :: xs, [], _, _, h => absurd ((h x).1 (by simp)) (by simp)
 | x :: xs, y :: ys, hx, hy, h => by
   rw [List.pairwise_cons] at hx hy;have e : x = y := by
     have h1 := (h x).1 (by simp);have h2 := (h y).2 (by simp);simp only [List.mem_cons] at h1 h2;rcases h1 with rfl | h1
     . rfl
     . rcases h2 with rfl | h2
       . rfl
       . exact absurd (a6t x y x (hx.1 y h2) (hy.1 x h1)) (LtS.irrefl x)
   subst e;rw [A0T hx.2 hy.2 fun s => ?_];constructor
   . intro hs;have := (h s).1 (by simp [hs]);simp only [List.mem_cons] at this;rcases this with rfl | this
     . exact absurd (hx.1 s hs) (LtS.irrefl s)
     . exact this
   . intro hs;have := (h s).2 (by simp [hs]);simp only [List.mem_cons] at this;rcases this with rfl | this
     . exact absurd (hy.1 s hs) (LtS.irrefl s)
     . exact this
theorem A0H (s : List Int) : ∀ (l : List (List Int)) (p : List Int), s ∈ p :: a2H p l ↔ s ∈ p :: l
 | [], p => by simp [a2H]
 | x :: l, p => by
   have h1 := A0H s l p;have h2 := A0H s l x;simp only [List.mem_cons] at *;simp only [a2H];split
   . rename_i e; subst e; rw [h1]; simp
   . rw [List.mem_cons, h2]
theorem A1G (s : List Int) (l : List (List Int)) : s ∈ a7P l ↔ s ∈ l := by
 cases l with
 | nil => simp [a7P]
 | cons x l => exact A0H s l x
theorem A0N : ∀ (l : List (List Int)) (p : List Int), (p :: l).Pairwise (fun a b => ¬ LtS b a) -> (p :: a2H p l).Pairwise LtS
 | [], p, _ => by simp [a2H]
 | x :: l, p, h => by
   rw [List.pairwise_cons, List.pairwise_cons] at h;simp only [a2H];split
   . rename_i e; subst e;exact A0N l x (List.pairwise_cons.2 ⟨h.2.1, h.2.2⟩)
   . rename_i hne;have ih := A0N l x (List.pairwise_cons.2 ⟨h.2.1, h.2.2⟩);have hpx : LtS p x := LtS.of_le (h.1 x (by simp)) (Ne.symm hne);refine List.pairwise_cons.2 ⟨fun y hy => ?_, ih⟩;simp only [List.mem_cons] at hy;rcases hy with rfl | hy
     . exact hpx
     . exact a6t p x y hpx ((List.pairwise_cons.1 ih).1 y hy)
theorem A1Q {l : List (List Int)} (h : l.Pairwise (fun a b => ¬ LtS b a)) : (a7P l).Pairwise LtS := by
 cases l with
 | nil => simp [a7P]
 | cons x l => exact A0N l x h
def A1y (xs : List (List Int)) : List (List Int) := a7P (b3l ordS xs)
theorem A0e (xs : List (List Int)) : (b3l ordS xs).Perm xs := List.mergeSort_perm _ _
theorem A0m (s : List Int) (xs : List (List Int)) : s ∈ A1y xs ↔ s ∈ xs := by rw [A1y, A1G, (A0e xs).mem_iff]
theorem A1k (xs : List (List Int)) : (A1y xs).Pairwise LtS := by
 refine A1Q ?_;have h := List.pairwise_mergeSort (le := fun x y => !Go.Proofs.ltOf ordS y x) (fun x y z h1 h2 => ?_) (fun x y => ?_) xs
 . refine List.Pairwise.imp ?_ h;intro a b hab;simpa [Go.Proofs.ltOf] using hab
 . simp only [Go.Proofs.ltOf, Bool.not_eq_true', decide_eq_false_iff_not] at *;intro h3;rcases Int.lt_trichotomy (ordS y x) 0 with h | h | h
   . exact h1 h
   . have := a8Z y x h; subst this; exact h2 h3
   . exact h2 (a6t z x y h3 ((a5I x y).2 h))
 . simp only [Go.Proofs.ltOf, Bool.or_eq_true, Bool.not_eq_true', decide_eq_false_iff_not];have := a5I x y;omega
theorem A0n {xs : List (List Int)} (h : A0B xs) : A1y xs = xs := A0T (A1k xs) (sortedS_pw.1 h) fun s => A0m s xs
theorem Ag2.val (xs : List (List Int)) (h : SmL xs) : Ag2.F (xs, Aa2.cloG (()), ()) = some ((), (b3l ordS xs, ())) := by
 unfold Ag2.F sortF;rw [if_pos];refine ⟨fun x hx y hy => ?_, by have := h.1; show xs.length < _; omega⟩;show (Aa2.F (x, y, ())).map (·.1) = _;rw [Aa2.val x y (h.2 x hx) (h.2 y hy), A0Z]; rfl
theorem Ag0.val (xs : List (List Int)) (h : SmL xs) : Ag0.F (xs, Ab8.cloG (()), ()) = some ((a7P xs, ()), ()) := by
 unfold Ag0.F compF;rw [if_pos];refine ⟨fun x hx y _ => ?_, by have := h.1; show xs.length < _; omega⟩;have hxs : Sm x := by
   simp only [List.mem_cons] at hx;rcases hx with rfl | hx
   . simp [Sm]
   . exact h.2 x hx
 obtain ⟨b, hb, hb'⟩ := Ab8.same x y hxs;show (Ab8.F (x, y, ())).map (·.1) = _;rw [hb];have : b = decide (x = y) := Bool.eq_iff_iff.2 (hb'.trans (by simp));rw [this]; rfl
theorem SmL.perm {xs ys : List (List Int)} (h : SmL xs) (hp : ys.Perm xs) : SmL ys := ⟨by rw [hp.length_eq]; exact h.1, fun x hx => h.2 x (hp.mem_iff.1 hx)⟩
theorem Ab1.val (xs : List (List Int)) (h : SmL xs) : Ab1.F (xs, ()) = some ((A1y xs, ()), ()) := by
 rw [Ab1.eq, Ab1.T, Ab5.val xs h];simp only [Option.bind_some, Ag2.val xs h, Ag0.val _ (h.perm (A0e xs))];rfl
theorem Ab1.same (xs : List (List Int)) (h : SmL xs) (hs : A0B xs) : Ab1.F (xs, ()) = some ((xs, ()), ()) := by rw [Ab1.val xs h, A0n hs]
theorem Aa3.val (xs : List Int) (h : xs.length ≤ 1048576) : Aa3.F (xs, ()) = some ((xs, ()), ()) := by
 rw [Aa3.eq, Aa3.T, if_pos (by simp only [List.length_nil, bigA]; omega)]; rfl
theorem Ad9.val (xs : List (List Int)) (f : List Int × Unit -> Option (Bool × Unit)) (p : List Int -> Bool) (hf : ∀ x ∈ xs, f (x, ()) = some (p x, ())) (hn : xs.length < 4611686018427387904) :
   ∃ r : Int, Ad9.F (xs, f, ()) = some ((r, ()), ()) /\ ((r = -1 /\ ∀ x ∈ xs, p x = false) ∨ ∃ j : Nat, j < xs.length /\ r = j /\ p (xs.getD j []) = true /\ ∀ i, i < j -> p (xs.getD i []) = false) := by
 obtain ⟨r, hr, hq⟩ := Ev.loop (σ := Unit) (R := (Int × Unit) × Unit) (fun k i _ => Ad9.l2 k xs f xs.length (i : Int)) xs.length (fun i _ => ∀ j, j < i -> p (xs.getD j []) = false)
   (fun r => ∃ v : Int, r = ((v, ()), ()) /\ ((v = -1 /\ ∀ x ∈ xs, p x = false) ∨ ∃ j : Nat, j < xs.length /\ v = j /\ p (xs.getD j []) = true /\ ∀ i, i < j -> p (xs.getD i []) = false))
   (fun i s hi hI => by
     have E := fun k => Ad9.l2_eq k xs f xs.length (i : Int);simp only [if_pos (ltI.2 hi), if_pos (idxI.2 hi), Int.toNat_natCast, hf _ (A0y [] hi), Option.bind_some, A0j (show i < 4611686018427387904 by omega)] at E;cases hp : p (xs.getD i []) with
     | true => exact .inl ⟨_, (Ev.const _).succ fun k => by rw [E, if_pos hp], i, rfl, .inr ⟨i, hi, rfl, hp, hI⟩⟩
     | false =>
       refine .inr ⟨(), fun j hj => ?_, Goes.succ fun k => by rw [E, if_neg (by rw [hp]; simp)]⟩;by_cases hji : j = i
       . rw [hji]; exact hp
       . exact hI j (by omega))
   (fun s hI => ⟨_, (Ev.const _).succ fun k => by rw [Ad9.l2_eq, if_neg (by simp)], -1, rfl, .inl ⟨rfl, fun x hx => by
     obtain ⟨j, hj, rfl⟩ := List.getElem_of_mem hx;rw [<- A0z (d := []) hj]; exact hI j hj⟩⟩) 0 () (Nat.zero_le _) (by intro j hj; omega)
 obtain ⟨v, rfl, hv⟩ := hq;exact ⟨v, Ad9.of _ _ (hr.of_eq fun k => rfl), hv⟩
theorem Ae4.val (xs : List (List Int)) (f : List Int × Unit -> Option (Bool × Unit)) (p : List Int -> Bool) (hf : ∀ x ∈ xs, f (x, ()) = some (p x, ())) (hn : xs.length < 4611686018427387904) :
   Ae4.F (xs, f, ()) = some ((xs.any p, ()), ()) := by
 obtain ⟨r, hr, h⟩ := Ad9.val xs f p hf hn;rw [Ae4.eq, Ae4.T, hr];simp only [Option.bind_some];rcases h with ⟨rfl, h⟩ | ⟨j, hj, rfl, hp, -⟩
 . have : xs.any p = false := by simp only [List.any_eq_false]; intro x hx; simp [h x hx]
   rw [this]; rfl
 . have : xs.any p = true := List.any_eq_true.2 ⟨_, A0y [] hj, hp⟩;rw [this]; simp
theorem Ae0.val (xs : List Int) (f : Int × Unit -> Option (Bool × Unit)) (p : Int -> Bool) (hf : ∀ x ∈ xs, f (x, ()) = some (p x, ())) (hn : xs.length < 4611686018427387904) :
   ∃ r : Int, Ae0.F (xs, f, ()) = some ((r, ()), ()) /\ ((r = -1 /\ ∀ x ∈ xs, p x = false) ∨ ∃ j : Nat, j < xs.length /\ r = j /\ p (xs.getD j 0) = true /\ ∀ i, i < j -> p (xs.getD i 0) = false) := by
 obtain ⟨r, hr, hq⟩ := Ev.loop (σ := Unit) (R := (Int × Unit) × Unit) (fun k i _ => Ae0.l2 k xs f xs.length (i : Int)) xs.length (fun i _ => ∀ j, j < i -> p (xs.getD j 0) = false)
   (fun r => ∃ v : Int, r = ((v, ()), ()) /\ ((v = -1 /\ ∀ x ∈ xs, p x = false) ∨ ∃ j : Nat, j < xs.length /\ v = j /\ p (xs.getD j 0) = true /\ ∀ i, i < j -> p (xs.getD i 0) = false))
   (fun i s hi hI => by
     have E := fun k => Ae0.l2_eq k xs f xs.length (i : Int);simp only [if_pos (ltI.2 hi), if_pos (idxI.2 hi), Int.toNat_natCast, hf _ (A0y 0 hi), Option.bind_some, A0j (show i < 4611686018427387904 by omega)] at E;cases hp : p (xs.getD i 0) with
     | true => exact .inl ⟨_, (Ev.const _).succ fun k => by rw [E, if_pos hp], i, rfl, .inr ⟨i, hi, rfl, hp, hI⟩⟩
     | false =>
       refine .inr ⟨(), fun j hj => ?_, Goes.succ fun k => by rw [E, if_neg (by rw [hp]; simp)]⟩;by_cases hji : j = i
       . rw [hji]; exact hp
       . exact hI j (by omega))
   (fun s hI => ⟨_, (Ev.const _).succ fun k => by rw [Ae0.l2_eq, if_neg (by simp)], -1, rfl, .inl ⟨rfl, fun x hx => by
     obtain ⟨j, hj, rfl⟩ := List.getElem_of_mem hx;rw [<- A0z (d := 0) hj]; exact hI j hj⟩⟩) 0 () (Nat.zero_le _) (by intro j hj; omega)
 obtain ⟨v, rfl, hv⟩ := hq;exact ⟨v, Ae0.of _ _ (hr.of_eq fun k => rfl), hv⟩
theorem Aa5.val (xs : List Int) (f : Int × Unit -> Option (Bool × Unit)) (p : Int -> Bool) (hf : ∀ x ∈ xs, f (x, ()) = some (p x, ())) (hn : xs.length < 4611686018427387904) :
   Aa5.F (xs, f, ()) = some ((xs.any p, ()), ()) := by
 obtain ⟨r, hr, h⟩ := Ae0.val xs f p hf hn;rw [Aa5.eq, Aa5.T, hr];simp only [Option.bind_some];rcases h with ⟨rfl, h⟩ | ⟨j, hj, rfl, hp, -⟩
 . have : xs.any p = false := by simp only [List.any_eq_false]; intro x hx; simp [h x hx]
   rw [this]; rfl
 . have : xs.any p = true := List.any_eq_true.2 ⟨_, A0y 0 hj, hp⟩;rw [this]; simp
theorem Aa5.iff (xs : List Int) (f : Int × Unit -> Option (Bool × Unit)) (p : Int -> Prop) (q : Int -> Bool) (hq : ∀ x, q x = true ↔ p x) (hf : ∀ x ∈ xs, f (x, ()) = some (q x, ())) (hn : xs.length < 4611686018427387904) :
   ∃ b, Aa5.F (xs, f, ()) = some ((b, ()), ()) /\ (b = true ↔ ∃ x ∈ xs, p x) :=
 ⟨_, Aa5.val xs f q hf hn, by simp [List.any_eq_true, hq]⟩
def A1j (xs : List Int) : Prop := ∀ i, 0 < i -> i < xs.length -> xs.getD (i - 1) 0 < xs.getD i 0
def A0s (lo hi : Int) (xs : List Int) : Prop := ∀ a ∈ xs, lo ≤ a /\ a ≤ hi
theorem A1E {lo hi : Int} {xs : List Int} : A0s lo hi xs ↔ ∀ i, i < xs.length -> lo ≤ xs.getD i 0 /\ xs.getD i 0 ≤ hi := by
 refine ⟨fun h i hi => h _ (A0y 0 hi), fun h a ha => ?_⟩;obtain ⟨j, hj, rfl⟩ := List.getElem_of_mem ha;have := h j hj
 rwa [A0z hj] at this
theorem Ab7.val (xs : List Int) (lo hi : Int) (hn : xs.length < 4611686018427387904) : ∃ v, Ab7.F (xs, lo, hi, ()) = some ((v, ()), ()) /\ (v = true ↔ A0s lo hi xs /\ A1j xs) := by
 obtain ⟨v, hv, hv'⟩ := Ev.allP (L := fun k i => Ab7.l2 k xs lo hi (i : Int)) (a := ()) (b := ()) (n := xs.length) (fun i => (lo ≤ xs.getD i 0 /\ xs.getD i 0 ≤ hi) /\ (0 < i -> xs.getD (i - 1) 0 < xs.getD i 0)) true (fun i hi2 => by
   have E := fun k => Ab7.l2_eq k xs lo hi (i : Int);simp only [if_pos (ltI.2 hi2), if_pos (idxI.2 hi2), Int.toNat_natCast, Ac4.val, Option.bind_some, A0j (show i < 4611686018427387904 by omega)] at E;by_cases h : lo ≤ xs.getD i 0 /\ xs.getD i 0 ≤ hi
   . simp only [decide_eq_true h, Bool.not_true, Bool.false_eq_true, if_false] at E;by_cases h0 : 0 < i
     . have h1 : i - 1 < xs.length := by omega
       simp only [if_pos (show decide ((i : Int) > 0) = true by simp; omega), A1S h0 (show i < 4611686018427387904 by omega), if_pos (idxI.2 h1), Int.toNat_natCast] at E;by_cases h2 : xs.getD (i - 1) 0 < xs.getD i 0
       . exact .inl ⟨⟨h, fun _ => h2⟩, fun k => by rw [E, if_neg (by simp only [decide_eq_true_eq]; omega)]⟩
       . exact .inr ⟨fun hh => h2 (hh.2 h0), fun k => by rw [E, if_pos (by simp only [decide_eq_true_eq]; omega)]⟩
     . exact .inl ⟨⟨h, fun h1 => absurd h1 h0⟩, fun k => by rw [E, if_neg (by simp only [decide_eq_true_eq]; omega)]⟩
   . exact .inr ⟨fun hh => h hh.1, fun k => by rw [E, if_pos (by rw [decide_eq_false h]; rfl)]⟩) ((Ev.const _).succ fun k => by rw [Ab7.l2_eq, if_neg (by simp)]) 0 (Nat.zero_le _)
 refine ⟨v, Ab7.of _ _ _ (hv.of_eq fun k => rfl), hv'.trans ?_⟩;rw [A1E];exact ⟨fun ⟨_, h⟩ => ⟨fun i hi => (h i (Nat.zero_le _) hi).1, fun i h0 hi => (h i (Nat.zero_le _) hi).2 h0⟩, fun ⟨h1, h2⟩ => ⟨rfl, fun i _ hi => ⟨h1 i hi, fun h0 => h2 i h0 hi⟩⟩⟩
theorem Aa9.val (xs : List Int) (hn : xs.length < 4611686018427387904) : ∃ v, Aa9.F (xs, ()) = some ((v, ()), ()) /\ (v = true ↔ A1j xs) := by
 by_cases hz : xs.length = 0
 . exact ⟨true, Aa9.of _ (((Ev.const _).succ fun k => by rw [Aa9.T, Aa9.l2_eq, if_neg (by simp [hz])]).of_eq fun k => rfl), by simp; intro i h1 h2; omega⟩
 obtain ⟨v, hv, hv'⟩ := Ev.allF (L := fun k i => Aa9.l2 k xs (i : Int)) (a := ()) (b := ()) (n := xs.length) (fun i => 0 < i -> xs.getD (i - 1) 0 < xs.getD i 0) true 1 (fun i h0 hi2 => by
   have E := fun k => Aa9.l2_eq k xs (i : Int);have h0 : 0 < i := h0
   . have h1 : i - 1 < xs.length := by omega
     simp only [if_pos (ltI.2 hi2), if_pos (idxI.2 hi2), Int.toNat_natCast, A0j (show i < 4611686018427387904 by omega), A1S h0 (show i < 4611686018427387904 by omega), if_pos (idxI.2 h1)] at E;by_cases h2 : xs.getD (i - 1) 0 < xs.getD i 0
     . exact .inl ⟨fun _ => h2, fun k => by rw [E, if_neg (by simp only [decide_eq_true_eq]; omega)]⟩
     . exact .inr ⟨fun hh => h2 (hh h0), fun k => by rw [E, if_pos (by simp only [decide_eq_true_eq]; omega)]⟩) ((Ev.const _).succ fun k => by rw [Aa9.l2_eq, if_neg (by simp)]) 1 (Nat.le_refl _) (by omega)
 refine ⟨v, Aa9.of _ (hv.of_eq fun k => rfl), hv'.trans ?_⟩;exact ⟨fun ⟨_, h⟩ i h0 hi => h i h0 hi h0, fun h => ⟨rfl, fun i _ hi h0 => h i h0 hi⟩⟩
def A0v (s : List Int) (k : Nat) : List Int := s.take k ++ s.drop (k + 1)
theorem A0R {s : List Int} {k : Nat} (h : k < s.length) : (A0v s k).length = s.length - 1 := by simp [A0v]; omega
def A0U (s : List Int) : Prop := (1 ≤ s.length /\ s.length ≤ 4) /\ A0s 0 9 s /\ A1j s
def CplxOk (c : List (List Int)) : Prop := c.length ≤ 48 /\ ∀ i, i < c.length -> A0U (c.getD i []) /\ (0 < i -> cmpS (c.getD (i - 1) []) (c.getD i []) < 0) /\ (1 < (c.getD i []).length -> ∀ k, k < (c.getD i []).length -> A0v (c.getD i []) k ∈ c)
theorem CplxOk.sorted {c : List (List Int)} (h : CplxOk c) : A0B c := A0f fun i h0 hi => (h.2 i hi).2.1 h0
theorem Ab4.val (c : List (List Int)) (s : List Int) (h : SmL c) : ∃ r : Int, Ab4.F (c, s, ()) = some ((r, ()), ()) /\ (r < 0 ↔ s ∉ c) := by
 have hn := h.1;obtain ⟨v, hv, r, hv', hr⟩ := Ev.loop (σ := Unit) (R := (Int × Unit) × Unit) (fun k i _ => Ab4.l2 k c s (i : Int)) c.length (fun i _ => ∀ j, j < i -> c.getD j [] ≠ s) (fun v => ∃ r : Int, v = ((r, ()), ()) /\ (r < 0 ↔ s ∉ c))
   (fun i _ hi hI => by
     have E := fun k => Ab4.l2_eq k c s (i : Int);obtain ⟨b, hb, hb'⟩ := Ac5.same (c.getD i []) s (h.2 _ (A0y _ hi));simp only [if_pos (ltI.2 hi), if_pos (idxI.2 hi), Int.toNat_natCast, hb, Option.bind_some, A0j (show i < 4611686018427387904 by omega)] at E;cases b with
     | true =>
       have hm : s ∈ c := hb'.1 rfl ▸ A0y [] hi;exact .inl ⟨_, (Ev.const _).succ fun k => by rw [E, if_pos rfl], _, rfl, by simp [hm]⟩
     | false =>
       refine .inr ⟨(), fun j hj => ?_, Goes.succ fun k => by rw [E, if_neg (by simp)]⟩;by_cases hji : j = i
       . rw [hji]; exact fun e => absurd (hb'.2 e) (by simp)
       . exact hI j (by omega))
   (fun _ hI => ⟨_, (Ev.const _).succ fun k => by rw [Ab4.l2_eq, if_neg (by simp)], _, rfl, by
     have : s ∉ c := fun hm => by
       obtain ⟨j, hj, e⟩ := List.getElem_of_mem hm;exact hI j hj (by rw [A0z hj]; exact e)
     simp [this]⟩) 0 () (Nat.zero_le _) (by intro j hj; omega)
 subst hv';exact ⟨r, Ab4.of _ _ (hv.of_eq fun k => rfl), hr⟩
theorem cutA (s : List Int) (k : Nat) : cutL s (0 : Int) (k : Int) = s.take k := by simp [cutL]
theorem cutB (s : List Int) (k : Nat) : cutL s ((k : Nat) : Int) (s.length : Int) = s.drop k := by simp [cutL]
theorem Ab9.val (s : List Int) (k : Nat) (hk : k < s.length) (hs : s.length ≤ 1048576) : Ab9.F (s, (k : Int), ()) = some ((A0v s k, ()), ()) := by
 rw [Ab9.eq, Ab9.T, if_pos (by omega), cutA, Aa3.eq, Aa3.T, if_pos (by simp only [List.length_nil, List.length_take, bigA]; omega)];simp only [Option.bind_some];rw [A0j (by omega), if_pos (by omega), cutB, if_pos (by simp only [List.nil_append, List.length_take, List.length_drop, bigA]; omega)];rfl
theorem Ab6.val2 (a b : List Int) (ha : a.length ≤ 1048576) (hb : b.length ≤ 1048576) : Ab6.F ([a, b], ()) = some ((a ++ b, ()), ()) := by
 have w1 : IntKind.i64.wrap (0 + (a.length : Int)) = (a.length : Int) := by rw [A0Q (by omega) (by omega)]; omega
 have w2 : IntKind.i64.wrap ((a.length : Int) + (b.length : Int)) = (a.length : Int) + (b.length : Int) := A0Q (by omega) (by omega);have w3 : IntKind.i64.wrap ((0 : Int) + 1) = 1 := A0Q (by omega) (by omega);have w4 : IntKind.i64.wrap ((1 : Int) + 1) = 2 := A0Q (by omega) (by omega);refine Ab6.of _ ⟨6, fun k hk => ?_⟩;obtain ⟨k, rfl⟩ : ∃ j, k = j + 1 + 1 + 1 + 1 + 1 + 1 := ⟨k - 6, by omega⟩;show Ab6.T (k + 1 + 1 + 1 + 1 + 1 + 1) [a, b] = _;have e0 : ((([a, b] : List (List Int)).length : Nat) : Int) = 2 := rfl;rw [Ab6.T, e0, Ab6.l3_eq, if_pos (by decide), if_pos (by rw [e0]; decide)];simp only [Int.toNat_zero, List.getD_cons_zero, w1, w3];rw [if_neg (by simp only [decide_eq_true_eq]; omega), Ab6.l3_eq, if_pos (by decide), if_pos (by rw [e0]; decide)];simp only [show (1 : Int).toNat = 1 from rfl, List.getD_cons_succ, List.getD_cons_zero, w2, w4];rw [if_neg (by simp only [decide_eq_true_eq]; omega), Ab6.l3_eq, if_neg (by decide), if_pos (by simp only [bigN]; omega), e0, Ab6.l11_eq, if_pos (by decide), if_pos (by rw [e0]; decide)];simp only [Int.toNat_zero, List.getD_cons_zero, w3];rw [if_pos (by simp only [List.length_nil, bigA]; omega), Ab6.l11_eq, if_pos (by decide), if_pos (by rw [e0]; decide)];simp only [show (1 : Int).toNat = 1 from rfl, List.getD_cons_succ, List.getD_cons_zero, w4, List.nil_append];rw [if_pos (by simp only [bigA]; omega), Ab6.l11_eq, if_neg (by decide)]
def A0A (s : List Int) : List (List Int) := if 1 < s.length then (List.range s.length).map (A0v s) else []
theorem Aa6.val (s : List Int) (hs : s.length ≤ 1048576) : Aa6.F (s, ()) = some ((A0A s, ()), ()) := by
 by_cases h1 : 1 < s.length
 . obtain ⟨r, hr, hg⟩ := Goes.loop (R := (List (List Int) × Unit) × Unit) (fun k i (x : List (List Int)) => Aa6.l3 k s s.length (i : Int) x) s.length (fun i x => x = (List.range i).map (A0v s)) (fun i x hi hx => ⟨_, rfl, Goes.succ fun k => by
     rw [Aa6.l3_eq, if_pos (ltI.2 hi), if_pos (by simp; omega), if_pos (by omega), A0j (by omega), if_pos (by omega), cutA, cutB, Ab6.val2 _ _ (by simp; omega) (by simp; omega)];simp only [Option.bind_some];rw [if_pos (by rw [hx]; simp only [List.length_map, List.length_range, List.length_cons, List.length_nil, bigA]; omega), hx, List.range_succ, List.map_append];rfl⟩) 0 [] (Nat.zero_le _) rfl
   have : A0A s = r := by rw [A0A, if_pos h1, hr]
   rw [this];exact Aa6.of _ ((hg _ ((Ev.const _).succ fun k => by rw [Aa6.l3_eq, if_neg (by simp)])).of_eq fun k => rfl)
 . obtain ⟨r, hr, hg⟩ := Goes.loop (R := (List (List Int) × Unit) × Unit) (fun k i (x : List (List Int)) => Aa6.l3 k s s.length (i : Int) x) s.length (fun i x => x = []) (fun i x hi hx => ⟨_, hx, Goes.succ fun k => by
     rw [Aa6.l3_eq, if_pos (ltI.2 hi), if_neg (by simp; omega), A0j (by omega)]⟩) 0 [] (Nat.zero_le _) rfl
   have : A0A s = r := by rw [A0A, if_neg h1, hr]
   rw [this];exact Aa6.of _ ((hg _ ((Ev.const _).succ fun k => by rw [Aa6.l3_eq, if_neg (by simp)])).of_eq fun k => rfl)
theorem Af0.val (s : List Int) (hs : s.length ≤ 1048576) : ∃ v, Af0.F (s, ()) = some ((v, ()), ()) /\ (v = true ↔ A0U s) := by
 obtain ⟨v1, h1, h1'⟩ := Aa9.val s (by omega);have h2 := Aa5.val s (Ag5.cloG (())) (fun a => !decide (0 ≤ a /\ a ≤ 9)) (fun a _ => by
   show (Ag5.F (a, ())).map (·.1) = _;rw [Ag5.eq, Ag5.T, Ag8.eq, Ag8.T, Ac1.val]; rfl) (by omega)
 rw [Af0.eq, Af0.T, h1, h2];simp only [Option.bind_some];unfold A0U;by_cases g1 : 1 ≤ s.length
 . by_cases g2 : s.length ≤ 4
   . rw [if_pos (by simp; omega), if_pos (by simp; omega)];cases v1 with
     | true =>
       refine ⟨_, by rw [if_pos rfl], ?_⟩;have hr := h1'.1 rfl;simp only [Bool.not_eq_true', List.any_eq_false, Bool.not_eq_eq_eq_not, Bool.not_true, A0s, g1, g2, hr, and_self, and_true, true_and];simp
     | false => exact ⟨false, by rw [if_neg (by simp)], by simp; intro _ _ _ hr; exact absurd (h1'.2 hr) (by simp)⟩
   . exact ⟨false, by rw [if_pos (by simp; omega), if_neg (by simp; omega)], by simp; intro _ h; omega⟩
 . exact ⟨false, by rw [if_neg (by simp; omega)], by simp; intro h; omega⟩
theorem Af9.val (s : List Int) (hs : s.length ≤ 1048576) : ∃ v, Af9.F (s, ()) = some ((v, ()), ()) /\ (v = true ↔ A0U s) := by
 obtain ⟨v1, h1, h1'⟩ := Ab7.val s 0 9 (by omega);rw [Af9.eq, Af9.T, h1, Ac4.val];simp only [Option.bind_some];unfold A0U;by_cases g : 1 ≤ (s.length : Int) /\ (s.length : Int) ≤ 4
 . rw [if_pos (by simp only [decide_eq_true_eq]; exact g)];exact ⟨v1, rfl, h1'.trans ⟨fun h => ⟨by omega, h⟩, fun h => h.2⟩⟩
 . exact ⟨false, by rw [if_neg (by simp only [decide_eq_true_eq]; exact g)], by simp; intro a b; omega⟩
theorem Aa1.val (c : List (List Int)) (h : SmL c) : ∃ v, Aa1.F (c, ()) = some ((v, ()), ()) /\ (v = true ↔ CplxOk c) := by
 by_cases hn : c.length ≤ 48
 . obtain ⟨v, hv, hv'⟩ := Ev.loop (σ := Unit) (R := (Bool × Unit) × Unit) (fun k i _ => Aa1.l4 k c (i : Int)) c.length (fun i _ => ∀ j, j < i -> A0U (c.getD j []) /\ (0 < j -> cmpS (c.getD (j - 1) []) (c.getD j []) < 0) /\ (1 < (c.getD j []).length -> ∀ k, k < (c.getD j []).length -> A0v (c.getD j []) k ∈ c)) (fun r => ∃ v, r = ((v, ()), ()) /\ (v = true ↔ CplxOk c))
     (fun i _ hi hI => by
       have hsm : (c.getD i []).length ≤ 1048576 := h.2 _ (A0y _ hi);obtain ⟨s, hs⟩ : ∃ s, c.getD i [] = s := ⟨_, rfl⟩;have E := fun k => Aa1.l4_eq k c (i : Int);obtain ⟨b, hb, hb'⟩ := Af9.val s (hs ▸ hsm);rw [hs] at hsm;simp only [if_pos (ltI.2 hi), if_pos (idxI.2 hi), Int.toNat_natCast, hs, hb, Option.bind_some] at E;have bad : (¬ (A0U s /\ (0 < i -> cmpS (c.getD (i - 1) []) s < 0) /\ (1 < s.length -> ∀ k, k < s.length -> A0v s k ∈ c))) -> ∃ v, (((false, ()), ()) : (Bool × Unit) × Unit) = ((v, ()), ()) /\ (v = true ↔ CplxOk c) := fun hno => ⟨false, rfl, by simp; intro hc; exact hno (by have := hc.2 i hi; rw [hs] at this; exact this)⟩;cases b with
       | false => exact .inl ⟨_, (Ev.const _).succ fun k => by rw [E]; rfl, bad fun hc => absurd (hb'.2 hc.1) (by simp)⟩
       | true =>
         have hsimp := hb'.1 rfl;simp only [Bool.not_true, Bool.false_eq_true, if_false] at E;have inner : (∃ r, Ev (fun k => Aa1.l10 k c (i : Int) s ((0 : Nat) : Int)) r /\ r = ((false, ()), ()) /\ ¬ (1 < s.length -> ∀ k, k < s.length -> A0v s k ∈ c)) ∨ ((1 < s.length -> ∀ k, k < s.length -> A0v s k ∈ c) /\ Goes (fun k => Aa1.l10 k c (i : Int) s ((0 : Nat) : Int)) (fun k => Aa1.l4 k c ((i + 1 : Nat) : Int))) := by
           by_cases h1 : 1 < s.length
           . by_cases hall : ∀ k, k < s.length -> A0v s k ∈ c
             . refine .inr ⟨fun _ => hall, ?_⟩;obtain ⟨_, _, hg⟩ := Goes.loop (σ := Unit) (R := (Bool × Unit) × Unit) (fun k j _ => Aa1.l10 k c (i : Int) s (j : Int)) s.length (fun _ _ => True) (fun j _ hj _ => ⟨(), trivial, Goes.succ fun k => by
                 obtain ⟨r, hr, hr'⟩ := Ab4.val c (A0v s j) h;rw [Aa1.l10_eq, if_pos (ltI.2 hj), if_pos (by simp; omega), Ab9.val s j hj hsm];simp only [Option.bind_some, hr];rw [if_neg (by simp only [decide_eq_true_eq, hr']; exact fun hh => hh (hall j hj)), A0j (by omega)]⟩) 0 () (Nat.zero_le _) trivial
               exact hg.trans (Goes.succ fun k => by rw [Aa1.l10_eq, if_neg (by simp), A0j (by omega)])
             . left;obtain ⟨v, hv, hv'⟩ := Ev.loop (σ := Unit) (R := (Bool × Unit) × Unit) (fun k j _ => Aa1.l10 k c (i : Int) s (j : Int)) s.length (fun j _ => ∀ k, k < j -> A0v s k ∈ c) (fun r => r = ((false, ()), ())) (fun j _ hj hJ => by
                 obtain ⟨r, hr, hr'⟩ := Ab4.val c (A0v s j) h;have E2 := fun k => Aa1.l10_eq k c (i : Int) s (j : Int);simp only [if_pos (ltI.2 hj), if_pos (show decide ((s.length : Int) > 1) = true by simp; omega), Ab9.val s j hj hsm, Option.bind_some, hr, A0j (show j < 4611686018427387904 by omega)] at E2;by_cases hd : A0v s j ∈ c
                 . refine .inr ⟨(), fun k hk => ?_, Goes.succ fun k => by rw [E2, if_neg (by simp only [decide_eq_true_eq, hr']; exact fun hh => hh hd)]⟩;by_cases hkj : k = j
                   . rw [hkj]; exact hd
                   . exact hJ k (by omega)
                 . exact .inl ⟨_, (Ev.const _).succ fun k => by rw [E2, if_pos (by simp only [decide_eq_true_eq, hr']; exact hd)], rfl⟩) (fun _ hJ => absurd hJ hall) 0 () (Nat.zero_le _) (by intro k hk; omega)
               exact ⟨v, hv, hv', fun hh => hall (hh h1)⟩
           . refine .inr ⟨fun hh => absurd hh h1, Goes.succ fun k => ?_⟩;rw [Aa1.l10_eq];by_cases h0 : (0 : Nat) < s.length
             . rw [if_pos (ltI.2 h0), if_neg (by simp; omega), A0j (by omega)]
             . rw [if_neg (by simp only [decide_eq_true_eq]; omega), A0j (by omega)]
         have pre : ((0 < i -> cmpS (c.getD (i - 1) []) s < 0) /\ ∀ k, Aa1.l4 (k + 1) c (i : Int) = Aa1.l10 k c (i : Int) s ((0 : Nat) : Int)) ∨ ((∀ k, Aa1.l4 (k + 1) c (i : Int) = some ((false, ()), ())) /\ ¬ (0 < i -> cmpS (c.getD (i - 1) []) s < 0)) := by
           by_cases h0 : 0 < i
           . have h1 : i - 1 < c.length := by omega
             simp only [if_pos (show decide ((i : Int) > 0) = true by simp; omega), A1S h0 (show i < 4611686018427387904 by omega), if_pos (idxI.2 h1), Int.toNat_natCast, Aa8.val _ s (h.2 _ (A0y _ h1)), Option.bind_some] at E;by_cases hlt : cmpS (c.getD (i - 1) []) s < 0
             . exact .inl ⟨fun _ => hlt, fun k => by rw [E, if_neg (by simp only [decide_eq_true hlt]; simp)]; rfl⟩
             . exact .inr ⟨fun k => by rw [E, if_pos (by simp only [decide_eq_false hlt]; rfl)], fun hh => hlt (hh h0)⟩
           . simp only [if_neg (show ¬ decide ((i : Int) > 0) = true by simp; omega)] at E;exact .inl ⟨fun h => absurd h h0, fun k => by rw [E]; rfl⟩
         rcases pre with ⟨hlt, E3⟩ | ⟨E4, hno⟩
         . rcases inner with ⟨r, hr, rfl, hno⟩ | ⟨hyes, hg⟩
           . exact .inl ⟨_, hr.succ E3, bad fun hc => hno hc.2.2⟩
           . refine .inr ⟨(), fun j hj => ?_, (Goes.succ E3).trans hg⟩;by_cases hji : j = i
             . rw [hji, hs]; exact ⟨hsimp, hlt, hyes⟩
             . exact hI j (by omega)
         . exact .inl ⟨_, (Ev.const _).succ E4, bad fun hc => hno hc.2.1⟩)
     (fun _ hI => ⟨_, (Ev.const _).succ fun k => by rw [Aa1.l4_eq, if_neg (by simp)], true, rfl, by simp; exact ⟨hn, hI⟩⟩) 0 () (Nat.zero_le _) (by intro j hj; omega)
   obtain ⟨b, rfl, hb⟩ := hv';exact ⟨b, Aa1.of _ (hv.of_eq fun k => by rw [Aa1.T, if_neg (by simp; omega)]; rfl), hb⟩
 . exact ⟨false, Aa1.of _ ((Ev.const _).of_eq fun k => by rw [Aa1.T, if_pos (by simp; omega)]), by simp; intro hc; exact hn hc.1⟩
def both (a b : List (List Int)) : List (List Int) := a.filter fun s => decide (s ∈ b)
theorem A1B {a : List (List Int)} (b : List (List Int)) (h : SmL a) : SmL (both a b) :=
 ⟨Nat.le_trans (List.length_filter_le _ _) h.1, fun x hx => h.2 x (List.mem_filter.1 hx).1⟩
theorem A0t {a : List (List Int)} (b : List (List Int)) (h : A0B a) : A0B (both a b) := sortedS_pw.2 ((sortedS_pw.1 h).sublist List.filter_sublist)
theorem A1F (a b : List (List Int)) {i : Nat} (hi : i < a.length) : both (a.take (i + 1)) b = both (a.take i) b ++ (if a.getD i [] ∈ b then [a.getD i []] else []) := by
 rw [both, both, List.take_add_one, List.getElem?_eq_getElem hi, Option.toList_some, List.filter_append, A0z hi];congr 1;by_cases h : a[i] ∈ b <;> simp [h]
theorem A0g (a b : List (List Int)) (i : Nat) : (both (a.take i) b).length ≤ i := Nat.le_trans (List.length_filter_le _ _) (by simp; omega)
theorem Ac8.val (a : List (List Int)) (f : List Int × Unit -> Option (Bool × Unit)) (b : List (List Int)) (ha : SmL a) (hf : ∀ s ∈ a, f (s, ()) = some (decide (s ∈ b), ())) (hs : A0B a) :
   Ac8.F (a, f, ()) = some ((both a b, ()), ()) := by
 have hn := ha.1;refine Ac8.of _ _ ?_;obtain ⟨s, hs', hg⟩ := Goes.loop (R := ((List (List Int) × Unit) × Unit)) (fun k i (x : List (List Int)) => Ac8.l3 k f a (a.length : Int) (i : Int) [] x) a.length (fun i x => x = both (a.take i) b) (fun i x hi h2 => ⟨_, rfl, Goes.succ fun k => by
   have hl := A0g a b i;rw [Ac8.l3_eq, if_pos (ltI.2 hi), if_pos (idxI.2 hi)];simp only [Int.toNat_natCast, hf _ (A0y [] hi), Option.bind_some];rw [A1F a b hi, A0j (by omega), <- h2];by_cases hm : a.getD i [] ∈ b
   . rw [if_pos (decide_eq_true hm), if_pos (by rw [h2]; simp only [List.length_cons, List.length_nil, bigA]; omega), if_pos hm]
   . rw [if_neg (fun hh => hm (of_decide_eq_true hh)), if_neg hm, List.append_nil]⟩) 0 [] (Nat.zero_le _) rfl
 rw [List.take_of_length_le (Nat.le_refl _)] at hs';refine Ev.of_eq (hg _ ((Ev.const _).succ fun k => ?_)) fun k => rfl;rw [Ac8.l3_eq, if_neg (by simp), hs', Ab1.same _ (A1B b ha) (A0t b hs)]; rfl
theorem mem_faces {s f : List Int} : f ∈ A0A s ↔ 1 < s.length /\ ∃ k, k < s.length /\ A0v s k = f := by
 unfold A0A;by_cases h : 1 < s.length
 . rw [if_pos h]; simp [h]
 . rw [if_neg h]; simp [h]
theorem A0b {c : List (List Int)} {i m : Nat} (h : m < i) : (c.take i).getD m [] = c.getD m [] := by
 simp only [List.getD_eq_getElem?_getD, List.getElem?_take, h, if_true]
theorem A1x {c : List (List Int)} {i m : Nat} (h : m < i) (hm : m < c.length) : c.getD m [] ∈ c.take i := by
 rw [<- A0b h];exact A0y [] (by simp; omega)
def OkAt (c : List (List Int)) (j : Nat) : Prop := A0U (c.getD j []) /\ (0 < j -> cmpS (c.getD (j - 1) []) (c.getD j []) < 0) /\ ∀ f ∈ A0A (c.getD j []), f ∈ c.take j
theorem A1R (c : List (List Int)) : (c.length ≤ 48 /\ ∀ j, j < c.length -> OkAt c j) ↔ CplxOk c := by
 constructor
 . rintro ⟨h1, h2⟩;refine ⟨h1, fun i hi => ⟨(h2 i hi).1, (h2 i hi).2.1, fun hl k hk => List.mem_of_mem_take ((h2 i hi).2.2 _ (mem_faces.2 ⟨hl, k, hk, rfl⟩))⟩⟩
 . intro h;refine ⟨h.1, fun j hj => ⟨(h.2 j hj).1, (h.2 j hj).2.1, fun f hf => ?_⟩⟩;obtain ⟨hl, k, hk, rfl⟩ := mem_faces.1 hf;have hm := (h.2 j hj).2.2 hl k hk;obtain ⟨m, hm1, e⟩ := List.getElem_of_mem hm;have e' : c.getD m [] = A0v (c.getD j []) k := by rw [A0z hm1]; exact e
   have hlen := A0R hk;have hshort : cmpS (A0v (c.getD j []) k) (c.getD j []) < 0 := A1C (by omega);by_cases hmj : m < j
   . rw [<- e']; exact A1x hmj hm1
   . exfalso;by_cases hmj2 : m = j
     . rw [hmj2] at e';rw [<- e', (A0C _ _).2 rfl] at hshort; omega
     . have h3 := h.sorted j m (by omega) hm1;rw [e'] at h3;have := A0L _ _ _ hshort h3;rw [(A0C _ _).2 rfl] at this; omega
theorem Ac0.val (c : List (List Int)) (h : SmL c) : ∃ v, Ac0.F (c, ()) = some ((v, ()), ()) /\ (v = true ↔ CplxOk c) := by
 have hn := h.1;obtain ⟨v, hv, hv'⟩ := Ev.loop (σ := Unit) (R := (Bool × Unit) × Unit) (fun k i _ => Ac0.l2 k c c.length (i : Int) c) c.length (fun i _ => ∀ j, j < i -> OkAt c j) (fun r => ∃ v, r = ((v, ()), ()) /\ (v = true ↔ c.length ≤ 48 /\ ∀ j, j < c.length -> OkAt c j))
   (fun i _ hi hI => by
     have hsm : (c.getD i []).length ≤ 1048576 := h.2 _ (A0y _ hi);have hsorted : A0B (c.take i) := A0f fun m h0 hm => by
       have hm' : m < i := by simp at hm; omega
       rw [A0b (by omega), A0b hm'];exact (hI m hm').2.1 h0
     have hsmall : SmL (c.take i) := ⟨by simp; omega, fun x hx => h.2 x (List.mem_of_mem_take hx)⟩;have hclo : ∀ f : List Int, f.length ≤ 1048576 -> Ae9.cloG (c, (i : Int), ()) (f, ()) = some (decide (f ∉ c.take i), ()) := fun f hf => by
       show (Ae9.F (f, c, (i : Int), ())).map (·.1) = _;obtain ⟨r, hr, hr'⟩ := Af2.val (c.take i) f hsorted hsmall hf;rw [Ae9.eq, Ae9.T, if_pos (by omega)];have : cutL c (0 : Int) (i : Int) = c.take i := by simp [cutL]
       rw [this, hr];simp only [Option.bind_some, Option.map_some, hr']
     obtain ⟨s, hs⟩ : ∃ s, c.getD i [] = s := ⟨_, rfl⟩;have E := fun k => Ac0.l2_eq k c c.length (i : Int) c;obtain ⟨b, hb, hb'⟩ := Af0.val s (hs ▸ hsm);rw [hs] at hsm;have hfl : ∀ f ∈ A0A s, f.length ≤ 1048576 := fun f hf => by
       obtain ⟨_, k, hk, rfl⟩ := mem_faces.1 hf;have := A0R hk; omega
     have hcf := Ae4.val (A0A s) (Ae9.cloG (c, (i : Int), ())) (fun f => decide (f ∉ c.take i)) (fun f hf => hclo f (hfl f hf)) (by
       unfold A0A; split
       . simp; omega
       . simp)
     simp only [if_pos (ltI.2 hi), if_pos (idxI.2 hi), Int.toNat_natCast, hs, hb, Option.bind_some, Aa6.val s hsm, hcf, A0j (show i < 4611686018427387904 by omega)] at E;have bad : ¬ OkAt c i -> ∃ v, (((false, ()), ()) : (Bool × Unit) × Unit) = ((v, ()), ()) /\ (v = true ↔ c.length ≤ 48 /\ ∀ j, j < c.length -> OkAt c j) := fun hno => ⟨false, rfl, by simp only [Bool.false_eq_true, false_iff]; exact fun hc => hno (hc.2 i hi)⟩;cases b with
     | false => exact .inl ⟨_, (Ev.const _).succ fun k => by rw [E]; rfl, bad fun hc => absurd (hb'.2 (hs ▸ hc.1)) (by simp)⟩
     | true =>
       have hsimp := hb'.1 rfl;simp only [Bool.not_true, Bool.false_eq_true, if_false] at E;have pre : ((0 < i -> cmpS (c.getD (i - 1) []) s < 0) /\ ∀ k, Ac0.l2 (k + 1) c c.length (i : Int) c = if ((A0A s).any fun f => decide (f ∉ c.take i)) = true then some ((false, ()), ()) else Ac0.l2 k c c.length ((i + 1 : Nat) : Int) c) ∨ ((∀ k, Ac0.l2 (k + 1) c c.length (i : Int) c = some ((false, ()), ())) /\ ¬ (0 < i -> cmpS (c.getD (i - 1) []) s < 0)) := by
         by_cases h0 : 0 < i
         . have h1 : i - 1 < c.length := by omega
           simp only [if_pos (show decide ((i : Int) > 0) = true by simp; omega), A1S h0 (show i < 4611686018427387904 by omega), if_pos (idxI.2 h1), Int.toNat_natCast, Aa2.val _ s (h.2 _ (A0y _ h1)) hsm, Option.bind_some] at E;by_cases hlt : cmpS (c.getD (i - 1) []) s < 0
           . exact .inl ⟨fun _ => hlt, fun k => by rw [E, if_neg (by simp only [decide_eq_true_eq]; omega)]⟩
           . exact .inr ⟨fun k => by rw [E, if_pos (by simp only [decide_eq_true_eq]; omega)], fun hh => hlt (hh h0)⟩
         . simp only [if_neg (show ¬ decide ((i : Int) > 0) = true by simp; omega)] at E;exact .inl ⟨fun h => absurd h h0, fun k => by rw [E]⟩
       rcases pre with ⟨hlt, E3⟩ | ⟨E4, hno⟩
       . by_cases hf : ∀ f ∈ A0A s, f ∈ c.take i
         . refine .inr ⟨(), fun j hj => ?_, Goes.succ fun k => by rw [E3, if_neg (by simp only [List.any_eq_true, decide_eq_true_eq, not_exists, not_and, Classical.not_not]; exact hf)]⟩;by_cases hji : j = i
           . rw [hji]; exact ⟨hs ▸ hsimp, fun h0 => by rw [hs]; exact hlt h0, fun f hff => hf f (hs ▸ hff)⟩
           . exact hI j (by omega)
         . refine .inl ⟨_, (Ev.const _).succ fun k => by rw [E3, if_pos (by simp only [List.any_eq_true, decide_eq_true_eq]; simpa using hf)], bad fun hc => hf fun f hff => hc.2.2 f (hs ▸ hff)⟩
       . exact .inl ⟨_, (Ev.const _).succ E4, bad fun hc => hno (by have := hc.2.1; rw [hs] at this; exact this)⟩)
   (fun _ hI => ⟨_, (Ev.const _).succ fun k => by rw [Ac0.l2_eq, if_neg (by simp)], _, rfl, by simp only [decide_eq_true_eq]; exact ⟨fun h1 => ⟨by omega, hI⟩, fun h1 => by omega⟩⟩) 0 () (Nat.zero_le _) (by intro j hj; omega)
 obtain ⟨b, rfl, hb⟩ := hv';exact ⟨b, Ac0.of _ (hv.of_eq fun k => rfl), hb.trans (A1R c)⟩
def A0w (A : List Int -> Prop) : Prop := ∀ t, A t -> 1 < t.length -> ∀ k, k < t.length -> A (A0v t k)
def insN (c : List (List Int)) (s : List Int) : Nat := c.findIdx fun t => !decide (cmpS t s < 0)
def insS (c : List (List Int)) (s : List Int) : List (List Int) := c.take (insN c s) ++ [s] ++ c.drop (insN c s)
theorem A0X (c : List (List Int)) (s : List Int) : insN c s ≤ c.length /\ (∀ i, i < insN c s -> cmpS (c.getD i []) s < 0) /\ (insN c s < c.length -> ¬ cmpS (c.getD (insN c s) []) s < 0) := by
 unfold insN;have hle : c.findIdx (fun t => !decide (cmpS t s < 0)) ≤ c.length := List.findIdx_le_length;refine ⟨hle, fun i hi => ?_, fun h => ?_⟩
 . have := List.not_of_lt_findIdx hi;rw [<- A0z (d := []) (by omega)] at this;simpa using this
 . have h3 := List.findIdx_getElem (w := h) (p := fun t => !decide (cmpS t s < 0)) (xs := c);rw [<- A0z (d := []) h] at h3;simpa using h3
theorem A0k (c : List (List Int)) (s t : List Int) : t ∈ insS c s ↔ t = s ∨ t ∈ c := by
 unfold insS;have h : t ∈ c ↔ t ∈ c.take (insN c s) ∨ t ∈ c.drop (insN c s) := by
   rw [<- List.mem_append, List.take_append_drop]
 simp only [List.mem_append, List.mem_cons, List.not_mem_nil, or_false, h]
 grind
theorem A1A (c : List (List Int)) (s : List Int) : (insS c s).length = c.length + 1 := by
 have := (A0X c s).1;simp [insS]; omega
theorem A1I {c : List (List Int)} {s : List Int} (h : c.Pairwise LtS) (hs : s ∉ c) : (insS c s).Pairwise LtS := by
 obtain ⟨n1, n2, n3⟩ := A0X c s;have hlt : ∀ t ∈ c.take (insN c s), LtS t s := fun t ht => by
   obtain ⟨i, hi, rfl⟩ := List.getElem_of_mem ht;rw [List.length_take] at hi;have := n2 i (by omega);rw [A0z (by omega), <- A0Z] at this;rw [List.getElem_take]; exact this
 have hge : ∀ t ∈ c.drop (insN c s), LtS s t := fun t ht => by
   obtain ⟨i, hi, rfl⟩ := List.getElem_of_mem ht;rw [List.length_drop] at hi;rw [List.getElem_drop];have h0 : insN c s < c.length := by omega
   have hn := n3 h0;rw [A0z h0, <- A0Z] at hn;have hfirst : LtS s c[insN c s] := LtS.of_le hn fun e => hs (e ▸ List.getElem_mem h0);cases i with
   | zero => exact hfirst
   | succ i => exact a6t _ _ _ hfirst ((List.pairwise_iff_getElem.1 h) _ _ h0 (by omega) (by omega))
 unfold insS;rw [List.append_assoc, List.pairwise_append];refine ⟨h.sublist (List.take_sublist _ _), ?_, fun t ht u hu => ?_⟩
 . rw [List.singleton_append, List.pairwise_cons];exact ⟨hge, h.sublist (List.drop_sublist _ _)⟩
 . simp only [List.singleton_append, List.mem_cons] at hu;rcases hu with rfl | hu
   . exact hlt t ht
   . exact a6t _ _ _ (hlt t ht) (hge u hu)
open Classical in
noncomputable def putF : Nat -> List (List Int) -> List Int -> List (List Int)
 | 0, c, _ => c
 | n + 1, c, s => if s ∈ c then c else insS (if 1 < s.length then (List.range s.length).foldl (fun x k => putF n x (A0v s k)) c else c) s
def putB : Nat -> Nat
 | 0 => 0
 | n + 1 => (n + 1) * putB n + 1
structure PutOk (c : List (List Int)) (s : List Int) (B : Nat) (x : List (List Int)) : Prop where
 pw : x.Pairwise LtS
 cl : A0w (· ∈ x)
 sub : ∀ t ∈ c, t ∈ x
 has : s ∈ x
 least : ∀ A : List Int -> Prop, A0w A -> A s -> (∀ t ∈ c, A t) -> ∀ t ∈ x, A t
 len : x.length ≤ c.length + B
structure FoldOk (c : List (List Int)) (s : List Int) (B i : Nat) (x : List (List Int)) : Prop where
 pw : x.Pairwise LtS
 cl : A0w (· ∈ x)
 sub : ∀ t ∈ c, t ∈ x
 has : ∀ j, j < i -> A0v s j ∈ x
 least : ∀ A : List Int -> Prop, A0w A -> (∀ j, j < s.length -> A (A0v s j)) -> (∀ t ∈ c, A t) -> ∀ t ∈ x, A t
 len : x.length ≤ c.length + i * B
theorem A0q {s : List Int} {k : Nat} (h : k < s.length) : (A0v s k).length = s.length - 1 := by
 unfold A0v;rw [List.length_append, List.length_take, List.length_drop]; omega
theorem A1H {c : List (List Int)} {s : List Int} {n : Nat} (hs : s.length = n + 1) (hc : c.Pairwise LtS) (hcl : A0w (· ∈ c)) (ih : ∀ (c : List (List Int)) (u : List Int), u.length = n -> c.Pairwise LtS -> A0w (· ∈ c) -> PutOk c u (putB n) (putF n c u)) :
   ∀ i, i ≤ s.length -> FoldOk c s (putB n) i ((List.range i).foldl (fun x k => putF n x (A0v s k)) c) := by
 intro i;induction i with
 | zero => intro _; exact ⟨hc, hcl, fun t h => h, fun j hj => by omega, fun A _ _ h => h, by simp⟩
 | succ i ihi =>
   intro hi;have F := ihi (by omega);rw [List.range_succ, List.foldl_append];simp only [List.foldl_cons, List.foldl_nil];have P := ih _ (A0v s i) (by rw [A0q (by omega)]; omega) F.pw F.cl;refine ⟨P.pw, P.cl, fun t h => P.sub t (F.sub t h), fun j hj => ?_, fun A hA hd h => P.least A hA (hd i (by omega)) (F.least A hA hd h), ?_⟩
   . by_cases e : j = i
     . subst e; exact P.has
     . exact P.sub _ (F.has j (by omega))
   . have := P.len;have := F.len;rw [Nat.add_mul, Nat.one_mul]; omega
theorem A1v : ∀ (n : Nat) (c : List (List Int)) (s : List Int), s.length = n -> 1 ≤ n -> c.Pairwise LtS -> A0w (· ∈ c) -> PutOk c s (putB n) (putF n c s)
 | 0, _, _, _, h, _, _ => by omega
 | n + 1, c, s, hs, _, hc, hcl => by
   unfold putF;by_cases hm : s ∈ c
   . rw [if_pos hm];exact ⟨hc, hcl, fun t h => h, hm, fun A _ _ h => h, by omega⟩
   . rw [if_neg hm];by_cases h1 : 1 < s.length
     . rw [if_pos h1];have F := A1H hs hc hcl (fun c u hu hc hcl => A1v n c u hu (by omega) hc hcl) s.length (Nat.le_refl _);generalize (List.range s.length).foldl (fun x k => putF n x (A0v s k)) c = x at F;have hnx : s ∉ x := fun hx => by
         have := F.least (fun t => t ∈ c ∨ t.length < s.length) (fun t ht h1 k hk => ht.elim (fun h => .inl (hcl t h h1 k hk)) fun h => .inr (by rw [A0q hk]; omega)) (fun j hj => .inr (by rw [A0q hj]; omega)) (fun t h => .inl h) s hx;rcases this with h | h
         . exact hm h
         . omega
       refine ⟨A1I F.pw hnx, fun t ht h2 k hk => ?_, fun t h => (A0k _ _ _).2 (.inr (F.sub t h)), (A0k _ _ _).2 (.inl rfl), fun A hA hAs h t ht => ?_, ?_⟩
       . refine (A0k _ _ _).2 (.inr ?_);rcases (A0k _ _ _).1 ht with rfl | ht
         . exact F.has k hk
         . exact F.cl t ht h2 k hk
       . rcases (A0k _ _ _).1 ht with rfl | ht
         . exact hAs
         . exact F.least A hA (fun j hj => hA s hAs h1 j hj) h t ht
       . have := F.len;rw [A1A, putB, <- hs]; omega
     . rw [if_neg h1];refine ⟨A1I hc hm, fun t ht h2 k hk => ?_, fun t h => (A0k _ _ _).2 (.inr h), (A0k _ _ _).2 (.inl rfl), fun A hA hAs h t ht => ?_, ?_⟩
       . refine (A0k _ _ _).2 (.inr ?_);rcases (A0k _ _ _).1 ht with rfl | ht
         . omega
         . exact hcl t ht h2 k hk
       . rcases (A0k _ _ _).1 ht with rfl | ht
         . exact hAs
         . exact h t ht
       . rw [A1A, putB];have : 0 ≤ (n + 1) * putB n := Nat.zero_le _;omega
theorem A0S : A0w (fun t => t.length ≤ 4) := fun t ht _ k hk => by
 have h : t.length ≤ 4 := ht;show (A0v t k).length ≤ 4;rw [A0q hk]; omega
theorem A1M (self : (List (List Int) × List Int × Unit) -> Option (Unit × (List (List Int) × Unit))) (c : List (List Int)) (s : List Int) (hc : ∀ t ∈ c, t.length ≤ 4) (hn : c.length ≤ 1048576) (hs : s.length ≤ 4) :
   Ev (fun k => Aa0.l6 self k s 0 c) ((), (insS c s, ())) := by
 obtain ⟨n1, n2, n3⟩ := A0X c s;have hb : ∀ i, i < c.length -> Aa8.F (c.getD i [], s, ()) = some ((decide (cmpS (c.getD i []) s < 0), ()), ()) := fun i hi => Aa8.val _ _ (by have := hc _ (A0y [] hi); omega);obtain ⟨u, -, hg⟩ := Goes.loop (R := Unit × (List (List Int) × Unit)) (fun k i (_ : Unit) => Aa0.l6 self k s (i : Int) c) (insN c s) (fun _ _ => True) (fun i u hi _ => ⟨(), trivial, Goes.succ fun k => by
   rw [Aa0.l6_eq, if_pos (ltI.2 (by omega)), if_pos (idxI.2 (by omega))];simp only [Int.toNat_natCast, hb i (by omega), Option.bind_some];rw [if_pos (by simpa using n2 i hi), A0j (by omega)]⟩) 0 () (Nat.zero_le _) trivial
 have e1 : cutL c (0 : Int) ((insN c s : Nat) : Int) = c.take (insN c s) := by simp [cutL]
 have e2 : cutL c ((insN c s : Nat) : Int) (c.length : Int) = c.drop (insN c s) := by simp [cutL]
 refine hg _ ((Ev.const _).succ fun k => ?_);have b1 : ([] : List (List Int)).length + (c.take (insN c s)).length ≤ bigA := by simp only [List.length_nil, List.length_take, bigA]; omega
 have b2 : (([] : List (List Int)) ++ c.take (insN c s)).length + [s].length ≤ bigA := by simp only [List.nil_append, List.length_cons, List.length_nil, List.length_take, bigA]; omega
 have b3 : ((([] : List (List Int)) ++ c.take (insN c s)) ++ [s]).length + (c.drop (insN c s)).length ≤ bigA := by simp only [List.nil_append, List.length_append, List.length_cons, List.length_nil, List.length_take, List.length_drop, bigA]; omega
 rw [Aa0.l6_eq];by_cases hlt : insN c s < c.length
 . rw [if_pos (ltI.2 hlt), if_pos (idxI.2 hlt)];simp only [Int.toNat_natCast, hb _ hlt, Option.bind_some];rw [if_neg (by simpa using n3 hlt), if_pos (by omega), e1, if_pos b1, Aa3.val _ (by omega)];simp only [Option.bind_some];rw [if_pos b2, if_pos (by omega), e2, if_pos b3];simp only [List.nil_append]; rfl
 . rw [if_neg (by simp only [decide_eq_true_eq]; omega), if_pos (by omega), e1, if_pos b1, Aa3.val _ (by omega)];simp only [Option.bind_some];rw [if_pos b2, if_pos (by omega), e2, if_pos b3];simp only [List.nil_append]; rfl
theorem A1L {n : Nat} (h : n ≤ 4) : putB n ≤ 41 := by
 have : n = 0 ∨ n = 1 ∨ n = 2 ∨ n = 3 ∨ n = 4 := by omega
 rcases this with rfl | rfl | rfl | rfl | rfl <;> decide
theorem A1N : ∀ (n : Nat) (c : List (List Int)) (s : List Int), s.length = n -> 1 ≤ n -> n ≤ 4 -> c.Pairwise LtS -> A0w (· ∈ c) -> (∀ t ∈ c, t.length ≤ 4) -> c.length + 100 * n ≤ 1000000 -> ∀ q, n ≤ q -> Aa0.R q (c, s, ()) = some ((), (putF n c s, ()))
 | 0, _, _, _, h, _, _, _, _, _, _, _ => by omega
 | n + 1, c, s, hs, _, hn4, hc, hcl, h4, hlen, q, hq => by
   obtain ⟨q, rfl⟩ : ∃ q', q = q' + 1 := ⟨q - 1, by omega⟩;show Aa0.step (Aa0.R q) (c, s, ()) = _;have hsm : SmL c := ⟨by omega, fun t ht => by have := h4 t ht; unfold Sm; omega⟩;obtain ⟨r, f1, f2⟩ := Ab4.val c s hsm;refine Aa0.of (Aa0.R q) c s ?_;unfold putF;by_cases hm : s ∈ c
   . rw [if_pos hm];refine (Ev.const _).of_eq fun k => ?_;rw [Aa0.T, f1];simp only [Option.bind_some];rw [if_pos (by simp only [decide_eq_true_eq]; have : ¬ r < 0 := fun h => f2.1 h hm; omega)]
   . have hr : r < 0 := f2.2 hm;rw [if_neg hm];have start : ∀ k, Aa0.T (Aa0.R q) k c s = Aa0.l2 (Aa0.R q) k s 0 c := fun k => by
       rw [Aa0.T, f1];simp only [Option.bind_some];rw [if_neg (by simp only [decide_eq_true_eq]; omega)]
     by_cases h1 : 1 < s.length
     . rw [if_pos h1];have hn1 : 1 ≤ n := by omega
       have F := A1H hs hc hcl (fun c u hu hc hcl => A1v n c u hu hn1 hc hcl);have hB := A1L (n := n) (by omega);have hsmall : ∀ i, i ≤ s.length -> ∀ t ∈ (List.range i).foldl (fun x k => putF n x (A0v s k)) c, t.length ≤ 4 := fun i hi => (F i hi).least (fun t => t.length ≤ 4) A0S (fun j hj => by rw [A0q hj]; omega) h4;have hlen2 : ∀ i, i ≤ s.length -> ((List.range i).foldl (fun x k => putF n x (A0v s k)) c).length ≤ c.length + i * putB n := fun i hi => (F i hi).len;have hB4 : n ≤ 3 := by omega
       have hB10 : putB n ≤ 10 := by
         have : n = 1 ∨ n = 2 ∨ n = 3 := by omega
         rcases this with rfl | rfl | rfl <;> decide
       have hmul : ∀ i, i ≤ s.length -> i * putB n ≤ 40 := fun i hi => Nat.le_trans (Nat.mul_le_mul (show i ≤ 4 by omega) hB10) (by omega);obtain ⟨x, hx, hg⟩ := Goes.loop (R := Unit × (List (List Int) × Unit)) (fun k i (x : List (List Int)) => Aa0.l2 (Aa0.R q) k s (i : Int) x) s.length (fun i x => x = (List.range i).foldl (fun x k => putF n x (A0v s k)) c) (fun i x hi h2 => ⟨_, rfl, Goes.succ fun k => by
         have Fi := F i (by omega);have hl := hlen2 i (by omega);have hm2 := hmul i (by omega);rw [<- h2] at Fi hl;have hsi := hsmall i (by omega);rw [<- h2] at hsi;have hrec := A1N n x (A0v s i) (by rw [A0q hi]; omega) hn1 (by omega) Fi.pw Fi.cl hsi (by omega) q (by omega);rw [Aa0.l2_eq, if_pos (ltI.2 hi), if_pos (by simp only [decide_eq_true_eq]; omega), Ab9.val s i hi (by omega)];simp only [Option.bind_some, hrec];rw [A0j (by omega), h2, List.range_succ, List.foldl_append];rfl⟩) 0 c (Nat.zero_le _) rfl
       have hl := hlen2 s.length (Nat.le_refl _);have hm2 := hmul s.length (Nat.le_refl _);have hsi := hsmall s.length (Nat.le_refl _);rw [<- hx] at hl hsi ⊢;refine Ev.of_eq (hg _ ((A1M (Aa0.R q) x s hsi (by omega) (by omega)).succ fun k => ?_)) start;rw [Aa0.l2_eq, if_neg (by simp)]
     . rw [if_neg h1];refine Ev.of_eq ((A1M (Aa0.R q) c s h4 (by omega) (by omega)).succ (M := fun k => Aa0.l2 (Aa0.R q) k s 0 c) fun k => ?_) start;rw [Aa0.l2_eq, if_pos (by simp only [decide_eq_true_eq]; omega), if_neg (by simp only [decide_eq_true_eq]; omega)]
theorem Aa0.val {c : List (List Int)} {s : List Int} (h1 : 1 ≤ s.length) (h4 : s.length ≤ 4) (hc : c.Pairwise LtS) (hcl : A0w (· ∈ c)) (hc4 : ∀ t ∈ c, t.length ≤ 4) (hlen : c.length ≤ 999000) : Aa0.F (c, s, ()) = some ((), (putF s.length c s, ())) :=
 Aa0.ofR ⟨s.length, fun q hq => A1N s.length c s rfl h1 h4 hc hcl hc4 (by omega) q hq⟩
noncomputable def A0u (l : List (List Int)) : List (List Int) := l.foldl (fun c s => putF s.length c s) []
structure CloOk (l : List (List Int)) (x : List (List Int)) : Prop where
 pw : x.Pairwise LtS
 cl : A0w (· ∈ x)
 has : ∀ s ∈ l, s ∈ x
 least : ∀ A : List Int -> Prop, A0w A -> (∀ s ∈ l, A s) -> ∀ t ∈ x, A t
 len : x.length ≤ 41 * l.length
theorem A1z : ∀ (l : List (List Int)), (∀ s ∈ l, 1 ≤ s.length /\ s.length ≤ 4) -> CloOk l (A0u l) := by
 intro l hl;have key : ∀ (m c : List (List Int)) (d : List (List Int)), (∀ s ∈ m, 1 ≤ s.length /\ s.length ≤ 4) -> CloOk d c -> CloOk (d ++ m) (m.foldl (fun c s => putF s.length c s) c) := by
   intro m;induction m with
   | nil => intro c d _ h; simpa using h
   | cons s m ih =>
     intro c d hm h;obtain ⟨s1, s4⟩ := hm s (by simp);have P := A1v s.length c s rfl s1 h.pw h.cl;have := ih (putF s.length c s) (d ++ [s]) (fun t ht => hm t (by simp [ht])) ⟨P.pw, P.cl, fun t ht => by
       rcases List.mem_append.1 ht with ht | ht
       . exact P.sub _ (h.has t ht)
       . rw [List.mem_singleton.1 ht]; exact P.has, fun A hA hd t ht => P.least A hA (hd s (by simp)) (h.least A hA fun u hu => hd u (by simp [hu])) t ht, by
       have h1 := P.len;have h2 := h.len;have h3 := A1L s4;rw [List.length_append, List.length_cons, List.length_nil]; omega⟩
     rw [List.append_assoc, List.singleton_append] at this;exact this
 have := key l [] [] hl ⟨List.Pairwise.nil, fun t h => absurd h (by simp), by simp, fun A _ _ t h => absurd h (by simp), by simp⟩;rw [List.nil_append] at this;exact this
theorem Ad4.val (l : List (List Int)) (hl : ∀ s ∈ l, 1 ≤ s.length /\ s.length ≤ 4) (hn : l.length ≤ 1000) : Ad4.F (l, ()) = some ((A0u l, ()), ()) := by
 refine Ad4.of _ ?_;have hfold : ∀ i, i ≤ l.length -> CloOk (l.take i) ((l.take i).foldl (fun c s => putF s.length c s) []) := fun i hi => A1z _ fun s hs => hl s (List.mem_of_mem_take hs);obtain ⟨x, hx, hg⟩ := Goes.loop (R := (List (List Int) × Unit) × Unit) (fun k i (x : List (List Int)) => Ad4.l3 k l (i : Int) [] x) l.length (fun i x => x = (l.take i).foldl (fun c s => putF s.length c s) []) (fun i x hi h2 => ⟨_, rfl, Goes.succ fun k => by
   have C := hfold i (by omega);rw [<- h2] at C;obtain ⟨s1, s4⟩ := hl _ (A0y [] hi);have hlen := C.len;rw [List.length_take] at hlen;have hput := Aa0.val (c := x) s1 s4 C.pw C.cl (C.least (fun t => t.length ≤ 4) A0S fun s hs => (hl s (List.mem_of_mem_take hs)).2) (by omega);rw [Ad4.l3_eq, if_pos (ltI.2 hi), if_pos (idxI.2 hi)];simp only [Int.toNat_natCast, hput, Option.bind_some];rw [A0j (by omega), List.take_add_one, List.getElem?_eq_getElem hi, Option.toList_some, List.foldl_append, <- h2, A0z hi];rfl⟩) 0 [] (Nat.zero_le _) rfl
 refine Ev.of_eq (hg _ ((Ev.const _).succ fun k => ?_)) fun k => rfl;rw [Ad4.l3_eq, if_neg (by simp), hx, List.take_of_length_le (Nat.le_refl _)]; rfl
theorem Af1.val (xs : List Int) (p : Int) (hn : xs.length < 4611686018427387904) : ∃ v, Af1.F (xs, p, ()) = some ((v, ()), ()) /\ (v = true ↔ A0s 0 (IntKind.i64.wrap (p - 1)) xs) := by
 rw [Af1.eq, Af1.T, Aa5.val xs _ (fun a => !decide (0 ≤ a /\ a ≤ IntKind.i64.wrap (p - 1))) (fun a _ => by
   show (Ag6.F (a, p, ())).map (·.1) = _;rw [Ag6.eq, Ag6.T, Ag7.eq, Ag7.T, Ac1.val]; rfl) hn]
 refine ⟨_, rfl, ?_⟩;simp only [Bool.not_eq_true', List.any_eq_false, Bool.not_eq_eq_eq_not, Bool.not_true, A0s];simp
theorem Ae1.val (xs : List Int) (n : Int) (hn : xs.length < 4611686018427387904) : Ae1.F (xs, n, ()) = some ((decide (n ∈ xs), ()), ()) := by
 obtain ⟨v, hv, hv'⟩ := Ev.loop (σ := Unit) (R := (Bool × Unit) × Unit) (fun k i _ => Ae1.l2 k xs n (i : Int)) xs.length (fun i _ => ∀ j, j < i -> xs.getD j 0 ≠ n) (fun r => r = ((decide (n ∈ xs), ()), ()))
   (fun i s hi hI => by
     have E := fun k => Ae1.l2_eq k xs n (i : Int);simp only [if_pos (ltI.2 hi), if_pos (idxI.2 hi), Int.toNat_natCast, A0j (show i < 4611686018427387904 by omega)] at E;by_cases h : xs.getD i 0 = n
     . exact .inl ⟨_, (Ev.const _).succ fun k => by rw [E, if_pos (by simp only [h, beq_self_eq_true])], by
         have : n ∈ xs := h ▸ A0y 0 hi;simp [this]⟩
     . refine .inr ⟨(), fun j hj => ?_, Goes.succ fun k => by rw [E, if_neg (by simp only [beq_iff_eq]; exact h)]⟩;by_cases hji : j = i
       . rw [hji]; exact h
       . exact hI j (by omega))
   (fun s hI => ⟨_, (Ev.const _).succ fun k => by rw [Ae1.l2_eq, if_neg (by simp)], by
     have : n ∉ xs := fun hm => by
       obtain ⟨j, hj, e⟩ := List.getElem_of_mem hm;exact hI j hj (by rw [A0z hj]; exact e)
     simp [this]⟩) 0 () (Nat.zero_le _) (by intro j hj; omega)
 subst hv';exact Ae1.of _ _ (hv.of_eq fun k => rfl)
theorem Af7.val (xs : List Int) (n : Int) (hn : xs.length < 4611686018427387904) : Af7.F (xs, n, ()) = some ((decide (n ∈ xs), ()), ()) := by
 obtain ⟨v, hv, hv'⟩ := Ev.loop (σ := Unit) (R := (Int × Unit) × Unit) (fun k i _ => Ag1.l2 k xs n xs.length (i : Int)) xs.length (fun i _ => ∀ j, j < i -> xs.getD j 0 ≠ n) (fun r => ∃ q : Int, r = ((q, ()), ()) /\ decide (q ≥ 0) = decide (n ∈ xs))
   (fun i s hi hI => by
     have E := fun k => Ag1.l2_eq k xs n xs.length (i : Int);simp only [if_pos (ltI.2 hi), if_pos (idxI.2 hi), Int.toNat_natCast, A0j (show i < 4611686018427387904 by omega)] at E;by_cases h : n = xs.getD i 0
     . exact .inl ⟨_, (Ev.const _).succ fun k => by rw [E, if_pos (by simp only [← h, beq_self_eq_true])], _, rfl, by
         have : n ∈ xs := h ▸ A0y 0 hi;simp [this]⟩
     . refine .inr ⟨(), fun j hj => ?_, Goes.succ fun k => by rw [E, if_neg (by simp only [beq_iff_eq]; exact h)]⟩;by_cases hji : j = i
       . rw [hji]; exact fun e => h e.symm
       . exact hI j (by omega))
   (fun s hI => ⟨_, (Ev.const _).succ fun k => by rw [Ag1.l2_eq, if_neg (by simp)], _, rfl, by
     have : n ∉ xs := fun hm => by
       obtain ⟨j, hj, e⟩ := List.getElem_of_mem hm;exact hI j hj (by rw [A0z hj]; exact e)
     simp [this]⟩) 0 () (Nat.zero_le _) (by intro j hj; omega)
 obtain ⟨q, rfl, hq⟩ := hv';rw [Af7.eq, Af7.T, Ag1.of _ _ (hv.of_eq fun k => rfl)];simp only [Option.bind_some, hq]
theorem Aa7.val (xs : List Int) (h : xs.length ≤ 1099511627776) : Aa7.F (xs, ()) = some ((xs, ()), ()) := by
 refine Aa7.of xs ?_;have := Goes.fill (L := fun k i ys => Aa7.l3 k xs (i : Int) ys) xs 0 (fun k i ys hi hy => by
   rw [Aa7.l3_eq, if_pos (ltI.2 hi), if_pos (idxI.2 hi), if_pos (by omega), A0j (by omega)];simp only [Int.toNat_natCast]) (List.replicate xs.length 0) (by simp)
 refine Ev.of_eq (this _ ((Ev.const _).succ fun k => ?_)) fun k => ?_
 . rw [Aa7.l3_eq, if_neg (by simp)]
 . rw [Aa7.T, if_pos (by simp only [bigN]; omega)]; rfl
theorem Aa4.val (xs ys : List Int) (hn : xs.length < 4611686018427387904) : ∃ b, Aa4.F (xs, ys, ()) = some ((b, ()), ()) /\ (b = true ↔ xs = ys) := by
 by_cases hl : xs.length = ys.length
 . obtain ⟨b, hb, hb'⟩ := Ev.all (L := fun k i => Aa4.l4 k xs ys (i : Int)) (a := ()) (b := ()) (n := xs.length) (fun i => xs.getD i 0 == ys.getD i 0) (fun k i hi => by
     rw [Aa4.l4_eq, if_pos (ltI.2 hi), if_pos (idxI.2 hi), if_pos (by omega), A0j (by omega)];simp only [Int.toNat_natCast];exact ite_nb _ _ _) (fun k => by rw [Aa4.l4_eq, if_neg (by simp)]) 0 (Nat.zero_le _)
   refine ⟨b, Aa4.of _ _ (hb.of_eq fun k => ?_), by rw [hb', all_eq hl (fun x y => x == y) (by simp)]⟩;rw [Aa4.T, if_neg (by simp [hl])];rfl
 . refine ⟨false, Aa4.of _ _ ((Ev.const _).of_eq fun k => ?_), by simp; intro e; exact hl (by rw [e])⟩;rw [Aa4.T, if_pos (by simp; omega)]
theorem Aa4.refl (xs : List Int) (hn : xs.length < 4611686018427387904) : Aa4.F (xs, xs, ()) = some ((true, ()), ()) := by
 obtain ⟨b, hb, hb'⟩ := Aa4.val xs xs hn;rw [hb, hb'.2 rfl]
theorem Af4.val (xs : List Int) (l : Int) (h0 : 0 ≤ l) (h1 : l ≤ 1048576) (hx : xs.length ≤ maxLen) : ∃ r, Af4.F (xs, l, ()) = some ((r, ()), ()) /\ (r = -1 ∨ 0 ≤ r /\ r ≤ l /\ Sm xs) := by
 have : xs.length ≤ 9223372036854775807 := hx;rw [Af4.eq, Af4.T, A0Q (by omega) (by omega)];by_cases h : l < xs.length
 . exact ⟨-1, by rw [if_pos (by simp; omega)], .inl rfl⟩
 . exact ⟨_, by rw [if_neg (by simp; omega)], .inr ⟨by omega, by omega, by unfold Sm; omega⟩⟩
theorem Ac3.val (xs : List (List Int)) (l : Int) (h0 : 0 ≤ l) (h1 : l ≤ 1048576) (hx : xs.length ≤ maxLen) (hr : ∀ x ∈ xs, x.length ≤ maxLen) : ∃ r, Ac3.F (xs, l, ()) = some ((r, ()), ()) /\ (r = -1 ∨ 0 ≤ r /\ r ≤ l /\ SmL xs) := by
 have : xs.length ≤ 9223372036854775807 := hx;by_cases h : l < xs.length
 . exact ⟨-1, Ac3.of _ _ ((Ev.const _).of_eq fun k => by rw [Ac3.T, A0Q (by omega) (by omega), if_pos (by simp; omega)]), .inl rfl⟩
 obtain ⟨r, hv, h2⟩ := sz_loop (fun k i s => Ac3.l5 k xs s (i : Int)) xs [] Sm (fun i s hi s0 s1 => by
   have E := fun k => Ac3.l5_eq k xs s (i : Int);obtain ⟨r, hr1, hr2⟩ := Af4.val (xs.getD i []) s s0 s1 (hr _ (A0y _ hi));simp only [if_pos (ltI.2 hi), if_pos (idxI.2 hi), Int.toNat_natCast, hr1, Option.bind_some, A0j (show i < 4611686018427387904 by omega)] at E;rcases hr2 with rfl | ⟨a, b, c⟩
   . exact .inr fun k => by rw [E, if_pos (by simp)]
   . exact .inl ⟨r, a, b, c, fun k => by rw [E, if_neg (by simp; omega)]⟩) (fun k l => by rw [Ac3.l5_eq, if_neg (by simp)]) (l - xs.length) (by omega) (by omega)
 refine ⟨r, Ac3.of _ _ (hv.of_eq fun k => by rw [Ac3.T, A0Q (by omega) (by omega), if_neg (by simp; omega)]; rfl), ?_⟩;rcases h2 with h2 | ⟨a, b, c⟩
 . exact .inl h2
 . exact .inr ⟨a, by omega, by omega, c⟩
theorem Af3.val (xs : List (List Int)) (l : Int) (h0 : 0 ≤ l) (h1 : l ≤ 1048576) (hx : xs.length ≤ maxLen) (hr : ∀ x ∈ xs, x.length ≤ maxLen) : ∃ r, Af3.F (xs, l, ()) = some ((r, ()), ()) /\ (r = -1 ∨ 0 ≤ r /\ r ≤ l /\ SmL xs) := by
 obtain ⟨r, h2, h3⟩ := Ac3.val xs l h0 h1 hx hr;rw [Af3.eq, Af3.T, h2];simp only [Option.bind_some];rcases h3 with rfl | ⟨a, b, c⟩
 . exact ⟨-1, by rw [if_pos (by simp)], .inl rfl⟩
 . exact ⟨r, by rw [if_neg (by simp; omega)], .inr ⟨a, b, c⟩⟩
theorem Ad2.val (xs : List (List Int)) (h : SmL xs) : Ad2.F (xs, ()) = some ((xs, ()), ()) := by
 have hl := h.1;refine Ad2.of xs ?_;have := Goes.fill (L := fun k i ys => Ad2.l3 k xs (i : Int) ys) xs [] (fun k i ys hi hy => by
   have hs : (xs.getD i []).length ≤ 1048576 := h.2 _ (A0y _ hi);rw [Ad2.l3_eq, if_pos (ltI.2 hi), if_pos (idxI.2 hi)];simp only [Int.toNat_natCast, Aa7.val (xs.getD i []) (by omega), Option.bind_some];rw [if_pos (by omega), A0j (by omega)]) (List.replicate xs.length []) (by simp)
 refine Ev.of_eq (this _ ((Ev.const _).succ fun k => ?_)) fun k => ?_
 . rw [Ad2.l3_eq, if_neg (by simp)]
 . rw [Ad2.T, if_pos (by simp only [bigN]; omega)]; rfl
theorem Ad1.val (xs : List (List Int)) (h : SmL xs) : Ad1.F (xs, ()) = some ((xs, ()), ()) := by
 rw [Ad1.eq, Ad1.T, Ad2.val xs h]; rfl
theorem Ac2.same (xs ys : List (List Int)) (h : SmL xs) : ∃ b, Ac2.F (xs, ys, ()) = some ((b, ()), ()) /\ (b = true ↔ xs = ys) := by
 have hn := h.1;by_cases hl : xs.length = ys.length
 . obtain ⟨b, hb, hb'⟩ := A0a (fun k i => Ac2.l4 k xs ys (i : Int)) xs ys [] hl (fun i hi => by
     have hs : (xs.getD i []).length ≤ 1048576 := h.2 _ (A0y _ hi);obtain ⟨c, hc, hc'⟩ := Aa4.val (xs.getD i []) (ys.getD i []) (by omega);exact ⟨c, hc', fun k => by rw [Ac2.l4_eq, if_pos (ltI.2 hi), if_pos (idxI.2 hi), if_pos (idx2 (hl ▸ hi))]; simp only [Int.toNat_natCast, hc, Option.bind_some]; rw [A0j (by omega)]⟩) (fun k => by rw [Ac2.l4_eq, if_neg (by simp)])
   exact ⟨b, Ac2.of _ _ (hb.of_eq fun k => by rw [Ac2.T, if_neg (by simp [hl])]; rfl), hb'⟩
 . exact ⟨false, Ac2.of _ _ ((Ev.const _).of_eq fun k => by rw [Ac2.T, if_pos (by simp; omega)]), by simp; intro e; exact hl (by rw [e])⟩
theorem Ab3.same (xs ys : List (List Int)) (h : SmL xs) : ∃ b, Ab3.F (xs, ys, ()) = some ((b, ()), ()) /\ (b = true ↔ xs = ys) := by
 obtain ⟨b, hb, hb'⟩ := Ac2.same xs ys h;rw [Ab3.eq, Ab3.T, hb];exact ⟨b, by cases b <;> rfl, hb'⟩
def A0i (ys : List Int) (k : Int) : Prop := ∀ j, j < ys.length -> ys.getD j 0 = k + j
theorem Ab0.val (xs : List Int) (k0 : Int) (h0 : 0 ≤ k0) (h1 : k0 + xs.length ≤ 4611686018427387904) : ∃ ys, Ab0.F (xs, k0, ()) = some ((k0 + xs.length, ()), (ys, ())) /\ ys.length = xs.length /\ A0i ys k0 := by
 obtain ⟨⟨v, ys⟩, ⟨hv, hl, hm⟩, hg⟩ := Goes.loop (R := (Int × Unit) × (List Int × Unit)) (fun k i (s : Int × List Int) => Ab0.l2 k s.1 (i : Int) s.2) xs.length (fun i s => s.1 = k0 + i /\ s.2.length = xs.length /\ ∀ j, j < i -> s.2.getD j 0 = k0 + j)
   (fun i s hi ⟨h2, h3, h4⟩ => ⟨(s.1 + 1, s.2.set i s.1), ⟨by simp only []; omega, by simp [h3], fun j hj => by
     simp only [List.getD_eq_getElem?_getD, List.getElem?_set];by_cases hij : i = j
     . subst hij; simp [h3, hi, h2]
     . have := h4 j (by omega);simp only [List.getD_eq_getElem?_getD] at this;simp [hij, this]⟩, Goes.succ fun k => by
     rw [Ab0.l2_eq, if_pos (by simp; omega), if_pos (by omega), A0Q (by omega) (by omega), A0j (by omega)];simp only [Int.toNat_natCast]⟩) 0 (k0, xs) (Nat.zero_le _) ⟨by simp, rfl, fun j hj => by omega⟩
 simp only [] at hv hl hm;refine ⟨ys, Ab0.of _ _ ((hg _ ((Ev.const _).succ fun k => ?_)).of_eq fun k => rfl), hl, fun j hj => hm j (by omega)⟩;rw [Ab0.l2_eq, if_neg (by simp; omega), hv]
theorem Ad7.val (ys : List Int) (k0 : Int) (h0 : 0 ≤ k0) (h1 : k0 + ys.length ≤ 4611686018427387904) (hm : A0i ys k0) : Ad7.F (ys, k0, ()) = some ((k0 + ys.length, ()), ()) := by
 obtain ⟨v, hv, hg⟩ := Goes.loop (R := (Int × Unit) × Unit) (fun k i (s : Int) => Ad7.l2 k ys s (i : Int)) ys.length (fun i s => s = k0 + i)
   (fun i s hi h2 => ⟨s + 1, by omega, Goes.succ fun k => by
     rw [Ad7.l2_eq, if_pos (ltI.2 hi), if_pos (idxI.2 hi), if_neg (by simp only [Int.toNat_natCast]; rw [hm i hi, h2]; simp), A0Q (by omega) (by omega), A0j (by omega)]⟩) 0 k0 (Nat.zero_le _) (by simp)
 refine Ad7.of _ _ ((hg _ ((Ev.const _).succ fun k => ?_)).of_eq fun k => rfl);rw [Ad7.l2_eq, if_neg (by simp), hv]
def offs (xs : List (List Int)) (i : Nat) : Nat := ((xs.take i).map List.length).sum
theorem A0F {xs : List (List Int)} {i : Nat} (h : i < xs.length) : offs xs (i + 1) = offs xs i + (xs.getD i []).length := by
 unfold offs;rw [List.take_add_one, List.getElem?_eq_getElem h, Option.toList_some, List.map_append, List.sum_append, A0z h];simp
theorem A1J {xs : List (List Int)} {i j : Nat} (h : i ≤ j) : offs xs i ≤ offs xs j := by
 induction h with
 | refl => exact Nat.le_refl _
 | @step m _ ih =>
   by_cases hm : m < xs.length
   . rw [Nat.succ_eq_add_one, A0F hm]; omega
   . have : offs xs (m + 1) = offs xs m := by unfold offs; rw [List.take_of_length_le (by omega), List.take_of_length_le (by omega)]
     rw [Nat.succ_eq_add_one, this]; exact ih
theorem Ad0.val (xs : List (List Int)) (k0 : Int) (h0 : 0 ≤ k0) (hx : xs.length < 4611686018427387904) (h1 : k0 + offs xs xs.length ≤ 4611686018427387904) :
   ∃ ys, Ad0.F (xs, k0, ()) = some ((k0 + offs xs xs.length, ()), (ys, ())) /\ ys.length = xs.length /\ ∀ j, j < xs.length -> (ys.getD j []).length = (xs.getD j []).length /\ A0i (ys.getD j []) (k0 + offs xs j) := by
 obtain ⟨⟨v, ys⟩, ⟨hv, hl, hm, -⟩, hg⟩ := Goes.loop (R := (Int × Unit) × (List (List Int) × Unit)) (fun k i (s : Int × List (List Int)) => Ad0.l2 k s.1 (i : Int) s.2) xs.length
   (fun i s => s.1 = k0 + offs xs i /\ s.2.length = xs.length /\ (∀ j, j < i -> (s.2.getD j []).length = (xs.getD j []).length /\ A0i (s.2.getD j []) (k0 + offs xs j)) /\ ∀ j, i ≤ j -> s.2.getD j [] = xs.getD j [])
   (fun i s hi ⟨h2, h3, h4, h5⟩ => by
     have hle := A1J (xs := xs) (show i + 1 ≤ xs.length by omega);rw [A0F hi] at hle;obtain ⟨ys, e1, e2, e3⟩ := Ab0.val (s.2.getD i []) s.1 (by omega) (by rw [h5 i (Nat.le_refl _), h2]; omega);rw [h5 i (Nat.le_refl _)] at e1 e2;refine ⟨(s.1 + (xs.getD i []).length, s.2.set i ys), ⟨by simp only []; rw [A0F hi]; omega, by simp [h3], fun j hj => ?_, fun j hj => ?_⟩, Goes.succ fun k => ?_⟩
     . simp only [List.getD_eq_getElem?_getD, List.getElem?_set];by_cases hij : i = j
       . subst hij;simp only [h3, hi, if_true, Option.getD_some];exact ⟨by rw [e2, List.getD_eq_getElem?_getD], by rw [<- h2]; exact e3⟩
       . have := h4 j (by omega);simp only [List.getD_eq_getElem?_getD] at this;simpa [hij] using this
     . have := h5 j (by omega);simp only [List.getD_eq_getElem?_getD, List.getElem?_set] at this ⊢;rw [if_neg (by omega)]; exact this
     . rw [Ad0.l2_eq, if_pos (by simp; omega), if_pos (by omega)];simp only [Int.toNat_natCast, h5 i (Nat.le_refl _), e1, Option.bind_some];rw [A0j (by omega)]) 0 (k0, xs) (Nat.zero_le _) ⟨by simp [offs], rfl, fun j hj => by omega, fun _ _ => rfl⟩
 simp only [] at hv hl hm;refine ⟨ys, Ad0.of _ _ ((hg _ ((Ev.const _).succ fun k => ?_)).of_eq fun k => rfl), hl, hm⟩;rw [Ad0.l2_eq, if_neg (by simp; omega), hv]
theorem Ad8.val (xs ys : List (List Int)) (k0 : Int) (h0 : 0 ≤ k0) (hx : xs.length < 4611686018427387904) (h1 : k0 + offs xs xs.length ≤ 4611686018427387904) (hl : ys.length = xs.length)
   (hm : ∀ j, j < xs.length -> (ys.getD j []).length = (xs.getD j []).length /\ A0i (ys.getD j []) (k0 + offs xs j)) : Ad8.F (ys, k0, ()) = some ((k0 + offs xs xs.length, ()), ()) := by
 obtain ⟨v, hv, hg⟩ := Goes.loop (R := (Int × Unit) × Unit) (fun k i (s : Int) => Ad8.l2 k ys s (i : Int)) xs.length (fun i s => s = k0 + offs xs i)
   (fun i s hi h2 => by
     have hle := A1J (xs := xs) (show i + 1 ≤ xs.length by omega);rw [A0F hi] at hle;obtain ⟨e1, e2⟩ := hm i hi;have e3 := Ad7.val (ys.getD i []) s (by omega) (by rw [e1, h2]; omega) (by rw [h2]; exact e2);refine ⟨s + (xs.getD i []).length, by rw [A0F hi]; omega, Goes.succ fun k => ?_⟩;rw [Ad8.l2_eq, if_pos (by simp; omega), if_pos (by omega)];simp only [Int.toNat_natCast, e3, Option.bind_some];rw [if_neg (by simp; omega), A0j (by omega), e1]) 0 k0 (Nat.zero_le _) (by simp [offs])
 refine Ad8.of _ _ ((hg _ ((Ev.const _).succ fun k => ?_)).of_eq fun k => rfl);rw [Ad8.l2_eq, if_neg (by simp; omega), hv]
theorem A0Y {xs : List (List Int)} (h : SmL xs) : offs xs xs.length ≤ 1048576 * 1048576 := by
 have key : ∀ i, i ≤ xs.length -> offs xs i ≤ 1048576 * i := by
   intro i;induction i with
   | zero => intro _; simp [offs]
   | succ i ih =>
     intro hi;have h1 := ih (by omega);have h2 : (xs.getD i []).length ≤ 1048576 := h.2 _ (A0y _ (by omega));rw [A0F (by omega)]; omega
 have := key xs.length (Nat.le_refl _);have := h.1;omega
theorem Ab2.some (c : List (List Int)) (k0 : Int) (h : SmL c) (h0 : 0 ≤ k0) (h1 : k0 ≤ 1152921504606846976) : ∃ v ys, Ab2.F (c, k0, ()) = some ((v, ()), (ys, ())) /\ k0 ≤ v /\ v ≤ k0 + 1099511627776 := by
 have b := A0Y h;have hl := h.1;obtain ⟨ys, e, _⟩ := Ad0.val c k0 h0 (by omega) (by omega);rw [Ab2.eq, Ab2.T, e];exact ⟨k0 + ((offs c c.length : Nat) : Int), _, rfl, by omega, by omega⟩
theorem Ab0.some (xs : List Int) (k0 : Int) (h : xs.length ≤ 1048576) (h0 : 0 ≤ k0) (h1 : k0 ≤ 1152921504606846976) : ∃ v ys, Ab0.F (xs, k0, ()) = some ((v, ()), (ys, ())) /\ k0 ≤ v /\ v ≤ k0 + 1048576 := by
 obtain ⟨ys, e, _⟩ := Ab0.val xs k0 h0 (by omega);exact ⟨_, _, e, by omega, by omega⟩
theorem A0W (c ys : List (List Int)) (k0 : Int) (h : SmL c) (h0 : 0 ≤ k0) (h1 : k0 ≤ 576460752303423488) (e : ∃ v, Ab2.F (c, k0, ()) = some ((v, ()), (ys, ()))) : Ad6.F (ys, k0, ()) = some ((k0 + offs c c.length, ()), ()) := by
 have b := A0Y h;have hl := h.1;obtain ⟨v, e⟩ := e;obtain ⟨ys', e1, e2, e3⟩ := Ad0.val c k0 h0 (by omega) (by omega);rw [Ab2.eq, Ab2.T, e1] at e;have e : some ((k0 + ((offs c c.length : Nat) : Int), ()), (ys', ())) = some ((v, ()), (ys, ())) := e;simp only [Option.some.injEq, Prod.mk.injEq, and_true] at e;obtain ⟨rfl, rfl⟩ := e;rw [Ad6.eq, Ad6.T, Ad8.val c ys' k0 h0 (by omega) (by omega) e2 e3];simp only [Option.bind_some];rw [if_neg (by simp; omega)]
theorem A0J (c : List (List Int)) (k0 : Int) (h : SmL c) (h0 : 0 ≤ k0) (h1 : k0 ≤ 576460752303423488) : ∃ ys, Ab2.F (c, k0, ()) = some ((k0 + offs c c.length, ()), (ys, ())) /\ Ad6.F (ys, k0, ()) = some ((k0 + offs c c.length, ()), ()) := by
 have b := A0Y h;have hl := h.1;obtain ⟨ys', e1, e2, e3⟩ := Ad0.val c k0 h0 (by omega) (by omega);have e : Ab2.F (c, k0, ()) = some ((k0 + ((offs c c.length : Nat) : Int), ()), (ys', ())) := by rw [Ab2.eq, Ab2.T, e1]; rfl
 exact ⟨ys', e, A0W c ys' k0 h h0 h1 ⟨_, e⟩⟩
theorem A0l {R : Type} (a : Option R) : Go.Vm.both a a = a := by unfold Go.Vm.both; rw [if_pos rfl]
theorem A0I {c : List (List Int)} (h : CplxOk c) : ∀ s ∈ c, 1 ≤ s.length /\ s.length ≤ 4 := fun s hs => by
 obtain ⟨j, hj, rfl⟩ := List.getElem_of_mem hs;rw [<- A0z (d := []) hj];exact (h.2 j hj).1.1
def wS (s : List Int) : Nat := match s.length with
 | 0 => 1
 | 1 => 1
 | 2 => 3
 | 3 => 10
 | _ => 41
def wL (l : List (List Int)) : Nat := (l.map wS).sum
theorem A0r (a b : List (List Int)) : wL (a ++ b) = wL a + wL b := by simp [wL]
theorem A1D {s t : List Int} (h : s.length ≤ 4 /\ 1 ≤ s.length) (ht : t ∈ A0A s) : t.length ≤ 4 /\ 1 ≤ t.length := by
 obtain ⟨h1, k, hk, rfl⟩ := mem_faces.1 ht;rw [A0q hk]; omega
theorem faces_w {s : List Int} (h : s.length ≤ 4 /\ 1 ≤ s.length) : wL (A0A s) + 1 = wS s := by
 unfold A0A;by_cases h1 : 1 < s.length
 . rw [if_pos h1];have key : ∀ n w, (∀ k, k < n -> wS (A0v s k) = w) -> wL ((List.range n).map (A0v s)) = n * w := by
     intro n w;induction n with
     | zero => intro _; simp [wL]
     | succ n ih =>
       intro hw;rw [List.range_succ, List.map_append, A0r, ih fun k hk => hw k (by omega)];simp only [wL, List.map_cons, List.map_nil, List.sum_cons, List.sum_nil, hw n (by omega), Nat.add_zero];rw [Nat.add_mul, Nat.one_mul]
   have hs : s.length = 2 ∨ s.length = 3 ∨ s.length = 4 := by omega
   rcases hs with e | e | e
   . rw [key s.length 1 fun k hk => by simp [wS, A0q hk, e]]; simp [wS, e]
   . rw [key s.length 3 fun k hk => by simp [wS, A0q hk, e]]; simp [wS, e]
   . rw [key s.length 10 fun k hk => by simp [wS, A0q hk, e]]; simp [wS, e]
 . rw [if_neg h1];have : s.length = 1 := by omega
   unfold wS; rw [this]; simp [wL]
theorem A1P : ∀ (n : Nat) (done todo : List (List Int)), wL todo ≤ n -> done.length + wL todo ≤ 100000 -> (∀ s ∈ done ++ todo, s.length ≤ 4 /\ 1 ≤ s.length) →
   ∃ all : List (List Int), Ev (fun k => Ac9.l3 k (done.length : Int) [] (done ++ todo)) ((A1y all, ()), ()) /\ (∀ s ∈ done ++ todo, s ∈ all) /\ (∀ P : List Int -> Prop, A0w P -> (∀ s ∈ done ++ todo, P s) -> ∀ s ∈ all, P s) /\ (∀ s ∈ all, s ∈ done ∨ ∀ t ∈ A0A s, t ∈ all) := by
 intro n;induction n with
 | zero =>
   intro done todo hw hb hl;cases todo with
   | nil =>
     refine ⟨done, (Ev.const _).succ fun k => ?_, fun s hs => by simpa using hs, fun P _ h s hs => h s (by simp [hs]), fun s hs => .inl hs⟩;have hsm : SmL done := ⟨by omega, fun s hs => by have := hl s (by simp [hs]); unfold Sm; omega⟩;rw [List.append_nil, Ac9.l3_eq, if_neg (by simp), Ab1.val done hsm]; rfl
   | cons s todo =>
     exfalso;have : 1 ≤ wS s := by unfold wS; split <;> omega
     simp only [wL, List.map_cons, List.sum_cons] at hw;omega
 | succ n ih =>
   intro done todo hw hb hl;cases todo with
   | nil =>
     refine ⟨done, (Ev.const _).succ fun k => ?_, fun s hs => by simpa using hs, fun P _ h s hs => h s (by simp [hs]), fun s hs => .inl hs⟩;have hsm : SmL done := ⟨by simp [wL] at hb; omega, fun s hs => by have := hl s (by simp [hs]); unfold Sm; omega⟩;rw [List.append_nil, Ac9.l3_eq, if_neg (by simp), Ab1.val done hsm]; rfl
   | cons s todo =>
     have hs := hl s (by simp);have hf := faces_w hs;have ew : wL (s :: todo) = wS s + wL todo := by simp [wL]
     have ew2 : wL (todo ++ A0A s) = wL todo + wL (A0A s) := A0r _ _;have e : done ++ s :: todo ++ A0A s = done ++ [s] ++ (todo ++ A0A s) := by simp
     have flen : (A0A s).length ≤ 4 := by
       unfold A0A; split
       . simpa using hs.1
       . simp
     have tlen : todo.length ≤ wL todo := by
       clear hw hb hl ew ew2 e ih;induction todo with
       | nil => simp
       | cons t todo iht =>
         have : 1 ≤ wS t := by unfold wS; split <;> omega
         simp only [wL, List.map_cons, List.sum_cons, List.length_cons] at iht ⊢;omega
     obtain ⟨all, h1, h2, h3, h4⟩ := ih (done ++ [s]) (todo ++ A0A s) (by omega) (by rw [List.length_append, List.length_cons, List.length_nil]; omega) (fun t ht => by
       rw [<- e] at ht;rcases List.mem_append.1 ht with ht | ht
       . exact hl t ht
       . exact A1D hs ht)
     rw [<- e] at h1 h2 h3;refine ⟨all, h1.succ fun k => ?_, fun t ht => h2 t (List.mem_append_left _ ht), fun P hP hd => h3 P hP fun t ht => ?_, fun t ht => ?_⟩
     . have hlen : (done ++ s :: todo).length = done.length + (todo.length + 1) := by simp
       have hg : (done ++ s :: todo).getD done.length [] = s := by simp [List.getD_eq_getElem?_getD]
       rw [Ac9.l3_eq, if_pos (decide_eq_true (by rw [hlen]; omega)), if_pos (by rw [hlen]; omega)];simp only [Int.toNat_natCast, hg, Aa6.val s (by omega), Option.bind_some];rw [if_pos (by rw [hlen]; simp only [bigA]; omega), A0j (by omega)];simp only [List.length_append, List.length_cons, List.length_nil]
     . rcases List.mem_append.1 ht with ht | ht
       . exact hd t ht
       . obtain ⟨g1, k, hk, rfl⟩ := mem_faces.1 ht;exact hP s (hd s (by simp)) g1 k hk
     . rcases h4 t ht with h5 | h5
       . rcases List.mem_append.1 h5 with h6 | h6
         . exact .inl h6
         . rw [List.mem_singleton.1 h6];exact .inr fun u hu => h2 u (List.mem_append_right _ hu)
       . exact .inr h5
theorem Ac9.val (l : List (List Int)) (hl : ∀ s ∈ l, 1 ≤ s.length /\ s.length ≤ 4) (hn : l.length ≤ 1000) : Ac9.F (l, ()) = some ((A0u l, ()), ()) := by
 have hsm : SmL l := ⟨by omega, fun s hs => by have := hl s hs; unfold Sm; omega⟩;have hw : ∀ m : List (List Int), wL m ≤ 41 * m.length := by
   intro m;induction m with
   | nil => simp [wL]
   | cons t m ih =>
     have : wS t ≤ 41 := by unfold wS; split <;> omega
     simp only [wL, List.map_cons, List.sum_cons, List.length_cons] at ih ⊢;omega
 have := hw l;obtain ⟨all, h1, h2, h3, h4⟩ := A1P (wL l) [] l (Nat.le_refl _) (by simp; omega) (fun s hs => by have := hl s (by simpa using hs); omega);have C := A1z l hl;have e : A1y all = A0u l := by
   refine A0T (A1k _) C.pw fun s => ?_;rw [A0m];refine ⟨fun hs => h3 (· ∈ A0u l) C.cl (fun t ht => C.has t (by simpa using ht)) s hs, fun hs => C.least (· ∈ all) (fun t ht g1 k hk => ?_) (fun t ht => h2 t (by simpa using ht)) s hs⟩;rcases h4 t ht with h5 | h5
   . cases h5
   . exact h5 _ (mem_faces.2 ⟨g1, k, hk, rfl⟩)
 rw [e] at h1;refine Ac9.of _ (h1.of_eq fun k => ?_);rw [Ac9.T, Ab5.val l hsm]; rfl
def A0G (vs : List Int) (s : List Int) : Bool := s.any fun v => decide (v ∈ vs)
theorem A1O (vs s : List Int) : A0G vs s = true ↔ ∃ v ∈ s, v ∈ vs := by simp [A0G]
def A0K (c : List (List Int)) (vs : List Int) : List (List Int) := c.filter fun s => A0G vs s
def A0h (c : List (List Int)) (vs : List Int) : List (List Int) := c.filter fun s => !A0G vs s
theorem A0V (a : List (List Int)) (q : List Int -> Bool) : both a (a.filter q) = a.filter q := by
 unfold both;refine List.filter_congr fun s hs => ?_;simp [List.mem_filter, hs]
theorem A0c {vs : List Int} (hv : vs.length ≤ 1048576) {s : List Int} (hs : s.length ≤ 1048576) : Ad5.cloG (vs, ()) (s, ()) = some (A0G vs s, ()) := by
 show (Ad5.F (s, vs, ())).map (·.1) = _;rw [Ad5.eq, Ad5.T];obtain ⟨v, h1, h2⟩ := Aa5.iff s (Ag3.cloG (vs, ())) (fun x => x ∈ vs) (fun x => decide (x ∈ vs)) (fun x => by simp) (fun x _ => by
   show (Ag3.F (x, vs, ())).map (·.1) = _;rw [Ag3.eq, Ag3.T, Af7.val vs x (by omega)]; rfl) (by omega)
 rw [h1];simp only [Option.bind_some, Option.map_some, Option.some.injEq, Prod.mk.injEq, and_true];rw [Bool.eq_iff_iff, A1O, h2]
theorem A1q {c : List (List Int)} (q : List Int -> Bool) {i : Nat} (hi : i < c.length) : (c.take (i + 1)).filter q = (c.take i).filter q ++ (if q (c.getD i []) = true then [c.getD i []] else []) := by
 rw [List.take_add_one, List.getElem?_eq_getElem hi, Option.toList_some, List.filter_append, A0z hi];congr 1;by_cases h : q c[i] = true <;> simp [h]
theorem Ac6.val {c : List (List Int)} {vs : List Int} (k1 : CplxOk c) (hc : SmL c) (hv : vs.length ≤ 1048576) : Ac6.F (c, vs, ()) = some ((A0u (A0K c vs), A0h c vs, ()), ()) := by
 have hn := k1.1;refine Ac6.of _ _ ?_;obtain ⟨⟨x, y⟩, hxy, hg⟩ := Goes.loop (R := (List (List Int) × List (List Int) × Unit) × Unit) (fun k i (x : List (List Int) × List (List Int)) => Ac6.l4 k c vs (i : Int) [] [] x.1 x.2) c.length (fun i x => x = (A0K (c.take i) vs, A0h (c.take i) vs)) (fun i x hi h2 => by
   have hmem := A0y ([] : List Int) hi;have hs4 := A0I k1 _ hmem;obtain ⟨b, hb, hg2⟩ := Goes.loop (R := (List (List Int) × List (List Int) × Unit) × Unit) (fun k j (b : Bool) => Ac6.l8 k c vs (i : Int) b (j : Int) [] [] x.1 x.2) (c.getD i []).length (fun j b => b = A0G vs ((c.getD i []).take j)) (fun j b hj h3 => ⟨_, rfl, Goes.succ fun k => by
     have e : A0G vs ((c.getD i []).take (j + 1)) = (b || decide ((c.getD i []).getD j 0 ∈ vs)) := by
       rw [h3, A0G, A0G, List.take_add_one, List.getElem?_eq_getElem hj, Option.toList_some, List.any_append, A0z hj]; simp
     rw [Ac6.l8_eq, if_pos (idxI.2 hi)];simp only [Int.toNat_natCast];rw [if_pos (by simpa using hj), e];by_cases hbt : b = true
     . rw [if_pos hbt, A0j (by omega), hbt]; rfl
     . rw [if_neg hbt, if_pos (idxI.2 hi), if_pos (idxI.2 hj), Ae1.val vs _ (by omega)];simp only [Option.bind_some];rw [A0j (by omega)];have : b = false := by simpa using hbt
       rw [this]; rfl⟩) 0 false (Nat.zero_le _) (by simp [A0G])
   rw [List.take_of_length_le (Nat.le_refl _)] at hb;have l1 : (A0K (c.take i) vs).length ≤ i := Nat.le_trans (List.length_filter_le _ _) (by simp; omega);have l2 : (A0h (c.take i) vs).length ≤ i := Nat.le_trans (List.length_filter_le _ _) (by simp; omega);refine ⟨_, rfl, Goes.trans (Goes.succ fun k => ?_) (Goes.trans hg2 (Goes.succ fun k => ?_))⟩
   . rw [Ac6.l4_eq, if_pos (ltI.2 hi)]; rfl
   . rw [Ac6.l8_eq, if_pos (idxI.2 hi)];simp only [Int.toNat_natCast];rw [if_neg (by simp), A0K, A0h, A1q _ hi, A1q _ hi, <- hb];have o := Aa3.val _ (hc.2 _ hmem);by_cases hbt : b = true
     . rw [if_pos hbt, if_pos (idxI.2 hi), o];simp only [Option.bind_some];rw [if_pos (by rw [h2]; simp only [List.length_cons, List.length_nil, bigA]; omega), A0j (by omega), h2, hbt];simp [A0K, A0h]
     . have hbf : b = false := by simpa using hbt
       rw [if_neg hbt, if_pos (idxI.2 hi), o];simp only [Option.bind_some];rw [if_pos (by rw [h2]; simp only [List.length_cons, List.length_nil, bigA]; omega), A0j (by omega), h2, hbf];simp [A0K, A0h]) 0 ([], []) (Nat.zero_le _) (by simp [A0K, A0h])
 rw [List.take_of_length_le (Nat.le_refl _)] at hxy;have hstar : ∀ s ∈ A0K c vs, 1 ≤ s.length /\ s.length ≤ 4 := fun s hs => A0I k1 s (List.mem_filter.1 hs).1;have hlen : (A0K c vs).length ≤ c.length := List.length_filter_le _ _;refine Ev.of_eq (hg _ ((Ev.const _).succ fun k => ?_)) fun k => rfl;rw [Ac6.l4_eq, if_neg (by simp), hxy];simp only [Ad4.val _ hstar (by omega), Option.bind_some, A0l]
open Classical in
noncomputable def A0E (c : List (List Int)) (vs : List Int) : Int := if CplxOk c then (if A0s 0 9 vs /\ A1j vs then 0 else 2) else 1
noncomputable def A0D (c : List (List Int)) (vs : List Int) : List (List Int) := if A0E c vs = 0 then A0u (A0K c vs) else []
noncomputable def A0M (c : List (List Int)) (vs : List Int) : List (List Int) := if A0E c vs = 0 then A0h c vs else []
theorem A1w {c : List (List Int)} {vs : List Int} (h : A0E c vs = 0) : CplxOk c := by
 unfold A0E at h;split at h
 . assumption
 . cases h
theorem A0O (c : List (List Int)) (vs : List Int) : SmL (A0D c vs) := by
 unfold A0D;split
 . rename_i h;have k1 := A1w h;have hn := k1.1;have hstar : ∀ s ∈ A0K c vs, 1 ≤ s.length /\ s.length ≤ 4 := fun s hs => A0I k1 s (List.mem_filter.1 hs).1;have C := A1z (A0K c vs) hstar;have hlen : (A0K c vs).length ≤ c.length := List.length_filter_le _ _;have hl := C.len;exact ⟨by omega, fun s hs => by have := C.least (fun t => t.length ≤ 4) A0S (fun t ht => (hstar t ht).2) s hs; unfold Sm; omega⟩
 . exact ⟨by simp, by simp⟩
theorem A0P (c : List (List Int)) (vs : List Int) : SmL (A0M c vs) := by
 unfold A0M;split
 . rename_i h;have k1 := A1w h;have hn := k1.1;have hlen : (A0h c vs).length ≤ c.length := List.length_filter_le _ _;exact ⟨by omega, fun s hs => by have := A0I k1 s (List.mem_filter.1 hs).1; unfold Sm; omega⟩
 . exact ⟨by simp, by simp⟩
theorem Af8.val (c : List (List Int)) (vs : List Int) (hc : SmL c) (hv : vs.length ≤ 1048576) : Af8.F (c, vs, ()) = some ((A0D c vs, A0M c vs, A0E c vs, ()), ()) := by
 obtain ⟨v1, a1, a1'⟩ := Aa1.val c hc;obtain ⟨v2, a2, a2'⟩ := Ab7.val vs 0 9 (by omega);rw [Af8.eq, Af8.T, a1];simp only [Option.bind_some];cases v1 with
 | false =>
   have e : A0E c vs = 1 := by rw [A0E, if_neg fun hh => absurd (a1'.2 hh) (by simp)]
   rw [if_pos (by simp), A0D, A0M, e, if_neg (by decide), if_neg (by decide)]
 | true =>
   have k1 := a1'.1 rfl;rw [if_neg (by simp), a2];simp only [Option.bind_some];cases v2 with
   | false =>
     have e : A0E c vs = 2 := by rw [A0E, if_pos k1, if_neg fun hh => absurd (a2'.2 hh) (by simp)]
     rw [if_pos (by simp), A0D, A0M, e, if_neg (by decide), if_neg (by decide)]
   | true =>
     have e : A0E c vs = 0 := by rw [A0E, if_pos k1, if_pos (a2'.1 rfl)]
     rw [if_neg (by simp), Ac6.val k1 hc hv];simp only [Option.bind_some, A0l];rw [A0D, A0M, e, if_pos rfl, if_pos rfl]
theorem Ae2.val (c : List (List Int)) (vs : List Int) (hc : SmL c) (hv : vs.length ≤ 1048576) : Ae2.F (c, vs, ()) = some ((A0D c vs, A0M c vs, A0E c vs, ()), ()) := by
 obtain ⟨v1, a1, a1'⟩ := Ac0.val c hc;obtain ⟨v2, a2, a2'⟩ := Aa9.val vs (by omega);obtain ⟨v3, a3, a3'⟩ := Af1.val vs 10 (by omega);rw [show IntKind.i64.wrap (10 - 1) = 9 by decide] at a3';rw [Ae2.eq, Ae2.T, a1];simp only [Option.bind_some];cases v1 with
 | false =>
   have e : A0E c vs = 1 := by rw [A0E, if_neg fun hh => absurd (a1'.2 hh) (by simp)]
   rw [if_pos (by simp), A0D, A0M, e, if_neg (by decide), if_neg (by decide)]
 | true =>
   have k1 := a1'.1 rfl;have hn := k1.1;rw [if_neg (by simp), a2];simp only [Option.bind_some];cases v2 with
   | false =>
     have e : A0E c vs = 2 := by rw [A0E, if_pos k1, if_neg fun hh => absurd (a2'.2 hh.2) (by simp)]
     rw [if_pos (by simp), A0D, A0M, e, if_neg (by decide), if_neg (by decide)]
   | true =>
     rw [if_neg (by simp), a3];simp only [Option.bind_some];cases v3 with
     | false =>
       have e : A0E c vs = 2 := by rw [A0E, if_pos k1, if_neg fun hh => absurd (a3'.2 hh.1) (by simp)]
       rw [if_pos (by simp), A0D, A0M, e, if_neg (by decide), if_neg (by decide)]
     | true =>
       have e : A0E c vs = 0 := by rw [A0E, if_pos k1, if_pos ⟨a3'.1 rfl, a2'.1 rfl⟩]
       have t1 : ∀ s ∈ c, Ad5.cloG (vs, ()) (s, ()) = some (decide (s ∈ c.filter fun s => A0G vs s), ()) := fun s hs => by
         rw [A0c hv (hc.2 s hs)];simp [List.mem_filter, hs]
       have t2 : ∀ s ∈ c, Ag4.cloG (Ad5.cloG (vs, ()), ()) (s, ()) = some (decide (s ∈ c.filter fun s => !A0G vs s), ()) := fun s hs => by
         show (Ag4.F (s, Ad5.cloG (vs, ()), ())).map (·.1) = _;rw [Ag4.eq, Ag4.T, A0c hv (hc.2 s hs)];simp [List.mem_filter, hs]
       have hstar : ∀ s ∈ A0K c vs, 1 ≤ s.length /\ s.length ≤ 4 := fun s hs => A0I k1 s (List.mem_filter.1 hs).1;have hlen : (A0K c vs).length ≤ c.length := List.length_filter_le _ _;rw [if_neg (by simp), Ac8.val c _ _ hc t1 k1.sorted, A0V];simp only [Option.bind_some];have hcl := Ac9.val (A0K c vs) hstar (by omega);unfold A0K at hcl;rw [hcl];simp only [Option.bind_some];rw [Ac8.val c _ _ hc t2 k1.sorted, A0V];simp only [Option.bind_some];rw [A0D, A0M, e, if_pos rfl, if_pos rfl]; rfl
theorem cpx_wf {s : List (List Int)} (h : wfT (.sl (.sl (.int .i64))) s) : s.length ≤ maxLen /\ ∀ x ∈ s, x.length ≤ maxLen := ⟨h.1, fun x hx => (h.2 x hx).1⟩
theorem Ae3.pure (d : Ins Ae3.sig.ps) (h : wfIns Ae3.sig.ps d) : ∃ mu, Ae3.F d = some ((true, ()), mu) := by
 obtain ⟨d0, d1, ⟨⟩⟩ := d;obtain ⟨hw0, hw1, _⟩ := h;obtain ⟨w0a, w0b⟩ := cpx_wf hw0;refine ⟨(), ?_⟩;have hT : Ae3.F (d0, d1, ()) = Ae3.T d0 d1 := Ae3.eq _ _;rw [hT, Ae3.T];by_cases hl1 : d1.length ≤ 1048576
 . rw [if_neg (by simp; omega)];obtain ⟨r0, e0, k0⟩ := Af3.val d0 1048576 (by omega) (by omega) w0a w0b;rw [e0];simp only [Option.bind_some];rcases k0 with rfl | ⟨a0, b0, c0⟩
   . rw [if_pos (by simp)]
   rw [if_neg (by simp; omega)];have t0 := Ad1.val d0 c0;obtain ⟨f0, g0, g0'⟩ := Ab3.same d0 d0 c0;obtain rfl : f0 = true := g0'.2 rfl;obtain ⟨v0, s0, m0, ma0, mb0⟩ := Ab2.some d0 1 c0 (by omega) (by omega);have t1 := Aa7.val d1 (by omega);have g1 := Aa4.refl d1 (by omega);obtain ⟨v1, s1, m1, ma1, mb1⟩ := Ab0.some d1 v0 hl1 (by omega) (by omega);obtain ⟨fr, gr, gr'⟩ := Ab3.same (A0D d0 d1) (A0D d0 d1) (A0O d0 d1);obtain rfl : fr = true := gr'.2 rfl;obtain ⟨fq, gq, gq'⟩ := Ab3.same (A0M d0 d1) (A0M d0 d1) (A0P d0 d1);obtain rfl : fq = true := gq'.2 rfl;have zA := A0O d0 d1;have zB := A0P d0 d1;obtain ⟨ys, n1, n2⟩ := A0J (A0D d0 d1) 1 (A0O d0 d1) (by omega) (by omega);have bA := A0Y zA;have bB := A0Y zB;obtain ⟨zs, n3, n4⟩ := A0J (A0M d0 d1) (1 + (offs (A0D d0 d1) (A0D d0 d1).length : Int)) (A0P d0 d1) (by omega) (by omega);have q1 : ¬ v1 < 0 := by omega
   have q2 : ¬ (1 + (offs (A0D d0 d1) (A0D d0 d1).length : Int)) < 0 := by omega
   have q3 : ¬ (1 + (offs (A0D d0 d1) (A0D d0 d1).length : Int) + (offs (A0M d0 d1) (A0M d0 d1).length : Int)) < 0 := by omega
   simp [t0, g0, m0, t1, g1, m1, Af8.val d0 d1 c0 hl1, Ae2.val d0 d1 c0 hl1, gr, gq, n1, n2, n3, n4, q1, q2, q3]
 . rw [if_pos (by simp; omega)]
end Go.Proofs.Ytfdnjokpgjnmnaa
