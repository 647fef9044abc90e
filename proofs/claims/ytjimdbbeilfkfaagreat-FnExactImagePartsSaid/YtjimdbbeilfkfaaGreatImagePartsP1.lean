/- What the functions answer. -/
import Derived.Test.YtjimdbbeilfkfaaGreatImagePartsG1
namespace Go.Proofs.YtjimdbbeilfkfaaGreat
open Go Go.Vm
set_option linter.unusedVariables false
set_option linter.unusedSimpArgs false
theorem A0H {x : Int} (h1 : -9223372036854775808 ≤ x) (h2 : x ≤ 9223372036854775807) : IntKind.i64.wrap x = x := by
 have e : (2 : Int) ^ (IntKind.i64).bits = 18446744073709551616 := by decide
 have e2 : (2 : Int) ^ ((IntKind.i64).bits - 1) = 9223372036854775808 := by decide
 unfold IntKind.wrap;simp only [e, e2, show IntKind.i64.signed = true from rfl, Bool.true_and, decide_eq_true_eq];split <;> omega
theorem A0j {i : Nat} (h : i < 4611686018427387904) : IntKind.i64.wrap ((i : Int) + 1) = ((i + 1 : Nat) : Int) := by
 rw [A0H (by omega) (by omega)]; omega
theorem idxI {α : Type} {xs : List α} {i : Nat} : (0 ≤ (i : Int) /\ (i : Int) < (xs.length : Int)) ↔ i < xs.length := by omega
theorem ltI {i n : Nat} : (decide ((i : Int) < (n : Int))) = true ↔ i < n := by simp
theorem A0z {α : Type} {xs : List α} {i : Nat} {d : α} (h : i < xs.length) : xs.getD i d = xs[i] := by
 rw [List.getD_eq_getElem?_getD, List.getElem?_eq_getElem h]; rfl
def Goes {R : Type} (A B : Nat -> Option R) : Prop := ∀ r, Ev B r -> Ev A r
theorem Goes.refl {R : Type} (A : Nat -> Option R) : Goes A A := fun _ h => h
theorem Goes.trans {R : Type} {A B C : Nat -> Option R} (h : Goes A B) (k : Goes B C) : Goes A C := fun r hr => h r (k r hr)
theorem Goes.succ {R : Type} {A B : Nat -> Option R} (e : ∀ k, A (k + 1) = B k) : Goes A B := fun _ h => h.succ e
theorem Goes.of_eq {R : Type} {A B : Nat -> Option R} (e : ∀ k, A k = B k) : Goes A B := fun _ h => h.of_eq e
theorem Ev.loop {σ R : Type} (L : Nat -> Nat -> σ -> Option R) (n : Nat) (I : Nat -> σ -> Prop) (Q : R -> Prop)
   (hstep : ∀ i s, i < n -> I i s -> (∃ r, Ev (fun k => L k i s) r /\ Q r) ∨ (∃ s', I (i + 1) s' /\ Goes (fun k => L k i s) (fun k => L k (i + 1) s')))
   (hend : ∀ s, I n s -> ∃ r, Ev (fun k => L k n s) r /\ Q r) : ∀ i s, i ≤ n -> I i s -> ∃ r, Ev (fun k => L k i s) r /\ Q r := by
 have key : ∀ j i s, i + j = n -> I i s -> ∃ r, Ev (fun k => L k i s) r /\ Q r := by
   intro j;induction j with
   | zero => intro i s hi h; obtain rfl : i = n := by omega
             exact hend s h
   | succ j ih =>
     intro i s hi h;rcases hstep i s (by omega) h with h1 | ⟨s', h1, h2⟩
     . exact h1
     . obtain ⟨r, hr, hq⟩ := ih (i + 1) s' (by omega) h1;exact ⟨r, h2 r hr, hq⟩
 exact fun i s hi h => key (n - i) i s (by omega) h
theorem Goes.loop {σ R : Type} (L : Nat -> Nat -> σ -> Option R) (n : Nat) (I : Nat -> σ -> Prop)
   (hstep : ∀ i s, i < n -> I i s -> ∃ s', I (i + 1) s' /\ Goes (fun k => L k i s) (fun k => L k (i + 1) s')) : ∀ i s, i ≤ n -> I i s -> ∃ s', I n s' /\ Goes (fun k => L k i s) (fun k => L k n s') := by
 have key : ∀ j i s, i + j = n -> I i s -> ∃ s', I n s' /\ Goes (fun k => L k i s) (fun k => L k n s') := by
   intro j;induction j with
   | zero => intro i s hi h; obtain rfl : i = n := by omega
             exact ⟨s, h, Goes.refl _⟩
   | succ j ih =>
     intro i s hi h;obtain ⟨s', h1, h2⟩ := hstep i s (by omega) h;obtain ⟨s2, h3, h4⟩ := ih (i + 1) s' (by omega) h1;exact ⟨s2, h3, h2.trans h4⟩
 exact fun i s hi h => key (n - i) i s (by omega) h
theorem Ev.all {A B : Type} {L : Nat -> Nat -> Option ((Bool × A) × B)} {a : A} {b : B} {n : Nat} (p : Nat -> Bool) (hstep : ∀ k i, i < n -> L (k + 1) i = if p i = true then L k (i + 1) else some ((false, a), b)) (hend : ∀ k, L (k + 1) n = some ((true, a), b)) (i : Nat) (hi : i ≤ n) :
   ∃ v, Ev (fun k => L k i) ((v, a), b) /\ (v = true ↔ ∀ j, i ≤ j -> j < n -> p j = true) := by
 have key : ∀ m i, i + m = n -> ∃ v, Ev (fun k => L k i) ((v, a), b) /\ (v = true ↔ ∀ j, i ≤ j -> j < n -> p j = true) := by
   intro m;induction m with
   | zero => intro i hi; obtain rfl : i = n := by omega
             exact ⟨true, (Ev.const _).succ hend, by simp; intro j _ _; omega⟩
   | succ m ih =>
     intro i hi;obtain ⟨v, hv, hv'⟩ := ih (i + 1) (by omega);cases hp : p i with
     | false => exact ⟨false, (Ev.const _).succ fun k => by rw [hstep k i (by omega), hp]; rfl, by simp; exact ⟨i, Nat.le_refl _, by omega, hp⟩⟩
     | true =>
       refine ⟨v, hv.succ fun k => by rw [hstep k i (by omega), hp]; rfl, hv'.trans ⟨fun h j hj hn => ?_, fun h j hj hn => h j (by omega) hn⟩⟩;by_cases hij : j = i
       . rw [hij]; exact hp
       . exact h j (by omega) hn
 exact key (n - i) i (by omega)
theorem all_eq {α : Type} {xs ys : List α} (hl : xs.length = ys.length) (q : α -> α -> Bool) (hq : ∀ x y, q x y = true ↔ x = y) (d : α) : (∀ j, 0 ≤ j -> j < xs.length -> q (xs.getD j d) (ys.getD j d) = true) ↔ xs = ys := by
 constructor
 . intro h;refine List.ext_getElem hl fun i h1 h2 => ?_;have := (hq _ _).1 (h i (Nat.zero_le _) h1)
   rwa [A0z h1, A0z h2] at this
 . rintro rfl j _ _;exact (hq _ _).2 rfl
theorem Goes.fill {α R : Type} {L : Nat -> Nat -> List α -> Option R} (xs : List α) (d : α) (hstep : ∀ k i ys, i < xs.length -> ys.length = xs.length -> L (k + 1) i ys = L k (i + 1) (ys.set i (xs.getD i d))) (ys : List α) (hy : ys.length = xs.length) :
   Goes (fun k => L k 0 ys) (fun k => L k xs.length xs) := by
 obtain ⟨s, ⟨hs1, hs2⟩, hs3⟩ := Goes.loop L xs.length (fun i s => s.length = xs.length /\ s.take i = xs.take i) (fun i s hi ⟨h1, h2⟩ => ⟨s.set i (xs.getD i d), ⟨by simp [h1], by
   rw [List.take_add_one, List.take_add_one, List.take_set_of_le (Nat.le_refl _), h2];simp [hi, h1, A0z hi]⟩, Goes.succ fun k => hstep k i s hi h1⟩) 0 ys (Nat.zero_le _) ⟨hy, by simp⟩
 have : s = xs := by
   rw [List.take_of_length_le (by omega), List.take_of_length_le (Nat.le_refl _)] at hs2;exact hs2
 rw [this] at hs3;exact hs3
theorem ite_nb {α : Type} (b : Bool) (x y : α) : (if (!b) = true then x else y) = if b = true then y else x := by cases b <;> rfl
theorem Ev.allP {A B : Type} {L : Nat -> Nat -> Option ((Bool × A) × B)} {a : A} {b : B} {n : Nat} (P : Nat -> Prop) (e : Bool) (hstep : ∀ i, i < n -> (P i /\ ∀ k, L (k + 1) i = L k (i + 1)) ∨ (¬ P i /\ ∀ k, L (k + 1) i = some ((false, a), b))) (hend : Ev (fun k => L k n) ((e, a), b)) (i : Nat) (hi : i ≤ n) :
   ∃ v, Ev (fun k => L k i) ((v, a), b) /\ (v = true ↔ e = true /\ ∀ j, i ≤ j -> j < n -> P j) := by
 have key : ∀ m i, i + m = n -> ∃ v, Ev (fun k => L k i) ((v, a), b) /\ (v = true ↔ e = true /\ ∀ j, i ≤ j -> j < n -> P j) := by
   intro m;induction m with
   | zero => intro i hi; obtain rfl : i = n := by omega
             exact ⟨e, hend, ⟨fun h => ⟨h, fun j h1 h2 => by omega⟩, fun h => h.1⟩⟩
   | succ m ih =>
     intro i hi;obtain ⟨v, hv, hv'⟩ := ih (i + 1) (by omega);rcases hstep i (by omega) with ⟨hp, h⟩ | ⟨hp, h⟩
     . refine ⟨v, hv.succ h, hv'.trans ⟨fun ⟨h1, h2⟩ => ⟨h1, fun j hj hn => ?_⟩, fun ⟨h1, h2⟩ => ⟨h1, fun j hj hn => h2 j (by omega) hn⟩⟩⟩;by_cases hij : j = i
       . rw [hij]; exact hp
       . exact h2 j (by omega) hn
     . exact ⟨false, (Ev.const _).succ h, ⟨fun h => (by cases h), fun ⟨_, h2⟩ => absurd (h2 i (Nat.le_refl _) (by omega)) hp⟩⟩
 exact key (n - i) i (by omega)
theorem A1l {i : Nat} (h : 0 < i) (h2 : i < 4611686018427387904) : IntKind.i64.wrap ((i : Int) - 1) = ((i - 1 : Nat) : Int) := by
 rw [A0H (by omega) (by omega)]; omega
theorem Goes.foldl {α σ R : Type} {L : Nat -> Nat -> σ -> Option R} (xs : List α) (d : α) (f : σ -> α -> σ) (hstep : ∀ k i s, i < xs.length -> L (k + 1) i s = L k (i + 1) (f s (xs.getD i d))) (s : σ) : Goes (fun k => L k 0 s) (fun k => L k xs.length (xs.foldl f s)) := by
 have key : ∀ m i s, i + m = xs.length -> Goes (fun k => L k i s) (fun k => L k xs.length ((xs.drop i).foldl f s)) := by
   intro m;induction m with
   | zero => intro i s hi; obtain rfl : i = xs.length := by omega
             rw [List.drop_length]; exact Goes.refl _
   | succ m ih =>
     intro i s hi;have h : i < xs.length := by omega
     refine (Goes.succ fun k => hstep k i s h).trans ?_;rw [List.drop_eq_getElem_cons h, List.foldl_cons, <- A0z (d := d) h];exact ih (i + 1) _ (by omega)
 have := key xs.length 0 s (by omega);simpa using this
theorem A0y {α : Type} {xs : List α} {i : Nat} (d : α) (h : i < xs.length) : xs.getD i d ∈ xs := by rw [A0z h]; exact List.getElem_mem h
theorem Ev.allF {A B : Type} {L : Nat -> Nat -> Option ((Bool × A) × B)} {a : A} {b : B} {n : Nat} (P : Nat -> Prop) (e : Bool) (i0 : Nat) (hstep : ∀ i, i0 ≤ i -> i < n -> (P i /\ ∀ k, L (k + 1) i = L k (i + 1)) ∨ (¬ P i /\ ∀ k, L (k + 1) i = some ((false, a), b))) (hend : Ev (fun k => L k n) ((e, a), b)) (i : Nat) (h0 : i0 ≤ i) (hi : i ≤ n) :
   ∃ v, Ev (fun k => L k i) ((v, a), b) /\ (v = true ↔ e = true /\ ∀ j, i ≤ j -> j < n -> P j) := by
 have key : ∀ m i, i0 ≤ i -> i + m = n -> ∃ v, Ev (fun k => L k i) ((v, a), b) /\ (v = true ↔ e = true /\ ∀ j, i ≤ j -> j < n -> P j) := by
   intro m;induction m with
   | zero => intro i h0 hi; obtain rfl : i = n := by omega
             exact ⟨e, hend, ⟨fun h => ⟨h, fun j h1 h2 => by omega⟩, fun h => h.1⟩⟩
   | succ m ih =>
     intro i h0 hi;obtain ⟨v, hv, hv'⟩ := ih (i + 1) (by omega) (by omega);rcases hstep i h0 (by omega) with ⟨hp, h⟩ | ⟨hp, h⟩
     . refine ⟨v, hv.succ h, hv'.trans ⟨fun ⟨h1, h2⟩ => ⟨h1, fun j hj hn => ?_⟩, fun ⟨h1, h2⟩ => ⟨h1, fun j hj hn => h2 j (by omega) hn⟩⟩⟩;by_cases hij : j = i
       . rw [hij]; exact hp
       . exact h2 j (by omega) hn
     . exact ⟨false, (Ev.const _).succ h, ⟨fun h => (by cases h), fun ⟨_, h2⟩ => absurd (h2 i (Nat.le_refl _) (by omega)) hp⟩⟩
 exact key (n - i) i h0 (by omega)
abbrev MatV := Int × Int × Int × List Int
def Sm (xs : List Int) : Prop := xs.length ≤ 1048576
def SmL (xs : List (List Int)) : Prop := xs.length ≤ 1048576 /\ ∀ x ∈ xs, Sm x
def SmM (m : MatV) : Prop := Sm m.2.2.2
theorem sz_loop {α : Type} (L : Nat -> Nat -> Int -> Option ((Int × Unit) × Unit)) (xs : List α) (d : α) (P : α -> Prop)
   (hstep : ∀ i l, i < xs.length -> 0 ≤ l -> l ≤ 1048576 -> (∃ r, 0 ≤ r /\ r ≤ l /\ P (xs.getD i d) /\ ∀ k, L (k + 1) i l = L k (i + 1) r) ∨ ∀ k, L (k + 1) i l = some ((-1, ()), ()))
   (hend : ∀ k l, L (k + 1) xs.length l = some ((l, ()), ())) (l : Int) (h0 : 0 ≤ l) (h1 : l ≤ 1048576) :
   ∃ r, Ev (fun k => L k 0 l) ((r, ()), ()) /\ (r = -1 ∨ 0 ≤ r /\ r ≤ l /\ ∀ x ∈ xs, P x) := by
 obtain ⟨r, hr, q, rfl, hq⟩ := Ev.loop (σ := Int) L xs.length (fun i s => 0 ≤ s /\ s ≤ l /\ ∀ j, j < i -> P (xs.getD j d)) (fun r => ∃ q : Int, r = ((q, ()), ()) /\ (q = -1 ∨ 0 ≤ q /\ q ≤ l /\ ∀ x ∈ xs, P x))
   (fun i s hi ⟨a, b, c⟩ => by
     rcases hstep i s hi a (by omega) with ⟨r, r0, r1, hp, e⟩ | e
     . refine .inr ⟨r, ⟨r0, by omega, fun j hj => ?_⟩, Goes.succ e⟩;by_cases hji : j = i
       . rw [hji]; exact hp
       . exact c j (by omega)
     . exact .inl ⟨_, (Ev.const _).succ e, -1, rfl, .inl rfl⟩)
   (fun s ⟨a, b, c⟩ => ⟨_, (Ev.const _).succ fun k => hend k s, s, rfl, .inr ⟨a, b, fun x hx => by
     obtain ⟨j, hj, rfl⟩ := List.getElem_of_mem hx;rw [<- A0z (d := d) hj]; exact c j hj⟩⟩) 0 l (Nat.zero_le _) ⟨h0, Int.le_refl _, fun j hj => by omega⟩
 exact ⟨q, hr, hq⟩
theorem A0U {α : Type} (L : Nat -> Nat -> Option ((Bool × Unit) × Unit)) (xs ys : List α) (d : α) (hl : xs.length = ys.length)
   (hstep : ∀ i, i < xs.length -> ∃ b : Bool, (b = true ↔ xs.getD i d = ys.getD i d) /\ ∀ k, L (k + 1) i = if (!b) = true then some ((false, ()), ()) else L k (i + 1))
   (hend : ∀ k, L (k + 1) xs.length = some ((true, ()), ())) : ∃ v, Ev (fun k => L k 0) ((v, ()), ()) /\ (v = true ↔ xs = ys) := by
 obtain ⟨v, hv, hv'⟩ := Ev.allP (L := L) (a := ()) (b := ()) (n := xs.length) (fun i => xs.getD i d = ys.getD i d) true (fun i hi => by
   obtain ⟨b, hb, e⟩ := hstep i hi;cases b with
   | true => exact .inl ⟨hb.1 rfl, fun k => by rw [e]; rfl⟩
   | false => exact .inr ⟨fun h => absurd (hb.2 h) (by simp), fun k => by rw [e]; rfl⟩) ((Ev.const _).succ hend) 0 (Nat.zero_le _)
 refine ⟨v, hv, hv'.trans ⟨fun ⟨_, h⟩ => ?_, fun h => ⟨rfl, fun j _ _ => by rw [h]⟩⟩⟩;refine List.ext_getElem hl fun i h1 h2 => ?_;have := h i (Nat.zero_le _) h1
 rwa [A0z h1, A0z h2] at this
theorem idx2 {i n : Nat} (h : i < n) : 0 ≤ (i : Int) /\ (i : Int) < (n : Int) := by omega
theorem Af9.val (xs : List Int) (h : xs.length ≤ 1048576) : Af9.F (xs, ()) = some ((xs, ()), ()) := by
 rw [Af9.eq, Af9.T];have hb : ([] : List Int).length + xs.length ≤ bigA := by simp only [List.length_nil, bigA]; omega
 by_cases h0 : 0 < xs.length
 . rw [if_pos h0, if_pos hb]; rfl
 . have : xs = [] := List.eq_nil_of_length_eq_zero (by omega);subst this;rw [if_neg h0];exact b2y rfl (by rw [if_pos hb]; rfl)
theorem Ad6.val (xs : List (List Int)) (h : SmL xs) : Ad6.F (xs, ()) = some ((xs, ()), ()) := by
 have hn := h.1;refine Ad6.of _ ?_;obtain ⟨s, hs, hg⟩ := Goes.loop (R := ((List (List Int) × Unit) × Unit)) (fun k i (x : List (List Int)) => Ad6.l3 k xs (xs.length : Int) (i : Int) x) xs.length (fun i x => x = xs.take i) (fun i x hi h2 => ⟨_, rfl, Goes.succ fun k => by
   rw [Ad6.l3_eq, if_pos (ltI.2 hi), if_pos (idxI.2 hi)];simp only [Int.toNat_natCast, Af9.val _ (h.2 _ (A0y [] hi)), Option.bind_some];rw [if_pos (by rw [h2]; simp only [List.length_take, List.length_cons, List.length_nil, bigA]; omega), A0j (by omega), h2, List.take_add_one, List.getElem?_eq_getElem hi, Option.toList_some, A0z hi]⟩) 0 [] (Nat.zero_le _) rfl
 rw [List.take_of_length_le (Nat.le_refl _)] at hs;refine Ev.of_eq (hg _ ((Ev.const _).succ fun k => ?_)) fun k => rfl;rw [Ad6.l3_eq, if_neg (by simp), hs]
theorem Ac9.val (n lo hi : Int) : Ac9.F (n, lo, hi, ()) = some ((decide (lo ≤ n /\ n ≤ hi), ()), ()) := by
 rw [Ac9.eq, Ac9.T];by_cases h : lo ≤ n
 . rw [if_pos (by simp [h])]; simp [h]
 . rw [if_neg (by simp [h])]; simp [h]
theorem Af5.val (n lo hi : Int) : Af5.F (n, lo, hi, ()) = some ((decide (lo ≤ n /\ n ≤ hi), ()), ()) := by
 rw [Af5.eq, Af5.T];by_cases h : lo ≤ n
 . rw [if_pos (by simp [h])]; simp [h]
 . rw [if_neg (by simp [h])]; simp [h]
def cmpI (x y : Int) : Int := if x < y then -1 else if x > y then 1 else 0
theorem Ae8.val (x y : Int) : Ae8.F (x, y, ()) = some ((cmpI x y, ()), ()) := by
 rw [Ae8.eq, Ae8.T, Af0.eq, Af0.T, Af0.eq, Af0.T];simp only [Option.bind_some, bne_self_eq_false, Bool.false_eq_true, if_false, decide_eq_true_eq, cmpI]
 repeat' split
 all_goals rfl
theorem Ad1.val2 (x y : Int) : Ad1.F ([x, y], ()) = some ((if x ≠ 0 then x else y, ()), ()) := by
 refine Ad1.of _ ⟨3, fun k hk => ?_⟩;obtain ⟨k, rfl⟩ : ∃ j, k = j + 1 + 1 + 1 := ⟨k - 3, by omega⟩;show Ad1.T (k + 1 + 1 + 1) [x, y] = _;rw [Ad1.T, Ad1.l3_eq];by_cases hx : x = 0
 . subst hx;simp only [List.length_cons, List.length_nil];rw [if_pos (by simp), if_pos (by simp), if_neg (by simp), Ad1.l3_eq];simp only [List.length_cons, List.length_nil];rw [A0H (by omega) (by omega)];rw [if_pos (by simp), if_pos (by simp)];by_cases hy : y = 0
   . subst hy;rw [if_neg (by simp), Ad1.l3_eq, A0H (by omega) (by omega), if_neg (by simp)]; simp
   . rw [if_pos (by simp [hy])]; simp
 . simp only [List.length_cons, List.length_nil];rw [if_pos (by simp), if_pos (by simp), if_pos (by simp [hx])];simp [hx]
def lexc : List Int -> List Int -> Int
 | [], [] => 0
 | [], _ :: _ => -1
 | _ :: _, [] => 1
 | a :: u, b :: v => if cmpI a b ≠ 0 then cmpI a b else lexc u v
theorem A0v (x y : Int) : (x < y /\ cmpI x y = -1) ∨ (x = y /\ cmpI x y = 0) ∨ (y < x /\ cmpI x y = 1) := by
 unfold cmpI;by_cases h : x < y
 . exact .inl ⟨h, if_pos h⟩
 . by_cases h2 : x > y
   . exact .inr (.inr ⟨h2, by rw [if_neg h, if_pos h2]⟩)
   . exact .inr (.inl ⟨by omega, by rw [if_neg h, if_neg h2]⟩)
theorem A0s : ∀ (a b : List Int), lexc a b = 0 ↔ a = b
 | [], [] => by simp [lexc]
 | [], _ :: _ => by simp [lexc]
 | _ :: _, [] => by simp [lexc]
 | a :: u, b :: v => by
   rcases A0v a b with ⟨h, e⟩ | ⟨h, e⟩ | ⟨h, e⟩
   . simp [lexc, e]; intro h'; omega
   . subst h; simp [lexc, e, A0s u v]
   . simp [lexc, e]; intro h'; omega
theorem A0a : ∀ (a b c : List Int), lexc a b < 0 -> lexc b c < 0 -> lexc a c < 0
 | [], [], c, h1, _ => by simp [lexc] at h1
 | [], _ :: _, [], _, h2 => by simp [lexc] at h2
 | [], _ :: _, _ :: _, _, _ => by simp [lexc]
 | _ :: _, [], c, h1, _ => by simp [lexc] at h1
 | _ :: _, _ :: _, [], _, h2 => by simp [lexc] at h2
 | a :: u, b :: v, c :: w, h1, h2 => by
   have ih := A0a u v w;simp only [lexc] at h1 h2 ⊢;rcases A0v a b with ⟨g1, e1⟩ | ⟨g1, e1⟩ | ⟨g1, e1⟩ <;> rcases A0v b c with ⟨g2, e2⟩ | ⟨g2, e2⟩ | ⟨g2, e2⟩ <;> rcases A0v a c with ⟨g3, e3⟩ | ⟨g3, e3⟩ | ⟨g3, e3⟩ <;> simp [e1, e2, e3] at h1 h2 ⊢ <;> first | omega | exact ih h1 h2
def cmpS (a b : List Int) : Int := if cmpI a.length b.length ≠ 0 then cmpI a.length b.length else lexc a b
theorem A0k (a b : List Int) : cmpS a b = 0 ↔ a = b := by
 unfold cmpS;rcases A0v a.length b.length with ⟨h, e⟩ | ⟨h, e⟩ | ⟨h, e⟩
 . simp [e]; intro h'; rw [h'] at h; omega
 . simp [e, A0s]
 . simp [e]; intro h'; rw [h'] at h; omega
theorem A0B (a b c : List Int) (h1 : cmpS a b < 0) (h2 : cmpS b c < 0) : cmpS a c < 0 := by
 unfold cmpS at *;rcases A0v a.length b.length with ⟨g1, e1⟩ | ⟨g1, e1⟩ | ⟨g1, e1⟩ <;> rcases A0v b.length c.length with ⟨g2, e2⟩ | ⟨g2, e2⟩ | ⟨g2, e2⟩ <;> rcases A0v a.length c.length with ⟨g3, e3⟩ | ⟨g3, e3⟩ | ⟨g3, e3⟩ <;> simp [e1, e2, e3] at h1 h2 ⊢ <;> first | omega | exact A0a a b c h1 h2
theorem A0X {a b : List Int} (h : a.length < b.length) : cmpS a b < 0 := by
 unfold cmpS;rcases A0v a.length b.length with ⟨g, e⟩ | ⟨g, e⟩ | ⟨g, e⟩
 . simp [e]
 . omega
 . omega
theorem Ae7.val (x y : Int) : Ae7.F (x, y, ()) = some ((cmpI x y, ()), ()) := by
 rw [Ae7.eq, Ae7.T, Ae9.eq, Ae9.T, Ae9.eq, Ae9.T];simp only [Option.bind_some, bne_self_eq_false, Bool.false_eq_true, if_false, decide_eq_true_eq, cmpI]
 repeat' split
 all_goals rfl
theorem A0r {a b : List Int} {i : Nat} (ha : i < a.length) (hb : i < b.length) : lexc (a.drop i) (b.drop i) = if cmpI (a.getD i 0) (b.getD i 0) ≠ 0 then cmpI (a.getD i 0) (b.getD i 0) else lexc (a.drop (i + 1)) (b.drop (i + 1)) := by
 rw [List.drop_eq_getElem_cons ha, List.drop_eq_getElem_cons hb, A0z ha, A0z hb]; rfl
theorem Ad4.val (a b : List Int) (ha : a.length ≤ 1048576) (hb : b.length ≤ 1048576) : Ad4.F (a, b, ()) = some ((lexc a b, ()), ()) := by
 obtain ⟨r, hr, hq⟩ := Ev.loop (σ := Unit) (R := (Int × Unit) × Unit) (fun k i _ => Ad4.l2 k a b a a.length (i : Int)) a.length (fun i _ => i ≤ b.length /\ lexc a b = lexc (a.drop i) (b.drop i)) (fun r => r = ((lexc a b, ()), ()))
   (fun i s hi ⟨h1, h2⟩ => by
     have E := fun k => Ad4.l2_eq k a b a a.length (i : Int);simp only [if_pos (ltI.2 hi), if_pos (idxI.2 hi), Int.toNat_natCast, A0j (show i < 4611686018427387904 by omega)] at E;by_cases hib : i < b.length
     . simp only [if_neg (show ¬ decide ((i : Int) ≥ (b.length : Int)) = true by simp; omega), if_pos (idxI.2 hib), Ae8.val, Option.bind_some] at E;have hd := A0r hi hib;obtain ⟨cc, hcc⟩ : ∃ cc, cmpI (a.getD i 0) (b.getD i 0) = cc := ⟨_, rfl⟩;rw [hcc] at hd;simp only [hcc] at E;by_cases hc : cc = 0
       . refine .inr ⟨(), ⟨by omega, by rw [h2, hd, if_neg (by simp [hc])]⟩, Goes.succ fun k => by rw [E, if_neg (by simp [hc])]⟩
       . exact .inl ⟨_, (Ev.const _).succ fun k => by rw [E, if_pos (by simp [hc])], by rw [h2, hd, if_pos hc]⟩
     . refine .inl ⟨_, (Ev.const _).succ fun k => by rw [E, if_pos (by simp; omega)], ?_⟩;rw [h2, List.drop_eq_getElem_cons hi, List.drop_of_length_le (show b.length ≤ i by omega)]; rfl)
   (fun s ⟨h1, h2⟩ => by
     by_cases hl : a.length < b.length
     . refine ⟨_, (Ev.const _).succ fun k => by rw [Ad4.l2_eq, if_neg (by simp), if_pos (by simp; omega)], ?_⟩;rw [h2, List.drop_of_length_le (Nat.le_refl _), List.drop_eq_getElem_cons hl]; rfl
     . refine ⟨_, (Ev.const _).succ fun k => by rw [Ad4.l2_eq, if_neg (by simp), if_neg (by simp; omega)], ?_⟩;rw [h2, List.drop_of_length_le (Nat.le_refl _), List.drop_of_length_le (by omega)]; rfl) 0 () (Nat.zero_le _) ⟨Nat.zero_le _, rfl⟩
 subst hq;exact Ad4.of _ _ (hr.of_eq fun k => rfl)
theorem Aa3.val (a b : List Int) (ha : a.length ≤ 1048576) (hb : b.length ≤ 1048576) : Aa3.F (a, b, ()) = some ((cmpS a b, ()), ()) := by
 rw [Aa3.eq, Aa3.T, Ae7.val, Ad4.val a b ha hb];simp only [Option.bind_some, Ad1.val2, cmpS]
theorem Aa7.val (a b : List Int) (ha : a.length ≤ 1048576) : Aa7.F (a, b, ()) = some ((decide (cmpS a b < 0), ()), ()) := by
 by_cases hl : a.length = b.length
 . obtain ⟨r, hr, hq⟩ := Ev.loop (σ := Unit) (R := (Bool × Unit) × Unit) (fun k i _ => Aa7.l4 k a b (i : Int)) a.length (fun i _ => lexc a b = lexc (a.drop i) (b.drop i)) (fun r => r = ((decide (lexc a b < 0), ()), ()))
     (fun i s hi h2 => by
       have hib : i < b.length := by omega
       have E := fun k => Aa7.l4_eq k a b (i : Int);simp only [if_pos (ltI.2 hi), if_pos (idxI.2 hi), if_pos (idxI.2 hib), Int.toNat_natCast, A0j (show i < 4611686018427387904 by omega)] at E;have hd := A0r hi hib;obtain ⟨ai, hai⟩ : ∃ ai, a.getD i 0 = ai := ⟨_, rfl⟩;obtain ⟨bi, hbi⟩ : ∃ bi, b.getD i 0 = bi := ⟨_, rfl⟩;rw [hai, hbi] at hd;simp only [hai, hbi] at E;rcases A0v ai bi with ⟨g, e⟩ | ⟨g, e⟩ | ⟨g, e⟩
       . refine .inl ⟨_, (Ev.const _).succ fun k => by rw [E, if_pos (by simp; omega)], ?_⟩;rw [h2, hd, if_pos (by rw [e]; omega), e]; simp [g]
       . exact .inr ⟨(), by rw [h2, hd, if_neg (by rw [e]; simp)], Goes.succ fun k => by rw [E, if_neg (by simp [g])]⟩
       . refine .inl ⟨_, (Ev.const _).succ fun k => by rw [E, if_pos (by simp; omega)], ?_⟩;rw [h2, hd, if_pos (by rw [e]; omega), e]; simp; omega)
     (fun s h2 => ⟨_, (Ev.const _).succ fun k => by rw [Aa7.l4_eq, if_neg (by simp)], by rw [h2, List.drop_of_length_le (Nat.le_refl _), List.drop_of_length_le (by omega)]; rfl⟩) 0 () (Nat.zero_le _) rfl
   subst hq;refine Aa7.of _ _ (hr.of_eq fun k => ?_) |>.trans ?_
   . rw [Aa7.T, if_neg (by simp [hl])]; rfl
   . have : cmpS a b = lexc a b := by
       unfold cmpS;rcases A0v a.length b.length with ⟨g, e⟩ | ⟨g, e⟩ | ⟨g, e⟩
       . omega
       . simp [e]
       . omega
     rw [this]
 . have : decide (cmpS a b < 0) = decide ((a.length : Int) < (b.length : Int)) := by
     unfold cmpS;rcases A0v a.length b.length with ⟨g, e⟩ | ⟨g, e⟩ | ⟨g, e⟩
     . simp [e]; omega
     . omega
     . simp [e]; omega
   rw [this];exact Aa7.of _ _ ((Ev.const _).of_eq fun k => by rw [Aa7.T, if_pos (by simp; omega)])
def A0I (xs : List (List Int)) : Prop := ∀ i j, i < j -> j < xs.length -> cmpS (xs.getD i []) (xs.getD j []) < 0
theorem A0d {xs : List (List Int)} (h : ∀ i, 0 < i -> i < xs.length -> cmpS (xs.getD (i - 1) []) (xs.getD i []) < 0) : A0I xs := by
 intro i j;induction j with
 | zero => intro h1; omega
 | succ j ih =>
   intro h1 h2;have h3 := h (j + 1) (by omega) h2;simp only [Nat.add_sub_cancel] at h3;by_cases hij : i = j
   . rw [hij]; exact h3
   . exact A0B _ _ _ (ih (by omega) (by omega)) h3
theorem wrapU {x : Int} (h1 : 0 ≤ x) (h2 : x < 18446744073709551616) : IntKind.u64.wrap x = x := by
 have e : (2 : Int) ^ (IntKind.u64).bits = 18446744073709551616 := by decide
 unfold IntKind.wrap;simp only [e, show IntKind.u64.signed = false from rfl, Bool.false_and, Bool.false_eq_true, if_false];omega
theorem midI {i j : Nat} (h : i + j < 4611686018427387904) : IntKind.i64.wrap ((IntKind.u64.wrap (IntKind.i64.wrap ((i : Int) + (j : Int)))).fdiv (2 ^ (min (1 : Int).toNat IntKind.u64.bits))) = (((i + j) / 2 : Nat) : Int) := by
 rw [A0H (x := (i : Int) + (j : Int)) (by omega) (by omega), wrapU (by omega) (by omega)];have e : (2 : Int) ^ (min (1 : Int).toNat IntKind.u64.bits) = ((2 : Nat) : Int) := by decide
 rw [e, show (i : Int) + (j : Int) = ((i + j : Nat) : Int) by omega, <- Int.ofNat_fdiv, A0H (by omega) (by omega)]
theorem binSearch.val (xs : List (List Int)) (t : List Int) (hs : A0I xs) (h1 : SmL xs) (h2 : t.length ≤ 1048576) :
   ∃ r : Int, ∃ b : Bool, Af8.F (xs, t, Aa3.cloG (()), ()) = some ((r, (b, ())), ()) /\ 0 ≤ r /\ (b = true ↔ t ∈ xs) /\ (b = true -> r.toNat < xs.length /\ xs.getD r.toNat [] = t) := by
 have hn := h1.1;have hcmp : ∀ i, i < xs.length -> Aa3.cloG (()) (xs.getD i [], t, ()) = some (cmpS (xs.getD i []) t, ()) := fun i hi => by
   show (Aa3.F (xs.getD i [], t, ())).map (·.1) = _;rw [Aa3.val _ _ (h1.2 _ (A0y _ hi)) h2]; rfl
 have key : ∀ d i j : Nat, j - i ≤ d -> i ≤ j -> j ≤ xs.length -> (∀ m, m < i -> cmpS (xs.getD m []) t < 0) -> (∀ m, j ≤ m -> m < xs.length -> ¬ cmpS (xs.getD m []) t < 0) →
     ∃ r : Int, ∃ b : Bool, Ev (fun k => Af8.l3 k xs t (Aa3.cloG (())) xs.length (i : Int) (j : Int)) ((r, (b, ())), ()) /\ 0 ≤ r /\ (b = true ↔ t ∈ xs) /\ (b = true -> r.toNat < xs.length /\ xs.getD r.toNat [] = t) := by
   intro d;induction d with
   | zero =>
     intro i j hd hij hj hlo hhi;obtain rfl : i = j := by omega
     have E := fun k => Af8.l3_eq k xs t (Aa3.cloG (())) xs.length (i : Int) (i : Int);simp only [if_neg (show ¬ decide ((i : Int) < (i : Int)) = true by simp)] at E;by_cases hi : i < xs.length
     . simp only [if_pos (ltI.2 hi), if_pos (idxI.2 hi), Int.toNat_natCast, hcmp i hi, Option.bind_some] at E;refine ⟨_, _, (Ev.const _).succ E, by omega, ?_, fun hb => ?_⟩
       rotate_left
       . simp only [beq_iff_eq, A0k] at hb;rw [Int.toNat_natCast]; exact ⟨hi, hb⟩
       simp only [beq_iff_eq, A0k];refine ⟨fun h => h ▸ A0y [] hi, fun h => ?_⟩;obtain ⟨m, hm, e⟩ := List.getElem_of_mem h;have e' : xs.getD m [] = t := by rw [A0z hm]; exact e
       rcases Nat.lt_trichotomy m i with h3 | h3 | h3
       . have := hlo m h3;rw [e', (A0k t t).2 rfl] at this; omega
       . rw [<- h3]; exact e'
       . have := hs i m h3 hm;rw [e'] at this;exact absurd this (hhi i (Nat.le_refl _) hi)
     . simp only [if_neg (show ¬ decide ((i : Int) < (xs.length : Int)) = true by simp; omega)] at E;refine ⟨_, _, (Ev.const _).succ E, by omega, ?_, fun hb => by cases hb⟩;simp only [Bool.false_eq_true, false_iff];intro h;obtain ⟨m, hm, e⟩ := List.getElem_of_mem h;have e' : xs.getD m [] = t := by rw [A0z hm]; exact e
       have := hlo m (by omega);rw [e', (A0k t t).2 rfl] at this; omega
   | succ d ih =>
     intro i j hd hij hj hlo hhi;by_cases he : i = j
     . exact ih i j (by omega) hij hj hlo hhi
     have E := fun k => Af8.l3_eq k xs t (Aa3.cloG (())) xs.length (i : Int) (j : Int);have hm : (i + j) / 2 < xs.length := by omega
     simp only [if_pos (show decide ((i : Int) < (j : Int)) = true by simp; omega), if_neg (show ¬ (1 : Int) < 0 by omega), midI (show i + j < 4611686018427387904 by omega), if_pos (idxI.2 hm), Int.toNat_natCast, hcmp _ hm, Option.bind_some, A0j (show (i + j) / 2 < 4611686018427387904 by omega)] at E;by_cases hc : cmpS (xs.getD ((i + j) / 2) []) t < 0
     . obtain ⟨r, b, hr, h⟩ := ih ((i + j) / 2 + 1) j (by omega) (by omega) hj (fun m hm2 => by
         by_cases h3 : m = (i + j) / 2
         . rw [h3]; exact hc
         . exact A0B _ _ _ (hs m ((i + j) / 2) (by omega) hm) hc) hhi
       exact ⟨r, b, hr.succ fun k => by rw [E, if_pos (by simpa using hc)], h⟩
     . obtain ⟨r, b, hr, h⟩ := ih i ((i + j) / 2) (by omega) (by omega) (by omega) hlo (fun m hm2 hm3 h4 => by
         by_cases h3 : m = (i + j) / 2
         . rw [h3] at h4; exact hc h4
         . exact hc (A0B _ _ _ (hs ((i + j) / 2) m (by omega) hm3) h4))
       exact ⟨r, b, hr.succ fun k => by rw [E, if_neg (by simpa using hc)], h⟩
 obtain ⟨r, b, hr, h⟩ := key xs.length 0 xs.length (by omega) (Nat.zero_le _) (Nat.le_refl _) (fun m hm => by omega) (fun m h3 h4 => by omega);exact ⟨r, b, Af8.of _ _ _ (hr.of_eq fun k => rfl), h⟩
theorem Ac5.val (xs : List (List Int)) (t : List Int) (hs : A0I xs) (h1 : SmL xs) (h2 : t.length ≤ 1048576) : ∃ r : Int, Ac5.F (xs, t, ()) = some ((r, ()), ()) /\ (r < 0 ↔ t ∉ xs) := by
 obtain ⟨r, b, hr, h3, h4, -⟩ := binSearch.val xs t hs h1 h2;rw [Ac5.eq, Ac5.T, hr];simp only [Option.bind_some];cases b with
 | true => exact ⟨r, by rw [if_neg (by simp)], by simp [h4.1 rfl]; omega⟩
 | false => exact ⟨-1, by rw [if_pos (by simp)], by simp; intro h; exact absurd (h4.2 h) (by simp)⟩
theorem A1I {xs : List (List Int)} (hs : A0I xs) {i j : Nat} (hi : i < xs.length) (hj : j < xs.length) (h : xs.getD i [] = xs.getD j []) : i = j := by
 rcases Nat.lt_trichotomy i j with h1 | h1 | h1
 . have := hs i j h1 hj;rw [h, (A0k _ _).2 rfl] at this; omega
 . exact h1
 . have := hs j i h1 hi;rw [h, (A0k _ _).2 rfl] at this; omega
theorem Ac2.same (xs ys : List Int) (h : Sm xs) : ∃ b, Ac2.F (xs, ys, ()) = some ((b, ()), ()) /\ (b = true ↔ xs = ys) := by
 have hn : xs.length ≤ 1048576 := h;by_cases hl : xs.length = ys.length
 . obtain ⟨b, hb, hb'⟩ := A0U (fun k i => Ac2.l4 k xs ys (i : Int)) xs ys 0 hl (fun i hi => ⟨xs.getD i 0 == ys.getD i 0, by simp, fun k => by
     rw [Ac2.l4_eq, if_pos (ltI.2 hi), if_pos (idxI.2 hi), if_pos (idx2 (hl ▸ hi))]; simp only [Int.toNat_natCast]; rw [A0j (by omega)]; rfl⟩) (fun k => by rw [Ac2.l4_eq, if_neg (by simp)])
   exact ⟨b, Ac2.of _ _ (hb.of_eq fun k => by rw [Ac2.T, if_neg (by simp [hl])]; rfl), hb'⟩
 . exact ⟨false, Ac2.of _ _ ((Ev.const _).of_eq fun k => by rw [Ac2.T, if_pos (by simp; omega)]), by simp; intro e; exact hl (by rw [e])⟩
theorem Ac0.same (xs ys : List Int) (h : Sm xs) : ∃ b, Ac0.F (xs, ys, ()) = some ((b, ()), ()) /\ (b = true ↔ xs = ys) := by
 have hn : xs.length ≤ 1048576 := h;by_cases hl : xs.length = ys.length
 . obtain ⟨b, hb, hb'⟩ := A0U (fun k i => Ac0.l4 k xs ys xs.length (i : Int)) xs ys 0 hl (fun i hi => ⟨xs.getD i 0 == ys.getD i 0, by simp, fun k => by
     rw [Ac0.l4_eq, if_pos (ltI.2 hi), if_pos (idxI.2 hi), if_pos (idx2 (hl ▸ hi))]; simp only [Int.toNat_natCast]; rw [A0j (by omega)]; rfl⟩) (fun k => by rw [Ac0.l4_eq, if_neg (by simp)])
   exact ⟨b, Ac0.of _ _ (hb.of_eq fun k => by rw [Ac0.T, if_neg (by simp [hl])]; rfl), hb'⟩
 . exact ⟨false, Ac0.of _ _ ((Ev.const _).of_eq fun k => by rw [Ac0.T, if_pos (by simp; omega)]), by simp; intro e; exact hl (by rw [e])⟩
theorem A1U : ∀ a b : List Int, ordL a b = lexc a b
 | [], [] => rfl
 | [], _ :: _ => rfl
 | _ :: _, [] => rfl
 | a :: x, b :: y => by
   simp only [ordL, lexc, A1U x y];rcases A0v a b with ⟨h, e⟩ | ⟨h, e⟩ | ⟨h, e⟩ <;> rw [e]
   . rw [if_pos h]; rfl
   . rw [if_neg (by omega), if_neg (by omega)]; rfl
   . rw [if_neg (by omega), if_pos h]; rfl
theorem A1B (a b : List Int) : ordS a b = cmpS a b := by
 unfold ordS cmpS;rw [A1U];rcases A0v a.length b.length with ⟨h, e⟩ | ⟨h, e⟩ | ⟨h, e⟩ <;> rw [e]
 . rw [if_pos (by omega)]; rfl
 . rw [if_neg (by omega), if_neg (by omega)]; rfl
 . rw [if_neg (by omega), if_pos (by omega)]; rfl
abbrev LtS (x y : List Int) : Prop := ordS x y < 0
theorem LtS.irrefl (x : List Int) : ¬ LtS x x := fun h => by have := a5I x x; simp only [LtS] at h; omega
theorem LtS.of_le {x y : List Int} (h : ¬ LtS y x) (hne : x ≠ y) : LtS x y := by
 have h1 := a5I x y;have h2 := a8Z y x;simp only [LtS] at *;rcases Int.lt_trichotomy (ordS y x) 0 with h3 | h3 | h3
 . exact absurd h3 h
 . exact absurd (h2 h3).symm hne
 . exact h1.2 h3
theorem A0e : ∀ {xs ys : List (List Int)}, xs.Pairwise LtS -> ys.Pairwise LtS -> (∀ s, s ∈ xs ↔ s ∈ ys) -> xs = ys
 | [], ys, _, _, h => by
   cases ys with
   | nil => rfl
   | cons y ys => exact absurd ((h y).2 (by simp)) (by simp)
 | x :: xs, [], _, _, h => absurd ((h x).1 (by simp)) (by simp)
 | x :: xs, y :: ys, hx, hy, h => by
   rw [List.pairwise_cons] at hx hy;have e : x = y := by
     have h1 := (h x).1 (by simp);have h2 := (h y).2 (by simp);simp only [List.mem_cons] at h1 h2;rcases h1 with rfl | h1
     . rfl
     . rcases h2 with rfl | h2
       . rfl
       . exact absurd (a6t x y x (hx.1 y h2) (hy.1 x h1)) (LtS.irrefl x)
   subst e;rw [A0e hx.2 hy.2 fun s => ?_];constructor
   . intro hs;have := (h s).1 (by simp [hs]);simp only [List.mem_cons] at this;rcases this with rfl | this
     . exact absurd (hx.1 s hs) (LtS.irrefl s)
     . exact this
   . intro hs;have := (h s).2 (by simp [hs]);simp only [List.mem_cons] at this;rcases this with rfl | this
     . exact absurd (hy.1 s hs) (LtS.irrefl s)
     . exact this
theorem A0F (s : List Int) : ∀ (l : List (List Int)) (p : List Int), s ∈ p :: a2H p l ↔ s ∈ p :: l
 | [], p => by simp [a2H]
 | x :: l, p => by
   have h1 := A0F s l p;have h2 := A0F s l x;simp only [List.mem_cons] at *;simp only [a2H];split
   . rename_i e; subst e; rw [h1]; simp
   . rw [List.mem_cons, h2]
theorem A1N (s : List Int) (l : List (List Int)) : s ∈ a7P l ↔ s ∈ l := by
 cases l with
 | nil => simp [a7P]
 | cons x l => exact A0F s l x
theorem A0J : ∀ (l : List (List Int)) (p : List Int), (p :: l).Pairwise (fun a b => ¬ LtS b a) -> (p :: a2H p l).Pairwise LtS
 | [], p, _ => by simp [a2H]
 | x :: l, p, h => by
   rw [List.pairwise_cons, List.pairwise_cons] at h;simp only [a2H];split
   . rename_i e; subst e;exact A0J l x (List.pairwise_cons.2 ⟨h.2.1, h.2.2⟩)
   . rename_i hne;have ih := A0J l x (List.pairwise_cons.2 ⟨h.2.1, h.2.2⟩);have hpx : LtS p x := LtS.of_le (h.1 x (by simp)) (Ne.symm hne);refine List.pairwise_cons.2 ⟨fun y hy => ?_, ih⟩;simp only [List.mem_cons] at hy;rcases hy with rfl | hy
     . exact hpx
     . exact a6t p x y hpx ((List.pairwise_cons.1 ih).1 y hy)
theorem A1d {l : List (List Int)} (h : l.Pairwise (fun a b => ¬ LtS b a)) : (a7P l).Pairwise LtS := by
 cases l with
 | nil => simp [a7P]
 | cons x l => exact A0J l x h
def A0R (xs : List (List Int)) : List (List Int) := a7P (b3l ordS xs)
theorem A0N (xs : List (List Int)) : (b3l ordS xs).Perm xs := List.mergeSort_perm _ _
theorem A0p (s : List Int) (xs : List (List Int)) : s ∈ A0R xs ↔ s ∈ xs := by rw [A0R, A1N, (A0N xs).mem_iff]
theorem A1g (xs : List (List Int)) : (A0R xs).Pairwise LtS := by
 refine A1d ?_;have h := List.pairwise_mergeSort (le := fun x y => !Go.Proofs.ltOf ordS y x) (fun x y z h1 h2 => ?_) (fun x y => ?_) xs
 . refine List.Pairwise.imp ?_ h;intro a b hab;simpa [Go.Proofs.ltOf] using hab
 . simp only [Go.Proofs.ltOf, Bool.not_eq_true', decide_eq_false_iff_not] at *;intro h3;rcases Int.lt_trichotomy (ordS y x) 0 with h | h | h
   . exact h1 h
   . have := a8Z y x h; subst this; exact h2 h3
   . exact h2 (a6t z x y h3 ((a5I x y).2 h))
 . simp only [Go.Proofs.ltOf, Bool.or_eq_true, Bool.not_eq_true', decide_eq_false_iff_not];have := a5I x y;omega
theorem Ag4.val (xs : List (List Int)) (h : SmL xs) : Ag4.F (xs, Aa3.cloG (()), ()) = some ((), (b3l ordS xs, ())) := by
 unfold Ag4.F sortF;rw [if_pos];refine ⟨fun x hx y hy => ?_, by have := h.1; show xs.length < _; omega⟩;show (Aa3.F (x, y, ())).map (·.1) = _;rw [Aa3.val x y (h.2 x hx) (h.2 y hy), A1B]; rfl
theorem Ag2.val (xs : List (List Int)) (h : SmL xs) : Ag2.F (xs, Ac0.cloG (()), ()) = some ((a7P xs, ()), ()) := by
 unfold Ag2.F compF;rw [if_pos];refine ⟨fun x hx y _ => ?_, by have := h.1; show xs.length < _; omega⟩;have hxs : Sm x := by
   simp only [List.mem_cons] at hx;rcases hx with rfl | hx
   . simp [Sm]
   . exact h.2 x hx
 obtain ⟨b, hb, hb'⟩ := Ac0.same x y hxs;show (Ac0.F (x, y, ())).map (·.1) = _;rw [hb];have : b = decide (x = y) := Bool.eq_iff_iff.2 (hb'.trans (by simp));rw [this]; rfl
theorem SmL.perm {xs ys : List (List Int)} (h : SmL xs) (hp : ys.Perm xs) : SmL ys := ⟨by rw [hp.length_eq]; exact h.1, fun x hx => h.2 x (hp.mem_iff.1 hx)⟩
theorem Af3.val (xs : List (List Int)) (h : SmL xs) : Af3.F (xs, ()) = some ((A0R xs, ()), ()) := by
 rw [Af3.eq, Af3.T, Ad6.val xs h];simp only [Option.bind_some, Ag4.val xs h, Ag2.val _ (h.perm (A0N xs))];rfl
theorem Ae0.val (xs : List (List Int)) (f : List Int × Unit -> Option (Bool × Unit)) (p : List Int -> Bool) (hf : ∀ x ∈ xs, f (x, ()) = some (p x, ())) (hn : xs.length < 4611686018427387904) :
   ∃ r : Int, Ae0.F (xs, f, ()) = some ((r, ()), ()) /\ ((r = -1 /\ ∀ x ∈ xs, p x = false) ∨ ∃ j : Nat, j < xs.length /\ r = j /\ p (xs.getD j []) = true /\ ∀ i, i < j -> p (xs.getD i []) = false) := by
 obtain ⟨r, hr, hq⟩ := Ev.loop (σ := Unit) (R := (Int × Unit) × Unit) (fun k i _ => Ae0.l2 k xs f xs.length (i : Int)) xs.length (fun i _ => ∀ j, j < i -> p (xs.getD j []) = false)
   (fun r => ∃ v : Int, r = ((v, ()), ()) /\ ((v = -1 /\ ∀ x ∈ xs, p x = false) ∨ ∃ j : Nat, j < xs.length /\ v = j /\ p (xs.getD j []) = true /\ ∀ i, i < j -> p (xs.getD i []) = false))
   (fun i s hi hI => by
     have E := fun k => Ae0.l2_eq k xs f xs.length (i : Int);simp only [if_pos (ltI.2 hi), if_pos (idxI.2 hi), Int.toNat_natCast, hf _ (A0y [] hi), Option.bind_some, A0j (show i < 4611686018427387904 by omega)] at E;cases hp : p (xs.getD i []) with
     | true => exact .inl ⟨_, (Ev.const _).succ fun k => by rw [E, if_pos hp], i, rfl, .inr ⟨i, hi, rfl, hp, hI⟩⟩
     | false =>
       refine .inr ⟨(), fun j hj => ?_, Goes.succ fun k => by rw [E, if_neg (by rw [hp]; simp)]⟩;by_cases hji : j = i
       . rw [hji]; exact hp
       . exact hI j (by omega))
   (fun s hI => ⟨_, (Ev.const _).succ fun k => by rw [Ae0.l2_eq, if_neg (by simp)], -1, rfl, .inl ⟨rfl, fun x hx => by
     obtain ⟨j, hj, rfl⟩ := List.getElem_of_mem hx;rw [<- A0z (d := []) hj]; exact hI j hj⟩⟩) 0 () (Nat.zero_le _) (by intro j hj; omega)
 obtain ⟨v, rfl, hv⟩ := hq;exact ⟨v, Ae0.of _ _ (hr.of_eq fun k => rfl), hv⟩
theorem Ab9.val (xs : List (List Int)) (f : List Int × Unit -> Option (Bool × Unit)) (p : List Int -> Bool) (hf : ∀ x ∈ xs, f (x, ()) = some (p x, ())) (hn : xs.length < 4611686018427387904) :
   Ab9.F (xs, f, ()) = some ((xs.any p, ()), ()) := by
 obtain ⟨r, hr, h⟩ := Ae0.val xs f p hf hn;rw [Ab9.eq, Ab9.T, hr];simp only [Option.bind_some];rcases h with ⟨rfl, h⟩ | ⟨j, hj, rfl, hp, -⟩
 . have : xs.any p = false := by simp only [List.any_eq_false]; intro x hx; simp [h x hx]
   rw [this]; rfl
 . have : xs.any p = true := List.any_eq_true.2 ⟨_, A0y [] hj, hp⟩;rw [this]; simp
theorem Ae1.val (xs : List Int) (f : Int × Unit -> Option (Bool × Unit)) (p : Int -> Bool) (hf : ∀ x ∈ xs, f (x, ()) = some (p x, ())) (hn : xs.length < 4611686018427387904) :
   ∃ r : Int, Ae1.F (xs, f, ()) = some ((r, ()), ()) /\ ((r = -1 /\ ∀ x ∈ xs, p x = false) ∨ ∃ j : Nat, j < xs.length /\ r = j /\ p (xs.getD j 0) = true /\ ∀ i, i < j -> p (xs.getD i 0) = false) := by
 obtain ⟨r, hr, hq⟩ := Ev.loop (σ := Unit) (R := (Int × Unit) × Unit) (fun k i _ => Ae1.l2 k xs f xs.length (i : Int)) xs.length (fun i _ => ∀ j, j < i -> p (xs.getD j 0) = false)
   (fun r => ∃ v : Int, r = ((v, ()), ()) /\ ((v = -1 /\ ∀ x ∈ xs, p x = false) ∨ ∃ j : Nat, j < xs.length /\ v = j /\ p (xs.getD j 0) = true /\ ∀ i, i < j -> p (xs.getD i 0) = false))
   (fun i s hi hI => by
     have E := fun k => Ae1.l2_eq k xs f xs.length (i : Int);simp only [if_pos (ltI.2 hi), if_pos (idxI.2 hi), Int.toNat_natCast, hf _ (A0y 0 hi), Option.bind_some, A0j (show i < 4611686018427387904 by omega)] at E;cases hp : p (xs.getD i 0) with
     | true => exact .inl ⟨_, (Ev.const _).succ fun k => by rw [E, if_pos hp], i, rfl, .inr ⟨i, hi, rfl, hp, hI⟩⟩
     | false =>
       refine .inr ⟨(), fun j hj => ?_, Goes.succ fun k => by rw [E, if_neg (by rw [hp]; simp)]⟩;by_cases hji : j = i
       . rw [hji]; exact hp
       . exact hI j (by omega))
   (fun s hI => ⟨_, (Ev.const _).succ fun k => by rw [Ae1.l2_eq, if_neg (by simp)], -1, rfl, .inl ⟨rfl, fun x hx => by
     obtain ⟨j, hj, rfl⟩ := List.getElem_of_mem hx;rw [<- A0z (d := 0) hj]; exact hI j hj⟩⟩) 0 () (Nat.zero_le _) (by intro j hj; omega)
 obtain ⟨v, rfl, hv⟩ := hq;exact ⟨v, Ae1.of _ _ (hr.of_eq fun k => rfl), hv⟩
theorem Ag0.val (xs : List Int) (f : Int × Unit -> Option (Bool × Unit)) (p : Int -> Bool) (hf : ∀ x ∈ xs, f (x, ()) = some (p x, ())) (hn : xs.length < 4611686018427387904) :
   Ag0.F (xs, f, ()) = some ((xs.any p, ()), ()) := by
 obtain ⟨r, hr, h⟩ := Ae1.val xs f p hf hn;rw [Ag0.eq, Ag0.T, hr];simp only [Option.bind_some];rcases h with ⟨rfl, h⟩ | ⟨j, hj, rfl, hp, -⟩
 . have : xs.any p = false := by simp only [List.any_eq_false]; intro x hx; simp [h x hx]
   rw [this]; rfl
 . have : xs.any p = true := List.any_eq_true.2 ⟨_, A0y 0 hj, hp⟩;rw [this]; simp
def A1K (xs : List Int) : Prop := ∀ i, 0 < i -> i < xs.length -> xs.getD (i - 1) 0 < xs.getD i 0
def A1J (lo hi : Int) (xs : List Int) : Prop := ∀ a ∈ xs, lo ≤ a /\ a ≤ hi
theorem A1L {lo hi : Int} {xs : List Int} : A1J lo hi xs ↔ ∀ i, i < xs.length -> lo ≤ xs.getD i 0 /\ xs.getD i 0 ≤ hi := by
 refine ⟨fun h i hi => h _ (A0y 0 hi), fun h a ha => ?_⟩;obtain ⟨j, hj, rfl⟩ := List.getElem_of_mem ha;have := h j hj
 rwa [A0z hj] at this
theorem Ae4.val (xs : List Int) (lo hi : Int) (hn : xs.length < 4611686018427387904) : ∃ v, Ae4.F (xs, lo, hi, ()) = some ((v, ()), ()) /\ (v = true ↔ A1J lo hi xs /\ A1K xs) := by
 obtain ⟨v, hv, hv'⟩ := Ev.allP (L := fun k i => Ae4.l2 k xs lo hi (i : Int)) (a := ()) (b := ()) (n := xs.length) (fun i => (lo ≤ xs.getD i 0 /\ xs.getD i 0 ≤ hi) /\ (0 < i -> xs.getD (i - 1) 0 < xs.getD i 0)) true (fun i hi2 => by
   have E := fun k => Ae4.l2_eq k xs lo hi (i : Int);simp only [if_pos (ltI.2 hi2), if_pos (idxI.2 hi2), Int.toNat_natCast, Ac9.val, Option.bind_some, A0j (show i < 4611686018427387904 by omega)] at E;by_cases h : lo ≤ xs.getD i 0 /\ xs.getD i 0 ≤ hi
   . simp only [decide_eq_true h, Bool.not_true, Bool.false_eq_true, if_false] at E;by_cases h0 : 0 < i
     . have h1 : i - 1 < xs.length := by omega
       simp only [if_pos (show decide ((i : Int) > 0) = true by simp; omega), A1l h0 (show i < 4611686018427387904 by omega), if_pos (idxI.2 h1), Int.toNat_natCast] at E;by_cases h2 : xs.getD (i - 1) 0 < xs.getD i 0
       . exact .inl ⟨⟨h, fun _ => h2⟩, fun k => by rw [E, if_neg (by simp only [decide_eq_true_eq]; omega)]⟩
       . exact .inr ⟨fun hh => h2 (hh.2 h0), fun k => by rw [E, if_pos (by simp only [decide_eq_true_eq]; omega)]⟩
     . exact .inl ⟨⟨h, fun h1 => absurd h1 h0⟩, fun k => by rw [E, if_neg (by simp only [decide_eq_true_eq]; omega)]⟩
   . exact .inr ⟨fun hh => h hh.1, fun k => by rw [E, if_pos (by rw [decide_eq_false h]; rfl)]⟩) ((Ev.const _).succ fun k => by rw [Ae4.l2_eq, if_neg (by simp)]) 0 (Nat.zero_le _)
 refine ⟨v, Ae4.of _ _ _ (hv.of_eq fun k => rfl), hv'.trans ?_⟩;rw [A1L];exact ⟨fun ⟨_, h⟩ => ⟨fun i hi => (h i (Nat.zero_le _) hi).1, fun i h0 hi => (h i (Nat.zero_le _) hi).2 h0⟩, fun ⟨h1, h2⟩ => ⟨rfl, fun i _ hi => ⟨h1 i hi, fun h0 => h2 i h0 hi⟩⟩⟩
theorem Ac6.val (xs : List Int) (hn : xs.length < 4611686018427387904) : ∃ v, Ac6.F (xs, ()) = some ((v, ()), ()) /\ (v = true ↔ A1K xs) := by
 by_cases hz : xs.length = 0
 . exact ⟨true, Ac6.of _ (((Ev.const _).succ fun k => by rw [Ac6.T, Ac6.l2_eq, if_neg (by simp [hz])]).of_eq fun k => rfl), by simp; intro i h1 h2; omega⟩
 obtain ⟨v, hv, hv'⟩ := Ev.allF (L := fun k i => Ac6.l2 k xs (i : Int)) (a := ()) (b := ()) (n := xs.length) (fun i => 0 < i -> xs.getD (i - 1) 0 < xs.getD i 0) true 1 (fun i h0 hi2 => by
   have E := fun k => Ac6.l2_eq k xs (i : Int);have h0 : 0 < i := h0
   . have h1 : i - 1 < xs.length := by omega
     simp only [if_pos (ltI.2 hi2), if_pos (idxI.2 hi2), Int.toNat_natCast, A0j (show i < 4611686018427387904 by omega), A1l h0 (show i < 4611686018427387904 by omega), if_pos (idxI.2 h1)] at E;by_cases h2 : xs.getD (i - 1) 0 < xs.getD i 0
     . exact .inl ⟨fun _ => h2, fun k => by rw [E, if_neg (by simp only [decide_eq_true_eq]; omega)]⟩
     . exact .inr ⟨fun hh => h2 (hh h0), fun k => by rw [E, if_pos (by simp only [decide_eq_true_eq]; omega)]⟩) ((Ev.const _).succ fun k => by rw [Ac6.l2_eq, if_neg (by simp)]) 1 (Nat.le_refl _) (by omega)
 refine ⟨v, Ac6.of _ (hv.of_eq fun k => rfl), hv'.trans ?_⟩;exact ⟨fun ⟨_, h⟩ i h0 hi => h i h0 hi h0, fun h => ⟨rfl, fun i _ hi h0 => h i h0 hi⟩⟩
def A0x (s : List Int) (k : Nat) : List Int := s.take k ++ s.drop (k + 1)
theorem A0E {s : List Int} {k : Nat} (h : k < s.length) : (A0x s k).length = s.length - 1 := by simp [A0x]; omega
def A0K (s : List Int) : Prop := (1 ≤ s.length /\ s.length ≤ 4) /\ A1J 0 9 s /\ A1K s
def CplxOk (c : List (List Int)) : Prop := c.length ≤ 48 /\ ∀ i, i < c.length -> A0K (c.getD i []) /\ (0 < i -> cmpS (c.getD (i - 1) []) (c.getD i []) < 0) /\ (1 < (c.getD i []).length -> ∀ k, k < (c.getD i []).length -> A0x (c.getD i []) k ∈ c)
theorem CplxOk.sorted {c : List (List Int)} (h : CplxOk c) : A0I c := A0d fun i h0 hi => (h.2 i hi).2.1 h0
theorem CplxOk.small {c : List (List Int)} (h : CplxOk c) : SmL c := ⟨by have := h.1; omega, fun x hx => by
 obtain ⟨j, hj, rfl⟩ := List.getElem_of_mem hx;have := (h.2 j hj).1.1.2;rw [A0z hj] at this;unfold Sm; omega⟩
theorem Aa0.val (c : List (List Int)) (s : List Int) (h : SmL c) : ∃ r : Int, Aa0.F (c, s, ()) = some ((r, ()), ()) /\ (r < 0 ↔ s ∉ c) := by
 have hn := h.1;obtain ⟨v, hv, r, hv', hr⟩ := Ev.loop (σ := Unit) (R := (Int × Unit) × Unit) (fun k i _ => Aa0.l2 k c s (i : Int)) c.length (fun i _ => ∀ j, j < i -> c.getD j [] ≠ s) (fun v => ∃ r : Int, v = ((r, ()), ()) /\ (r < 0 ↔ s ∉ c))
   (fun i _ hi hI => by
     have E := fun k => Aa0.l2_eq k c s (i : Int);obtain ⟨b, hb, hb'⟩ := Ac2.same (c.getD i []) s (h.2 _ (A0y _ hi));simp only [if_pos (ltI.2 hi), if_pos (idxI.2 hi), Int.toNat_natCast, hb, Option.bind_some, A0j (show i < 4611686018427387904 by omega)] at E;cases b with
     | true =>
       have hm : s ∈ c := hb'.1 rfl ▸ A0y [] hi;exact .inl ⟨_, (Ev.const _).succ fun k => by rw [E, if_pos rfl], _, rfl, by simp [hm]⟩
     | false =>
       refine .inr ⟨(), fun j hj => ?_, Goes.succ fun k => by rw [E, if_neg (by simp)]⟩;by_cases hji : j = i
       . rw [hji]; exact fun e => absurd (hb'.2 e) (by simp)
       . exact hI j (by omega))
   (fun _ hI => ⟨_, (Ev.const _).succ fun k => by rw [Aa0.l2_eq, if_neg (by simp)], _, rfl, by
     have : s ∉ c := fun hm => by
       obtain ⟨j, hj, e⟩ := List.getElem_of_mem hm;exact hI j hj (by rw [A0z hj]; exact e)
     simp [this]⟩) 0 () (Nat.zero_le _) (by intro j hj; omega)
 subst hv';exact ⟨r, Aa0.of _ _ (hv.of_eq fun k => rfl), hr⟩
theorem Aa0.val2 (c : List (List Int)) (n : Nat) (hn : n < c.length) (hs : A0I c) (h : SmL c) : Aa0.F (c, c.getD n [], ()) = some (((n : Int), ()), ()) := by
 have hl := h.1;obtain ⟨v, hv, hv'⟩ := Ev.loop (σ := Unit) (R := (Int × Unit) × Unit) (fun k i _ => Aa0.l2 k c (c.getD n []) (i : Int)) c.length (fun i _ => i ≤ n) (fun v => v = (((n : Int), ()), ()))
   (fun i _ hi hI => by
     have E := fun k => Aa0.l2_eq k c (c.getD n []) (i : Int);obtain ⟨b, hb, hb'⟩ := Ac2.same (c.getD i []) (c.getD n []) (h.2 _ (A0y _ hi));simp only [if_pos (ltI.2 hi), if_pos (idxI.2 hi), Int.toNat_natCast, hb, Option.bind_some, A0j (show i < 4611686018427387904 by omega)] at E;cases b with
     | true =>
       have := A1I hs hi hn (hb'.1 rfl);exact .inl ⟨_, (Ev.const _).succ fun k => by rw [E, if_pos rfl], by rw [this]⟩
     | false =>
       refine .inr ⟨(), ?_, Goes.succ fun k => by rw [E, if_neg (by simp)]⟩;have : i ≠ n := fun e => absurd (hb'.2 (by rw [e])) (by simp);omega)
   (fun _ hI => by omega) 0 () (Nat.zero_le _) (Nat.zero_le _)
 subst hv';exact Aa0.of _ _ (hv.of_eq fun k => rfl)
theorem cutA (s : List Int) (k : Nat) : cutL s (0 : Int) (k : Int) = s.take k := by simp [cutL]
theorem cutB (s : List Int) (k : Nat) : cutL s ((k : Nat) : Int) (s.length : Int) = s.drop k := by simp [cutL]
theorem Ac3.val (s : List Int) (k : Nat) (hk : k < s.length) (hs : s.length ≤ 1048576) : Ac3.F (s, (k : Int), ()) = some ((A0x s k, ()), ()) := by
 rw [Ac3.eq, Ac3.T, if_pos (by omega), cutA, Ab2.eq, Ab2.T, if_pos (by simp only [List.length_nil, List.length_take, bigA]; omega)];simp only [Option.bind_some];rw [A0j (by omega), if_pos (by omega), cutB, if_pos (by simp only [List.nil_append, List.length_take, List.length_drop, bigA]; omega)];rfl
theorem Ab6.val2 (a b : List Int) (ha : a.length ≤ 1048576) (hb : b.length ≤ 1048576) : Ab6.F ([a, b], ()) = some ((a ++ b, ()), ()) := by
 have w1 : IntKind.i64.wrap (0 + (a.length : Int)) = (a.length : Int) := by rw [A0H (by omega) (by omega)]; omega
 have w2 : IntKind.i64.wrap ((a.length : Int) + (b.length : Int)) = (a.length : Int) + (b.length : Int) := A0H (by omega) (by omega);have w3 : IntKind.i64.wrap ((0 : Int) + 1) = 1 := A0H (by omega) (by omega);have w4 : IntKind.i64.wrap ((1 : Int) + 1) = 2 := A0H (by omega) (by omega);refine Ab6.of _ ⟨6, fun k hk => ?_⟩;obtain ⟨k, rfl⟩ : ∃ j, k = j + 1 + 1 + 1 + 1 + 1 + 1 := ⟨k - 6, by omega⟩;show Ab6.T (k + 1 + 1 + 1 + 1 + 1 + 1) [a, b] = _;have e0 : ((([a, b] : List (List Int)).length : Nat) : Int) = 2 := rfl;rw [Ab6.T, e0, Ab6.l3_eq, if_pos (by decide), if_pos (by rw [e0]; decide)];simp only [Int.toNat_zero, List.getD_cons_zero, w1, w3];rw [if_neg (by simp only [decide_eq_true_eq]; omega), Ab6.l3_eq, if_pos (by decide), if_pos (by rw [e0]; decide)];simp only [show (1 : Int).toNat = 1 from rfl, List.getD_cons_succ, List.getD_cons_zero, w2, w4];rw [if_neg (by simp only [decide_eq_true_eq]; omega), Ab6.l3_eq, if_neg (by decide), if_pos (by simp only [bigN]; omega), e0, Ab6.l11_eq, if_pos (by decide), if_pos (by rw [e0]; decide)];simp only [Int.toNat_zero, List.getD_cons_zero, w3];rw [if_pos (by simp only [List.length_nil, bigA]; omega), Ab6.l11_eq, if_pos (by decide), if_pos (by rw [e0]; decide)];simp only [show (1 : Int).toNat = 1 from rfl, List.getD_cons_succ, List.getD_cons_zero, w4, List.nil_append];rw [if_pos (by simp only [bigA]; omega), Ab6.l11_eq, if_neg (by decide)]
def A0L (s : List Int) : List (List Int) := if 1 < s.length then (List.range s.length).map (A0x s) else []
theorem Ab4.val (s : List Int) (hs : s.length ≤ 1048576) : Ab4.F (s, ()) = some ((A0L s, ()), ()) := by
 by_cases h1 : 1 < s.length
 . obtain ⟨r, hr, hg⟩ := Goes.loop (R := (List (List Int) × Unit) × Unit) (fun k i (x : List (List Int)) => Ab4.l3 k s s.length (i : Int) x) s.length (fun i x => x = (List.range i).map (A0x s)) (fun i x hi hx => ⟨_, rfl, Goes.succ fun k => by
     rw [Ab4.l3_eq, if_pos (ltI.2 hi), if_pos (by simp; omega), if_pos (by omega), A0j (by omega), if_pos (by omega), cutA, cutB, Ab6.val2 _ _ (by simp; omega) (by simp; omega)];simp only [Option.bind_some];rw [if_pos (by rw [hx]; simp only [List.length_map, List.length_range, List.length_cons, List.length_nil, bigA]; omega), hx, List.range_succ, List.map_append];rfl⟩) 0 [] (Nat.zero_le _) rfl
   have : A0L s = r := by rw [A0L, if_pos h1, hr]
   rw [this];exact Ab4.of _ ((hg _ ((Ev.const _).succ fun k => by rw [Ab4.l3_eq, if_neg (by simp)])).of_eq fun k => rfl)
 . obtain ⟨r, hr, hg⟩ := Goes.loop (R := (List (List Int) × Unit) × Unit) (fun k i (x : List (List Int)) => Ab4.l3 k s s.length (i : Int) x) s.length (fun i x => x = []) (fun i x hi hx => ⟨_, hx, Goes.succ fun k => by
     rw [Ab4.l3_eq, if_pos (ltI.2 hi), if_neg (by simp; omega), A0j (by omega)]⟩) 0 [] (Nat.zero_le _) rfl
   have : A0L s = r := by rw [A0L, if_neg h1, hr]
   rw [this];exact Ab4.of _ ((hg _ ((Ev.const _).succ fun k => by rw [Ab4.l3_eq, if_neg (by simp)])).of_eq fun k => rfl)
theorem Af2.val (s : List Int) (hs : s.length ≤ 1048576) : ∃ v, Af2.F (s, ()) = some ((v, ()), ()) /\ (v = true ↔ A0K s) := by
 obtain ⟨v1, h1, h1'⟩ := Ac6.val s (by omega);have h2 := Ag0.val s (Ag6.cloG (())) (fun a => !decide (0 ≤ a /\ a ≤ 9)) (fun a _ => by
   show (Ag6.F (a, ())).map (·.1) = _;rw [Ag6.eq, Ag6.T, Ag8.eq, Ag8.T, Af5.val]; rfl) (by omega)
 rw [Af2.eq, Af2.T, h1, h2];simp only [Option.bind_some];unfold A0K;by_cases g1 : 1 ≤ s.length
 . by_cases g2 : s.length ≤ 4
   . rw [if_pos (by simp; omega), if_pos (by simp; omega)];cases v1 with
     | true =>
       refine ⟨_, by rw [if_pos rfl], ?_⟩;have hr := h1'.1 rfl;simp only [Bool.not_eq_true', List.any_eq_false, Bool.not_eq_eq_eq_not, Bool.not_true, A1J, g1, g2, hr, and_self, and_true, true_and];simp
     | false => exact ⟨false, by rw [if_neg (by simp)], by simp; intro _ _ _ hr; exact absurd (h1'.2 hr) (by simp)⟩
   . exact ⟨false, by rw [if_pos (by simp; omega), if_neg (by simp; omega)], by simp; intro _ h; omega⟩
 . exact ⟨false, by rw [if_neg (by simp; omega)], by simp; intro h; omega⟩
theorem Ag1.val (s : List Int) (hs : s.length ≤ 1048576) : ∃ v, Ag1.F (s, ()) = some ((v, ()), ()) /\ (v = true ↔ A0K s) := by
 obtain ⟨v1, h1, h1'⟩ := Ae4.val s 0 9 (by omega);rw [Ag1.eq, Ag1.T, h1, Ac9.val];simp only [Option.bind_some];unfold A0K;by_cases g : 1 ≤ (s.length : Int) /\ (s.length : Int) ≤ 4
 . rw [if_pos (by simp only [decide_eq_true_eq]; exact g)];exact ⟨v1, rfl, h1'.trans ⟨fun h => ⟨by omega, h⟩, fun h => h.2⟩⟩
 . exact ⟨false, by rw [if_neg (by simp only [decide_eq_true_eq]; exact g)], by simp; intro a b; omega⟩
theorem Aa2.val (c : List (List Int)) (h : SmL c) : ∃ v, Aa2.F (c, ()) = some ((v, ()), ()) /\ (v = true ↔ CplxOk c) := by
 by_cases hn : c.length ≤ 48
 . obtain ⟨v, hv, hv'⟩ := Ev.loop (σ := Unit) (R := (Bool × Unit) × Unit) (fun k i _ => Aa2.l4 k c (i : Int)) c.length (fun i _ => ∀ j, j < i -> A0K (c.getD j []) /\ (0 < j -> cmpS (c.getD (j - 1) []) (c.getD j []) < 0) /\ (1 < (c.getD j []).length -> ∀ k, k < (c.getD j []).length -> A0x (c.getD j []) k ∈ c)) (fun r => ∃ v, r = ((v, ()), ()) /\ (v = true ↔ CplxOk c))
     (fun i _ hi hI => by
       have hsm : (c.getD i []).length ≤ 1048576 := h.2 _ (A0y _ hi);obtain ⟨s, hs⟩ : ∃ s, c.getD i [] = s := ⟨_, rfl⟩;have E := fun k => Aa2.l4_eq k c (i : Int);obtain ⟨b, hb, hb'⟩ := Ag1.val s (hs ▸ hsm);rw [hs] at hsm;simp only [if_pos (ltI.2 hi), if_pos (idxI.2 hi), Int.toNat_natCast, hs, hb, Option.bind_some] at E;have bad : (¬ (A0K s /\ (0 < i -> cmpS (c.getD (i - 1) []) s < 0) /\ (1 < s.length -> ∀ k, k < s.length -> A0x s k ∈ c))) -> ∃ v, (((false, ()), ()) : (Bool × Unit) × Unit) = ((v, ()), ()) /\ (v = true ↔ CplxOk c) := fun hno => ⟨false, rfl, by simp; intro hc; exact hno (by have := hc.2 i hi; rw [hs] at this; exact this)⟩;cases b with
       | false => exact .inl ⟨_, (Ev.const _).succ fun k => by rw [E]; rfl, bad fun hc => absurd (hb'.2 hc.1) (by simp)⟩
       | true =>
         have hsimp := hb'.1 rfl;simp only [Bool.not_true, Bool.false_eq_true, if_false] at E;have inner : (∃ r, Ev (fun k => Aa2.l10 k c (i : Int) s ((0 : Nat) : Int)) r /\ r = ((false, ()), ()) /\ ¬ (1 < s.length -> ∀ k, k < s.length -> A0x s k ∈ c)) ∨ ((1 < s.length -> ∀ k, k < s.length -> A0x s k ∈ c) /\ Goes (fun k => Aa2.l10 k c (i : Int) s ((0 : Nat) : Int)) (fun k => Aa2.l4 k c ((i + 1 : Nat) : Int))) := by
           by_cases h1 : 1 < s.length
           . by_cases hall : ∀ k, k < s.length -> A0x s k ∈ c
             . refine .inr ⟨fun _ => hall, ?_⟩;obtain ⟨_, _, hg⟩ := Goes.loop (σ := Unit) (R := (Bool × Unit) × Unit) (fun k j _ => Aa2.l10 k c (i : Int) s (j : Int)) s.length (fun _ _ => True) (fun j _ hj _ => ⟨(), trivial, Goes.succ fun k => by
                 obtain ⟨r, hr, hr'⟩ := Aa0.val c (A0x s j) h;rw [Aa2.l10_eq, if_pos (ltI.2 hj), if_pos (by simp; omega), Ac3.val s j hj hsm];simp only [Option.bind_some, hr];rw [if_neg (by simp only [decide_eq_true_eq, hr']; exact fun hh => hh (hall j hj)), A0j (by omega)]⟩) 0 () (Nat.zero_le _) trivial
               exact hg.trans (Goes.succ fun k => by rw [Aa2.l10_eq, if_neg (by simp), A0j (by omega)])
             . left;obtain ⟨v, hv, hv'⟩ := Ev.loop (σ := Unit) (R := (Bool × Unit) × Unit) (fun k j _ => Aa2.l10 k c (i : Int) s (j : Int)) s.length (fun j _ => ∀ k, k < j -> A0x s k ∈ c) (fun r => r = ((false, ()), ())) (fun j _ hj hJ => by
                 obtain ⟨r, hr, hr'⟩ := Aa0.val c (A0x s j) h;have E2 := fun k => Aa2.l10_eq k c (i : Int) s (j : Int);simp only [if_pos (ltI.2 hj), if_pos (show decide ((s.length : Int) > 1) = true by simp; omega), Ac3.val s j hj hsm, Option.bind_some, hr, A0j (show j < 4611686018427387904 by omega)] at E2;by_cases hd : A0x s j ∈ c
                 . refine .inr ⟨(), fun k hk => ?_, Goes.succ fun k => by rw [E2, if_neg (by simp only [decide_eq_true_eq, hr']; exact fun hh => hh hd)]⟩;by_cases hkj : k = j
                   . rw [hkj]; exact hd
                   . exact hJ k (by omega)
                 . exact .inl ⟨_, (Ev.const _).succ fun k => by rw [E2, if_pos (by simp only [decide_eq_true_eq, hr']; exact hd)], rfl⟩) (fun _ hJ => absurd hJ hall) 0 () (Nat.zero_le _) (by intro k hk; omega)
               exact ⟨v, hv, hv', fun hh => hall (hh h1)⟩
           . refine .inr ⟨fun hh => absurd hh h1, Goes.succ fun k => ?_⟩;rw [Aa2.l10_eq];by_cases h0 : (0 : Nat) < s.length
             . rw [if_pos (ltI.2 h0), if_neg (by simp; omega), A0j (by omega)]
             . rw [if_neg (by simp only [decide_eq_true_eq]; omega), A0j (by omega)]
         have pre : ((0 < i -> cmpS (c.getD (i - 1) []) s < 0) /\ ∀ k, Aa2.l4 (k + 1) c (i : Int) = Aa2.l10 k c (i : Int) s ((0 : Nat) : Int)) ∨ ((∀ k, Aa2.l4 (k + 1) c (i : Int) = some ((false, ()), ())) /\ ¬ (0 < i -> cmpS (c.getD (i - 1) []) s < 0)) := by
           by_cases h0 : 0 < i
           . have h1 : i - 1 < c.length := by omega
             simp only [if_pos (show decide ((i : Int) > 0) = true by simp; omega), A1l h0 (show i < 4611686018427387904 by omega), if_pos (idxI.2 h1), Int.toNat_natCast, Aa7.val _ s (h.2 _ (A0y _ h1)), Option.bind_some] at E;by_cases hlt : cmpS (c.getD (i - 1) []) s < 0
             . exact .inl ⟨fun _ => hlt, fun k => by rw [E, if_neg (by simp only [decide_eq_true hlt]; simp)]; rfl⟩
             . exact .inr ⟨fun k => by rw [E, if_pos (by simp only [decide_eq_false hlt]; rfl)], fun hh => hlt (hh h0)⟩
           . simp only [if_neg (show ¬ decide ((i : Int) > 0) = true by simp; omega)] at E;exact .inl ⟨fun h => absurd h h0, fun k => by rw [E]; rfl⟩
         rcases pre with ⟨hlt, E3⟩ | ⟨E4, hno⟩
         . rcases inner with ⟨r, hr, rfl, hno⟩ | ⟨hyes, hg⟩
           . exact .inl ⟨_, hr.succ E3, bad fun hc => hno hc.2.2⟩
           . refine .inr ⟨(), fun j hj => ?_, (Goes.succ E3).trans hg⟩;by_cases hji : j = i
             . rw [hji, hs]; exact ⟨hsimp, hlt, hyes⟩
             . exact hI j (by omega)
         . exact .inl ⟨_, (Ev.const _).succ E4, bad fun hc => hno hc.2.1⟩)
     (fun _ hI => ⟨_, (Ev.const _).succ fun k => by rw [Aa2.l4_eq, if_neg (by simp)], true, rfl, by simp; exact ⟨hn, hI⟩⟩) 0 () (Nat.zero_le _) (by intro j hj; omega)
   obtain ⟨b, rfl, hb⟩ := hv';exact ⟨b, Aa2.of _ (hv.of_eq fun k => by rw [Aa2.T, if_neg (by simp; omega)]; rfl), hb⟩
 . exact ⟨false, Aa2.of _ ((Ev.const _).of_eq fun k => by rw [Aa2.T, if_pos (by simp; omega)]), by simp; intro hc; exact hn hc.1⟩
theorem Ab2.val (xs : List Int) (h : xs.length ≤ 1048576) : Ab2.F (xs, ()) = some ((xs, ()), ()) := by
 rw [Ab2.eq, Ab2.T, if_pos (by simp only [List.length_nil, bigA]; omega)]; rfl
def A0q (A : List Int -> Prop) : Prop := ∀ t, A t -> 1 < t.length -> ∀ k, k < t.length -> A (A0x t k)
def insN (c : List (List Int)) (s : List Int) : Nat := c.findIdx fun t => !decide (cmpS t s < 0)
def insS (c : List (List Int)) (s : List Int) : List (List Int) := c.take (insN c s) ++ [s] ++ c.drop (insN c s)
theorem A0S (c : List (List Int)) (s : List Int) : insN c s ≤ c.length /\ (∀ i, i < insN c s -> cmpS (c.getD i []) s < 0) /\ (insN c s < c.length -> ¬ cmpS (c.getD (insN c s) []) s < 0) := by
 unfold insN;have hle : c.findIdx (fun t => !decide (cmpS t s < 0)) ≤ c.length := List.findIdx_le_length;refine ⟨hle, fun i hi => ?_, fun h => ?_⟩
 . have := List.not_of_lt_findIdx hi;rw [<- A0z (d := []) (by omega)] at this;simpa using this
 . have h3 := List.findIdx_getElem (w := h) (p := fun t => !decide (cmpS t s < 0)) (xs := c);rw [<- A0z (d := []) h] at h3;simpa using h3
theorem A0A (c : List (List Int)) (s t : List Int) : t ∈ insS c s ↔ t = s ∨ t ∈ c := by
 unfold insS;have h : t ∈ c ↔ t ∈ c.take (insN c s) ∨ t ∈ c.drop (insN c s) := by
   rw [<- List.mem_append, List.take_append_drop]
 simp only [List.mem_append, List.mem_cons, List.not_mem_nil, or_false, h]
 grind
theorem A1D (c : List (List Int)) (s : List Int) : (insS c s).length = c.length + 1 := by
 have := (A0S c s).1;simp [insS]; omega
theorem A1S {c : List (List Int)} {s : List Int} (h : c.Pairwise LtS) (hs : s ∉ c) : (insS c s).Pairwise LtS := by
 obtain ⟨n1, n2, n3⟩ := A0S c s;have hlt : ∀ t ∈ c.take (insN c s), LtS t s := fun t ht => by
   obtain ⟨i, hi, rfl⟩ := List.getElem_of_mem ht;rw [List.length_take] at hi;have := n2 i (by omega);rw [A0z (by omega), <- A1B] at this;rw [List.getElem_take]; exact this
 have hge : ∀ t ∈ c.drop (insN c s), LtS s t := fun t ht => by
   obtain ⟨i, hi, rfl⟩ := List.getElem_of_mem ht;rw [List.length_drop] at hi;rw [List.getElem_drop];have h0 : insN c s < c.length := by omega
   have hn := n3 h0;rw [A0z h0, <- A1B] at hn;have hfirst : LtS s c[insN c s] := LtS.of_le hn fun e => hs (e ▸ List.getElem_mem h0);cases i with
   | zero => exact hfirst
   | succ i => exact a6t _ _ _ hfirst ((List.pairwise_iff_getElem.1 h) _ _ h0 (by omega) (by omega))
 unfold insS;rw [List.append_assoc, List.pairwise_append];refine ⟨h.sublist (List.take_sublist _ _), ?_, fun t ht u hu => ?_⟩
 . rw [List.singleton_append, List.pairwise_cons];exact ⟨hge, h.sublist (List.drop_sublist _ _)⟩
 . simp only [List.singleton_append, List.mem_cons] at hu;rcases hu with rfl | hu
   . exact hlt t ht
   . exact a6t _ _ _ (hlt t ht) (hge u hu)
open Classical in
noncomputable def putF : Nat -> List (List Int) -> List Int -> List (List Int)
 | 0, c, _ => c
 | n + 1, c, s => if s ∈ c then c else insS (if 1 < s.length then (List.range s.length).foldl (fun x k => putF n x (A0x s k)) c else c) s
def putB : Nat -> Nat
 | 0 => 0
 | n + 1 => (n + 1) * putB n + 1
structure PutOk (c : List (List Int)) (s : List Int) (B : Nat) (x : List (List Int)) : Prop where
 pw : x.Pairwise LtS
 cl : A0q (· ∈ x)
 sub : ∀ t ∈ c, t ∈ x
 has : s ∈ x
 least : ∀ A : List Int -> Prop, A0q A -> A s -> (∀ t ∈ c, A t) -> ∀ t ∈ x, A t
 len : x.length ≤ c.length + B
structure FoldOk (c : List (List Int)) (s : List Int) (B i : Nat) (x : List (List Int)) : Prop where
 pw : x.Pairwise LtS
 cl : A0q (· ∈ x)
 sub : ∀ t ∈ c, t ∈ x
 has : ∀ j, j < i -> A0x s j ∈ x
 least : ∀ A : List Int -> Prop, A0q A -> (∀ j, j < s.length -> A (A0x s j)) -> (∀ t ∈ c, A t) -> ∀ t ∈ x, A t
 len : x.length ≤ c.length + i * B
theorem A0w {s : List Int} {k : Nat} (h : k < s.length) : (A0x s k).length = s.length - 1 := by
 unfold A0x;rw [List.length_append, List.length_take, List.length_drop]; omega
theorem A1P {c : List (List Int)} {s : List Int} {n : Nat} (hs : s.length = n + 1) (hc : c.Pairwise LtS) (hcl : A0q (· ∈ c)) (ih : ∀ (c : List (List Int)) (u : List Int), u.length = n -> c.Pairwise LtS -> A0q (· ∈ c) -> PutOk c u (putB n) (putF n c u)) :
   ∀ i, i ≤ s.length -> FoldOk c s (putB n) i ((List.range i).foldl (fun x k => putF n x (A0x s k)) c) := by
 intro i;induction i with
 | zero => intro _; exact ⟨hc, hcl, fun t h => h, fun j hj => by omega, fun A _ _ h => h, by simp⟩
 | succ i ihi =>
   intro hi;have F := ihi (by omega);rw [List.range_succ, List.foldl_append];simp only [List.foldl_cons, List.foldl_nil];have P := ih _ (A0x s i) (by rw [A0w (by omega)]; omega) F.pw F.cl;refine ⟨P.pw, P.cl, fun t h => P.sub t (F.sub t h), fun j hj => ?_, fun A hA hd h => P.least A hA (hd i (by omega)) (F.least A hA hd h), ?_⟩
   . by_cases e : j = i
     . subst e; exact P.has
     . exact P.sub _ (F.has j (by omega))
   . have := P.len;have := F.len;rw [Nat.add_mul, Nat.one_mul]; omega
theorem A1C : ∀ (n : Nat) (c : List (List Int)) (s : List Int), s.length = n -> 1 ≤ n -> c.Pairwise LtS -> A0q (· ∈ c) -> PutOk c s (putB n) (putF n c s)
 | 0, _, _, _, h, _, _ => by omega
 | n + 1, c, s, hs, _, hc, hcl => by
   unfold putF;by_cases hm : s ∈ c
   . rw [if_pos hm];exact ⟨hc, hcl, fun t h => h, hm, fun A _ _ h => h, by omega⟩
   . rw [if_neg hm];by_cases h1 : 1 < s.length
     . rw [if_pos h1];have F := A1P hs hc hcl (fun c u hu hc hcl => A1C n c u hu (by omega) hc hcl) s.length (Nat.le_refl _);generalize (List.range s.length).foldl (fun x k => putF n x (A0x s k)) c = x at F;have hnx : s ∉ x := fun hx => by
         have := F.least (fun t => t ∈ c ∨ t.length < s.length) (fun t ht h1 k hk => ht.elim (fun h => .inl (hcl t h h1 k hk)) fun h => .inr (by rw [A0w hk]; omega)) (fun j hj => .inr (by rw [A0w hj]; omega)) (fun t h => .inl h) s hx;rcases this with h | h
         . exact hm h
         . omega
       refine ⟨A1S F.pw hnx, fun t ht h2 k hk => ?_, fun t h => (A0A _ _ _).2 (.inr (F.sub t h)), (A0A _ _ _).2 (.inl rfl), fun A hA hAs h t ht => ?_, ?_⟩
       . refine (A0A _ _ _).2 (.inr ?_);rcases (A0A _ _ _).1 ht with rfl | ht
         . exact F.has k hk
         . exact F.cl t ht h2 k hk
       . rcases (A0A _ _ _).1 ht with rfl | ht
         . exact hAs
         . exact F.least A hA (fun j hj => hA s hAs h1 j hj) h t ht
       . have := F.len;rw [A1D, putB, <- hs]; omega
     . rw [if_neg h1];refine ⟨A1S hc hm, fun t ht h2 k hk => ?_, fun t h => (A0A _ _ _).2 (.inr h), (A0A _ _ _).2 (.inl rfl), fun A hA hAs h t ht => ?_, ?_⟩
       . refine (A0A _ _ _).2 (.inr ?_);rcases (A0A _ _ _).1 ht with rfl | ht
         . omega
         . exact hcl t ht h2 k hk
       . rcases (A0A _ _ _).1 ht with rfl | ht
         . exact hAs
         . exact h t ht
       . rw [A1D, putB];have : 0 ≤ (n + 1) * putB n := Nat.zero_le _;omega
theorem A0Z : A0q (fun t => t.length ≤ 4) := fun t ht _ k hk => by
 have h : t.length ≤ 4 := ht;show (A0x t k).length ≤ 4;rw [A0w hk]; omega
theorem A1W (self : (List (List Int) × List Int × Unit) -> Option (Unit × (List (List Int) × Unit))) (c : List (List Int)) (s : List Int) (hc : ∀ t ∈ c, t.length ≤ 4) (hn : c.length ≤ 1048576) (hs : s.length ≤ 4) :
   Ev (fun k => Aa1.l6 self k s 0 c) ((), (insS c s, ())) := by
 obtain ⟨n1, n2, n3⟩ := A0S c s;have hb : ∀ i, i < c.length -> Aa7.F (c.getD i [], s, ()) = some ((decide (cmpS (c.getD i []) s < 0), ()), ()) := fun i hi => Aa7.val _ _ (by have := hc _ (A0y [] hi); omega);obtain ⟨u, -, hg⟩ := Goes.loop (R := Unit × (List (List Int) × Unit)) (fun k i (_ : Unit) => Aa1.l6 self k s (i : Int) c) (insN c s) (fun _ _ => True) (fun i u hi _ => ⟨(), trivial, Goes.succ fun k => by
   rw [Aa1.l6_eq, if_pos (ltI.2 (by omega)), if_pos (idxI.2 (by omega))];simp only [Int.toNat_natCast, hb i (by omega), Option.bind_some];rw [if_pos (by simpa using n2 i hi), A0j (by omega)]⟩) 0 () (Nat.zero_le _) trivial
 have e1 : cutL c (0 : Int) ((insN c s : Nat) : Int) = c.take (insN c s) := by simp [cutL]
 have e2 : cutL c ((insN c s : Nat) : Int) (c.length : Int) = c.drop (insN c s) := by simp [cutL]
 refine hg _ ((Ev.const _).succ fun k => ?_);have b1 : ([] : List (List Int)).length + (c.take (insN c s)).length ≤ bigA := by simp only [List.length_nil, List.length_take, bigA]; omega
 have b2 : (([] : List (List Int)) ++ c.take (insN c s)).length + [s].length ≤ bigA := by simp only [List.nil_append, List.length_cons, List.length_nil, List.length_take, bigA]; omega
 have b3 : ((([] : List (List Int)) ++ c.take (insN c s)) ++ [s]).length + (c.drop (insN c s)).length ≤ bigA := by simp only [List.nil_append, List.length_append, List.length_cons, List.length_nil, List.length_take, List.length_drop, bigA]; omega
 rw [Aa1.l6_eq];by_cases hlt : insN c s < c.length
 . rw [if_pos (ltI.2 hlt), if_pos (idxI.2 hlt)];simp only [Int.toNat_natCast, hb _ hlt, Option.bind_some];rw [if_neg (by simpa using n3 hlt), if_pos (by omega), e1, if_pos b1, Ab2.val _ (by omega)];simp only [Option.bind_some];rw [if_pos b2, if_pos (by omega), e2, if_pos b3];simp only [List.nil_append]; rfl
 . rw [if_neg (by simp only [decide_eq_true_eq]; omega), if_pos (by omega), e1, if_pos b1, Ab2.val _ (by omega)];simp only [Option.bind_some];rw [if_pos b2, if_pos (by omega), e2, if_pos b3];simp only [List.nil_append]; rfl
theorem A1V {n : Nat} (h : n ≤ 4) : putB n ≤ 41 := by
 have : n = 0 ∨ n = 1 ∨ n = 2 ∨ n = 3 ∨ n = 4 := by omega
 rcases this with rfl | rfl | rfl | rfl | rfl <;> decide
theorem A1X : ∀ (n : Nat) (c : List (List Int)) (s : List Int), s.length = n -> 1 ≤ n -> n ≤ 4 -> c.Pairwise LtS -> A0q (· ∈ c) -> (∀ t ∈ c, t.length ≤ 4) -> c.length + 100 * n ≤ 1000000 -> ∀ q, n ≤ q -> Aa1.R q (c, s, ()) = some ((), (putF n c s, ()))
 | 0, _, _, _, h, _, _, _, _, _, _, _ => by omega
 | n + 1, c, s, hs, _, hn4, hc, hcl, h4, hlen, q, hq => by
   obtain ⟨q, rfl⟩ : ∃ q', q = q' + 1 := ⟨q - 1, by omega⟩;show Aa1.step (Aa1.R q) (c, s, ()) = _;have hsm : SmL c := ⟨by omega, fun t ht => by have := h4 t ht; unfold Sm; omega⟩;obtain ⟨r, f1, f2⟩ := Aa0.val c s hsm;refine Aa1.of (Aa1.R q) c s ?_;unfold putF;by_cases hm : s ∈ c
   . rw [if_pos hm];refine (Ev.const _).of_eq fun k => ?_;rw [Aa1.T, f1];simp only [Option.bind_some];rw [if_pos (by simp only [decide_eq_true_eq]; have : ¬ r < 0 := fun h => f2.1 h hm; omega)]
   . have hr : r < 0 := f2.2 hm;rw [if_neg hm];have start : ∀ k, Aa1.T (Aa1.R q) k c s = Aa1.l2 (Aa1.R q) k s 0 c := fun k => by
       rw [Aa1.T, f1];simp only [Option.bind_some];rw [if_neg (by simp only [decide_eq_true_eq]; omega)]
     by_cases h1 : 1 < s.length
     . rw [if_pos h1];have hn1 : 1 ≤ n := by omega
       have F := A1P hs hc hcl (fun c u hu hc hcl => A1C n c u hu hn1 hc hcl);have hB := A1V (n := n) (by omega);have hsmall : ∀ i, i ≤ s.length -> ∀ t ∈ (List.range i).foldl (fun x k => putF n x (A0x s k)) c, t.length ≤ 4 := fun i hi => (F i hi).least (fun t => t.length ≤ 4) A0Z (fun j hj => by rw [A0w hj]; omega) h4;have hlen2 : ∀ i, i ≤ s.length -> ((List.range i).foldl (fun x k => putF n x (A0x s k)) c).length ≤ c.length + i * putB n := fun i hi => (F i hi).len;have hB4 : n ≤ 3 := by omega
       have hB10 : putB n ≤ 10 := by
         have : n = 1 ∨ n = 2 ∨ n = 3 := by omega
         rcases this with rfl | rfl | rfl <;> decide
       have hmul : ∀ i, i ≤ s.length -> i * putB n ≤ 40 := fun i hi => Nat.le_trans (Nat.mul_le_mul (show i ≤ 4 by omega) hB10) (by omega);obtain ⟨x, hx, hg⟩ := Goes.loop (R := Unit × (List (List Int) × Unit)) (fun k i (x : List (List Int)) => Aa1.l2 (Aa1.R q) k s (i : Int) x) s.length (fun i x => x = (List.range i).foldl (fun x k => putF n x (A0x s k)) c) (fun i x hi h2 => ⟨_, rfl, Goes.succ fun k => by
         have Fi := F i (by omega);have hl := hlen2 i (by omega);have hm2 := hmul i (by omega);rw [<- h2] at Fi hl;have hsi := hsmall i (by omega);rw [<- h2] at hsi;have hrec := A1X n x (A0x s i) (by rw [A0w hi]; omega) hn1 (by omega) Fi.pw Fi.cl hsi (by omega) q (by omega);rw [Aa1.l2_eq, if_pos (ltI.2 hi), if_pos (by simp only [decide_eq_true_eq]; omega), Ac3.val s i hi (by omega)];simp only [Option.bind_some, hrec];rw [A0j (by omega), h2, List.range_succ, List.foldl_append];rfl⟩) 0 c (Nat.zero_le _) rfl
       have hl := hlen2 s.length (Nat.le_refl _);have hm2 := hmul s.length (Nat.le_refl _);have hsi := hsmall s.length (Nat.le_refl _);rw [<- hx] at hl hsi ⊢;refine Ev.of_eq (hg _ ((A1W (Aa1.R q) x s hsi (by omega) (by omega)).succ fun k => ?_)) start;rw [Aa1.l2_eq, if_neg (by simp)]
     . rw [if_neg h1];refine Ev.of_eq ((A1W (Aa1.R q) c s h4 (by omega) (by omega)).succ (M := fun k => Aa1.l2 (Aa1.R q) k s 0 c) fun k => ?_) start;rw [Aa1.l2_eq, if_pos (by simp only [decide_eq_true_eq]; omega), if_neg (by simp only [decide_eq_true_eq]; omega)]
theorem Aa1.val {c : List (List Int)} {s : List Int} (h1 : 1 ≤ s.length) (h4 : s.length ≤ 4) (hc : c.Pairwise LtS) (hcl : A0q (· ∈ c)) (hc4 : ∀ t ∈ c, t.length ≤ 4) (hlen : c.length ≤ 999000) : Aa1.F (c, s, ()) = some ((), (putF s.length c s, ())) :=
 Aa1.ofR ⟨s.length, fun q hq => A1X s.length c s rfl h1 h4 hc hcl hc4 (by omega) q hq⟩
noncomputable def A1x (l : List (List Int)) : List (List Int) := l.foldl (fun c s => putF s.length c s) []
structure CloOk (l : List (List Int)) (x : List (List Int)) : Prop where
 pw : x.Pairwise LtS
 cl : A0q (· ∈ x)
 has : ∀ s ∈ l, s ∈ x
 least : ∀ A : List Int -> Prop, A0q A -> (∀ s ∈ l, A s) -> ∀ t ∈ x, A t
 len : x.length ≤ 41 * l.length
theorem A1M : ∀ (l : List (List Int)), (∀ s ∈ l, 1 ≤ s.length /\ s.length ≤ 4) -> CloOk l (A1x l) := by
 intro l hl;have key : ∀ (m c : List (List Int)) (d : List (List Int)), (∀ s ∈ m, 1 ≤ s.length /\ s.length ≤ 4) -> CloOk d c -> CloOk (d ++ m) (m.foldl (fun c s => putF s.length c s) c) := by
   intro m;induction m with
   | nil => intro c d _ h; simpa using h
   | cons s m ih =>
     intro c d hm h;obtain ⟨s1, s4⟩ := hm s (by simp);have P := A1C s.length c s rfl s1 h.pw h.cl;have := ih (putF s.length c s) (d ++ [s]) (fun t ht => hm t (by simp [ht])) ⟨P.pw, P.cl, fun t ht => by
       rcases List.mem_append.1 ht with ht | ht
       . exact P.sub _ (h.has t ht)
       . rw [List.mem_singleton.1 ht]; exact P.has, fun A hA hd t ht => P.least A hA (hd s (by simp)) (h.least A hA fun u hu => hd u (by simp [hu])) t ht, by
       have h1 := P.len;have h2 := h.len;have h3 := A1V s4;rw [List.length_append, List.length_cons, List.length_nil]; omega⟩
     rw [List.append_assoc, List.singleton_append] at this;exact this
 have := key l [] [] hl ⟨List.Pairwise.nil, fun t h => absurd h (by simp), by simp, fun A _ _ t h => absurd h (by simp), by simp⟩;rw [List.nil_append] at this;exact this
open Go.Lib (compact compactUpTo compactUpTo_succ keeps)
theorem A0f : ∀ {xs ys : List Int}, xs.Pairwise (· < ·) -> ys.Pairwise (· < ·) -> (∀ s, s ∈ xs ↔ s ∈ ys) -> xs = ys
 | [], ys, _, _, h => by
   cases ys with
   | nil => rfl
   | cons y ys => exact absurd ((h y).2 (by simp)) (by simp)
 | x :: xs, [], _, _, h => absurd ((h x).1 (by simp)) (by simp)
 | x :: xs, y :: ys, hx, hy, h => by
   rw [List.pairwise_cons] at hx hy;have e : x = y := by
     have h1 := (h x).1 (by simp);have h2 := (h y).2 (by simp);simp only [List.mem_cons] at h1 h2;rcases h1 with rfl | h1
     . rfl
     . rcases h2 with rfl | h2
       . rfl
       . have := hx.1 y h2; have := hy.1 x h1; omega
   subst e;rw [A0f hx.2 hy.2 fun s => ?_];constructor
   . intro hs;have := (h s).1 (by simp [hs]);simp only [List.mem_cons] at this;rcases this with rfl | this
     . have := hx.1 s hs; omega
     . exact this
   . intro hs;have := (h s).2 (by simp [hs]);simp only [List.mem_cons] at this;rcases this with rfl | this
     . have := hy.1 s hs; omega
     . exact this
theorem A0P (d : Array Int) (hs : ∀ i j, i < j -> j < d.size -> d[i]! ≤ d[j]!) : ∀ m, m ≤ d.size -> (compactUpTo d m).Pairwise (· < ·) /\ (∀ x, x ∈ compactUpTo d m ↔ ∃ j, j < m /\ d[j]! = x) /\ ∀ x ∈ compactUpTo d m, x ≤ d[m - 1]!
 | 0, _ => ⟨by simp [compactUpTo], fun x => by simp [compactUpTo], fun x hx => by simp [compactUpTo] at hx⟩
 | m + 1, h => by
   obtain ⟨h1, h2, h3⟩ := A0P d hs m (by omega);have hm : ∀ x ∈ compactUpTo d m, x ≤ d[m]! := fun x hx => by
     obtain ⟨j, hj, rfl⟩ := (h2 x).1 hx;exact hs j m hj (by omega)
   rw [compactUpTo_succ];by_cases hk : keeps d m = true
   . rw [if_pos hk];have hlt : ∀ x ∈ compactUpTo d m, x < d[m]! := fun x hx => by
       have hm0 : m ≠ 0 := by
         rintro rfl;simp [compactUpTo] at hx
       simp only [keeps, hm0, false_or, decide_eq_true_eq, ne_eq] at hk;have := h3 x hx;have := hs (m - 1) m (by omega) (by omega);omega
     refine ⟨?_, fun x => ?_, fun x hx => ?_⟩
     . rw [List.pairwise_append];exact ⟨h1, by simp, fun a ha b hb => by simp only [List.mem_singleton] at hb; rw [hb]; exact hlt a ha⟩
     . rw [List.mem_append, h2, List.mem_singleton];constructor
       . rintro (⟨j, hj, rfl⟩ | rfl)
         . exact ⟨j, by omega, rfl⟩
         . exact ⟨m, by omega, rfl⟩
       . rintro ⟨j, hj, rfl⟩;by_cases e : j = m
         . subst e; exact .inr rfl
         . exact .inl ⟨j, by omega, rfl⟩
     . simp only [Nat.add_sub_cancel];rw [List.mem_append, List.mem_singleton] at hx;rcases hx with hx | rfl
       . exact hm x hx
       . exact Int.le_refl _
   . rw [if_neg hk, List.append_nil];have hm0 : m ≠ 0 /\ d[m]! = d[m - 1]! := by
       simp only [keeps, decide_eq_true_eq, ne_eq, not_or, Classical.not_not] at hk;exact hk
     refine ⟨h1, fun x => ?_, fun x hx => by simpa using hm x hx⟩;rw [h2];constructor
     . rintro ⟨j, hj, rfl⟩; exact ⟨j, by omega, rfl⟩
     . rintro ⟨j, hj, rfl⟩;by_cases e : j = m
       . subst e; exact ⟨j - 1, by omega, hm0.2.symm⟩
       . exact ⟨j, by omega, rfl⟩
def setI (xs : List Int) : List Int := compact (xs.mergeSort fun x y => decide (x ≤ y))
theorem A0D (xs : List Int) : (setI xs).Pairwise (· < ·) /\ ∀ x, x ∈ setI xs ↔ x ∈ xs := by
 obtain ⟨ys, hys⟩ : ∃ ys, ys = xs.mergeSort fun x y => decide (x ≤ y) := ⟨_, rfl⟩;have hp : ys.Perm xs := by rw [hys]; exact List.mergeSort_perm _ _
 have hs : ys.Pairwise (fun a b => decide (a ≤ b) = true) := by
   rw [hys];refine List.pairwise_mergeSort ?_ ?_ _
   . intro a b c h1 h2; simp only [decide_eq_true_eq] at *; omega
   . intro a b; simp only [Bool.or_eq_true, decide_eq_true_eq]; omega
 have hget : ∀ j (hj : j < ys.length), ys.toArray[j]! = ys[j] := fun j hj => by rw [getElem!_pos ys.toArray j (by simpa using hj)]; simp
 obtain ⟨h1, h2, -⟩ := A0P ys.toArray (fun i j hij hj => by
   have hj' : j < ys.length := by simpa using hj
   have := List.pairwise_iff_getElem.1 hs i j (by omega) hj' hij;rw [hget i (by omega), hget j hj'];simpa using this) ys.length (by simp)
 unfold setI;rw [<- hys];refine ⟨h1, fun x => ?_⟩;show x ∈ compactUpTo ys.toArray ys.length ↔ _;rw [h2, <- hp.mem_iff];constructor
 . rintro ⟨j, hj, rfl⟩; rw [hget j hj]; exact List.getElem_mem hj
 . intro hx;obtain ⟨j, hj, rfl⟩ := List.getElem_of_mem hx;exact ⟨j, hj, hget j hj⟩
theorem Ag5.val (xs : List Int) (h : xs.length ≤ 1048576) : Ag5.F (xs, ()) = some ((), (xs.mergeSort fun x y => decide (x ≤ y), ())) := by
 unfold Ag5.F b4G;rw [if_pos (show xs.length < _ by omega)]
theorem Ag3.val (xs : List Int) (h : xs.length ≤ 1048576) : Ag3.F (xs, ()) = some ((compact xs, ()), ()) := by
 unfold Ag3.F b4v;rw [if_pos (show xs.length < _ by omega)]
def putL : List Int -> Int -> Bool -> List Int
 | [], n, b => if b = true then [] else [n]
 | x :: l, n, b => if b = true then x :: putL l n true else if n ≤ x then (if n < x then n :: x :: putL l n true else x :: putL l n true) else x :: putL l n false
theorem A0G (n : Int) : ∀ l, putL l n true = l
 | [] => rfl
 | x :: l => by simp [putL, A0G n l]
theorem A1z (n : Int) : ∀ {l : List Int}, l.Pairwise (· < ·) -> (putL l n false).Pairwise (· < ·) /\ ∀ x, x ∈ putL l n false ↔ x = n ∨ x ∈ l
 | [], _ => ⟨by simp [putL], fun x => by simp [putL]⟩
 | y :: l, h => by
   rw [List.pairwise_cons] at h;obtain ⟨h1, h2⟩ := A1z n h.2;simp only [putL, Bool.false_eq_true, if_false, A0G];by_cases c1 : n ≤ y
   . rw [if_pos c1];by_cases c2 : n < y
     . rw [if_pos c2];refine ⟨?_, fun x => by simp⟩;rw [List.pairwise_cons, List.pairwise_cons];refine ⟨fun a ha => ?_, h.1, h.2⟩;simp only [List.mem_cons] at ha;rcases ha with rfl | ha
       . exact c2
       . have := h.1 a ha; omega
     . rw [if_neg c2];have : n = y := by omega
       subst this;exact ⟨List.pairwise_cons.2 h, fun x => by simp⟩
   . rw [if_neg c1];refine ⟨List.pairwise_cons.2 ⟨fun a ha => ?_, h1⟩, fun x => ?_⟩
     . rcases (h2 a).1 ha with rfl | ha
       . omega
       . exact h.1 a ha
     . rw [List.mem_cons, h2, List.mem_cons];constructor
       . rintro (h | h | h)
         . exact .inr (.inl h)
         . exact .inl h
         . exact .inr (.inr h)
       . rintro (h | h | h)
         . exact .inr (.inl h)
         . exact .inl h
         . exact .inr (.inr h)
theorem A1h (n : Int) (l : List Int) (b : Bool) : (putL l n b).length ≤ l.length + 1 := by
 induction l generalizing b with
 | nil => simp only [putL]; split <;> simp
 | cons x l ih =>
   have h1 := A0G n l;simp only [putL];split
   . rw [h1]; simp
   . split
     . split <;> rw [h1] <;> simp
     . have := ih false; simp only [List.length_cons]; omega
theorem Ae3.val (xs : List Int) (n : Int) (h : xs.length ≤ 1000) : Ae3.F (xs, n, ()) = some ((putL xs n false, ()), ()) := by
 refine Ae3.of _ _ ?_;have key : ∀ (m i : Nat) (b : Bool) (out : List Int), i + m = xs.length -> out.length ≤ i + b.toNat -> Ev (fun k => Ae3.l4 k xs n b (i : Int) out) ((out ++ putL (xs.drop i) n b, ()), ()) := by
   intro m;induction m with
   | zero =>
     intro i b out hi ho;have ho1 : out.length ≤ i + 1 := by have := Bool.toNat_le b; omega
     have hi : i = xs.length := by omega
     subst hi;refine (Ev.const _).succ fun k => ?_;rw [Ae3.l4_eq, if_neg (by simp), List.drop_length];cases b with
     | false => rw [if_pos (by simp), if_pos (by simp only [List.length_cons, List.length_nil, bigA]; omega)]; simp [putL]
     | true => rw [if_neg (by simp)]; simp [putL]
   | succ m ih =>
     intro i b out hi ho;have ho1 : out.length ≤ i + 1 := by have := Bool.toNat_le b; omega
     have hlt : i < xs.length := by omega
     have hd : xs.drop i = xs.getD i 0 :: xs.drop (i + 1) := by rw [List.drop_eq_getElem_cons hlt, A0z hlt]
     have hb1 : out.length + ([xs.getD i 0] : List Int).length ≤ bigA := by simp only [List.length_cons, List.length_nil, bigA]; omega
     have hb2 : out.length + ([n] : List Int).length ≤ bigA := by simp only [List.length_cons, List.length_nil, bigA]; omega
     have hb3 : ∀ z : Int, (out ++ [n]).length + ([z] : List Int).length ≤ bigA := fun z => by simp only [List.length_append, List.length_cons, List.length_nil, bigA]; omega
     have E := fun k => Ae3.l4_eq k xs n b (i : Int) out;simp only [if_pos (ltI.2 hlt), if_pos (idxI.2 hlt), Int.toNat_natCast, A0j (show i < 4611686018427387904 by omega), if_pos hb1] at E;obtain ⟨y, hy⟩ : ∃ y, y = xs.getD i 0 := ⟨_, rfl⟩;rw [<- hy] at hd hb1;simp only [← hy] at E;rw [hd];cases b with
     | true =>
       have := ih (i + 1) true (out ++ [y]) (by omega) (by simp only [List.length_append, List.length_cons, List.length_nil, Bool.toNat_true, Bool.toNat_false] at *; omega);rw [List.append_assoc] at this;refine Ev.succ this fun k => ?_;rw [E, if_neg (by simp)]
     | false =>
       simp only [Bool.not_false, if_true] at E;by_cases c1 : n ≤ y
       . by_cases c2 : n < y
         . have := ih (i + 1) true (out ++ [n] ++ [y]) (by omega) (by simp only [List.length_append, List.length_cons, List.length_nil, Bool.toNat_true, Bool.toNat_false] at *; omega);have e : out ++ [n] ++ [y] ++ putL (xs.drop (i + 1)) n true = out ++ putL (y :: xs.drop (i + 1)) n false := by simp [putL, c1, c2, A0G]
           rw [e] at this;refine Ev.succ this fun k => ?_;rw [E, if_pos (by simpa using c1), if_pos (by simpa using c2), if_pos hb2, if_pos (hb3 _)]
         . have := ih (i + 1) true (out ++ [y]) (by omega) (by simp only [List.length_append, List.length_cons, List.length_nil, Bool.toNat_true, Bool.toNat_false] at *; omega);have e : out ++ [y] ++ putL (xs.drop (i + 1)) n true = out ++ putL (y :: xs.drop (i + 1)) n false := by simp [putL, c1, c2, A0G]
           rw [e] at this;refine Ev.succ this fun k => ?_;rw [E, if_pos (by simpa using c1), if_neg (by simpa using c2)]
       . have := ih (i + 1) false (out ++ [y]) (by omega) (by simp only [List.length_append, List.length_cons, List.length_nil, Bool.toNat_true, Bool.toNat_false] at *; omega);have e : out ++ [y] ++ putL (xs.drop (i + 1)) n false = out ++ putL (y :: xs.drop (i + 1)) n false := by simp [putL, c1]
         rw [e] at this;refine Ev.succ this fun k => ?_;rw [E, if_neg (by simpa using c1)]
 exact (key xs.length 0 false [] (by omega) (by simp)).of_eq fun k => rfl
theorem A1y : ∀ (l acc : List Int), acc.Pairwise (· < ·) -> (l.foldl (fun a n => putL a n false) acc).Pairwise (· < ·) /\ ∀ x, x ∈ l.foldl (fun a n => putL a n false) acc ↔ x ∈ acc ∨ x ∈ l
 | [], acc, h => ⟨h, fun x => by simp⟩
 | n :: l, acc, h => by
   obtain ⟨h1, h2⟩ := A1z n h;obtain ⟨h3, h4⟩ := A1y l _ h1;refine ⟨h3, fun x => ?_⟩;rw [List.foldl_cons, h4, h2, List.mem_cons];constructor
   . rintro ((h | h) | h)
     . exact .inr (.inl h)
     . exact .inl h
     . exact .inr (.inr h)
   . rintro (h | h | h)
     . exact .inl (.inr h)
     . exact .inl (.inl h)
     . exact .inr h
theorem A1Y (l : List Int) : l.foldl (fun a n => putL a n false) [] = setI l := by
 obtain ⟨h1, h2⟩ := A1y l [] (by simp);obtain ⟨h3, h4⟩ := A0D l;exact A0f h1 h3 fun s => by rw [h2, h4]; simp
theorem mem_faces {s f : List Int} : f ∈ A0L s ↔ 1 < s.length /\ ∃ k, k < s.length /\ A0x s k = f := by
 unfold A0L;by_cases h : 1 < s.length
 . rw [if_pos h]; simp [h]
 . rw [if_neg h]; simp [h]
theorem A0V {c : List (List Int)} {i m : Nat} (h : m < i) : (c.take i).getD m [] = c.getD m [] := by
 simp only [List.getD_eq_getElem?_getD, List.getElem?_take, h, if_true]
theorem A1k {c : List (List Int)} {i m : Nat} (h : m < i) (hm : m < c.length) : c.getD m [] ∈ c.take i := by
 rw [<- A0V h];exact A0y [] (by simp; omega)
def OkAt (c : List (List Int)) (j : Nat) : Prop := A0K (c.getD j []) /\ (0 < j -> cmpS (c.getD (j - 1) []) (c.getD j []) < 0) /\ ∀ f ∈ A0L (c.getD j []), f ∈ c.take j
theorem A1E (c : List (List Int)) : (c.length ≤ 48 /\ ∀ j, j < c.length -> OkAt c j) ↔ CplxOk c := by
 constructor
 . rintro ⟨h1, h2⟩;refine ⟨h1, fun i hi => ⟨(h2 i hi).1, (h2 i hi).2.1, fun hl k hk => List.mem_of_mem_take ((h2 i hi).2.2 _ (mem_faces.2 ⟨hl, k, hk, rfl⟩))⟩⟩
 . intro h;refine ⟨h.1, fun j hj => ⟨(h.2 j hj).1, (h.2 j hj).2.1, fun f hf => ?_⟩⟩;obtain ⟨hl, k, hk, rfl⟩ := mem_faces.1 hf;have hm := (h.2 j hj).2.2 hl k hk;obtain ⟨m, hm1, e⟩ := List.getElem_of_mem hm;have e' : c.getD m [] = A0x (c.getD j []) k := by rw [A0z hm1]; exact e
   have hlen := A0E hk;have hshort : cmpS (A0x (c.getD j []) k) (c.getD j []) < 0 := A0X (by omega);by_cases hmj : m < j
   . rw [<- e']; exact A1k hmj hm1
   . exfalso;by_cases hmj2 : m = j
     . rw [hmj2] at e';rw [<- e', (A0k _ _).2 rfl] at hshort; omega
     . have h3 := h.sorted j m (by omega) hm1;rw [e'] at h3;have := A0B _ _ _ hshort h3;rw [(A0k _ _).2 rfl] at this; omega
theorem Ab3.val (c : List (List Int)) (h : SmL c) : ∃ v, Ab3.F (c, ()) = some ((v, ()), ()) /\ (v = true ↔ CplxOk c) := by
 have hn := h.1;obtain ⟨v, hv, hv'⟩ := Ev.loop (σ := Unit) (R := (Bool × Unit) × Unit) (fun k i _ => Ab3.l2 k c c.length (i : Int) c) c.length (fun i _ => ∀ j, j < i -> OkAt c j) (fun r => ∃ v, r = ((v, ()), ()) /\ (v = true ↔ c.length ≤ 48 /\ ∀ j, j < c.length -> OkAt c j))
   (fun i _ hi hI => by
     have hsm : (c.getD i []).length ≤ 1048576 := h.2 _ (A0y _ hi);have hsorted : A0I (c.take i) := A0d fun m h0 hm => by
       have hm' : m < i := by simp at hm; omega
       rw [A0V (by omega), A0V hm'];exact (hI m hm').2.1 h0
     have hsmall : SmL (c.take i) := ⟨by simp; omega, fun x hx => h.2 x (List.mem_of_mem_take hx)⟩;have hclo : ∀ f : List Int, f.length ≤ 1048576 -> Af1.cloG (c, (i : Int), ()) (f, ()) = some (decide (f ∉ c.take i), ()) := fun f hf => by
       show (Af1.F (f, c, (i : Int), ())).map (·.1) = _;obtain ⟨r, hr, hr'⟩ := Ac5.val (c.take i) f hsorted hsmall hf;rw [Af1.eq, Af1.T, if_pos (by omega)];have : cutL c (0 : Int) (i : Int) = c.take i := by simp [cutL]
       rw [this, hr];simp only [Option.bind_some, Option.map_some, hr']
     obtain ⟨s, hs⟩ : ∃ s, c.getD i [] = s := ⟨_, rfl⟩;have E := fun k => Ab3.l2_eq k c c.length (i : Int) c;obtain ⟨b, hb, hb'⟩ := Af2.val s (hs ▸ hsm);rw [hs] at hsm;have hfl : ∀ f ∈ A0L s, f.length ≤ 1048576 := fun f hf => by
       obtain ⟨_, k, hk, rfl⟩ := mem_faces.1 hf;have := A0E hk; omega
     have hcf := Ab9.val (A0L s) (Af1.cloG (c, (i : Int), ())) (fun f => decide (f ∉ c.take i)) (fun f hf => hclo f (hfl f hf)) (by
       unfold A0L; split
       . simp; omega
       . simp)
     simp only [if_pos (ltI.2 hi), if_pos (idxI.2 hi), Int.toNat_natCast, hs, hb, Option.bind_some, Ab4.val s hsm, hcf, A0j (show i < 4611686018427387904 by omega)] at E;have bad : ¬ OkAt c i -> ∃ v, (((false, ()), ()) : (Bool × Unit) × Unit) = ((v, ()), ()) /\ (v = true ↔ c.length ≤ 48 /\ ∀ j, j < c.length -> OkAt c j) := fun hno => ⟨false, rfl, by simp only [Bool.false_eq_true, false_iff]; exact fun hc => hno (hc.2 i hi)⟩;cases b with
     | false => exact .inl ⟨_, (Ev.const _).succ fun k => by rw [E]; rfl, bad fun hc => absurd (hb'.2 (hs ▸ hc.1)) (by simp)⟩
     | true =>
       have hsimp := hb'.1 rfl;simp only [Bool.not_true, Bool.false_eq_true, if_false] at E;have pre : ((0 < i -> cmpS (c.getD (i - 1) []) s < 0) /\ ∀ k, Ab3.l2 (k + 1) c c.length (i : Int) c = if ((A0L s).any fun f => decide (f ∉ c.take i)) = true then some ((false, ()), ()) else Ab3.l2 k c c.length ((i + 1 : Nat) : Int) c) ∨ ((∀ k, Ab3.l2 (k + 1) c c.length (i : Int) c = some ((false, ()), ())) /\ ¬ (0 < i -> cmpS (c.getD (i - 1) []) s < 0)) := by
         by_cases h0 : 0 < i
         . have h1 : i - 1 < c.length := by omega
           simp only [if_pos (show decide ((i : Int) > 0) = true by simp; omega), A1l h0 (show i < 4611686018427387904 by omega), if_pos (idxI.2 h1), Int.toNat_natCast, Aa3.val _ s (h.2 _ (A0y _ h1)) hsm, Option.bind_some] at E;by_cases hlt : cmpS (c.getD (i - 1) []) s < 0
           . exact .inl ⟨fun _ => hlt, fun k => by rw [E, if_neg (by simp only [decide_eq_true_eq]; omega)]⟩
           . exact .inr ⟨fun k => by rw [E, if_pos (by simp only [decide_eq_true_eq]; omega)], fun hh => hlt (hh h0)⟩
         . simp only [if_neg (show ¬ decide ((i : Int) > 0) = true by simp; omega)] at E;exact .inl ⟨fun h => absurd h h0, fun k => by rw [E]⟩
       rcases pre with ⟨hlt, E3⟩ | ⟨E4, hno⟩
       . by_cases hf : ∀ f ∈ A0L s, f ∈ c.take i
         . refine .inr ⟨(), fun j hj => ?_, Goes.succ fun k => by rw [E3, if_neg (by simp only [List.any_eq_true, decide_eq_true_eq, not_exists, not_and, Classical.not_not]; exact hf)]⟩;by_cases hji : j = i
           . rw [hji]; exact ⟨hs ▸ hsimp, fun h0 => by rw [hs]; exact hlt h0, fun f hff => hf f (hs ▸ hff)⟩
           . exact hI j (by omega)
         . refine .inl ⟨_, (Ev.const _).succ fun k => by rw [E3, if_pos (by simp only [List.any_eq_true, decide_eq_true_eq]; simpa using hf)], bad fun hc => hf fun f hff => hc.2.2 f (hs ▸ hff)⟩
       . exact .inl ⟨_, (Ev.const _).succ E4, bad fun hc => hno (by have := hc.2.1; rw [hs] at this; exact this)⟩)
   (fun _ hI => ⟨_, (Ev.const _).succ fun k => by rw [Ab3.l2_eq, if_neg (by simp)], _, rfl, by simp only [decide_eq_true_eq]; exact ⟨fun h1 => ⟨by omega, hI⟩, fun h1 => by omega⟩⟩) 0 () (Nat.zero_le _) (by intro j hj; omega)
 obtain ⟨b, rfl, hb⟩ := hv';exact ⟨b, Ab3.of _ (hv.of_eq fun k => rfl), hb.trans (A1E c)⟩
def A0g (c : List (List Int)) (f : List Int) : Nat := c.findIdx fun x => decide (x = f)
theorem A1H {c : List (List Int)} {f : List Int} (h : f ∈ c) : A0g c f < c.length /\ c.getD (A0g c f) [] = f := by
 have h1 : A0g c f < c.length := List.findIdx_lt_length_of_exists ⟨f, h, by simp⟩;refine ⟨h1, ?_⟩;rw [A0z h1];have := List.findIdx_getElem (p := fun x => decide (x = f)) (xs := c) (w := h1);exact of_decide_eq_true this
theorem A1e {c : List (List Int)} (h : CplxOk c) {i : Nat} (hi : i < c.length) {f : List Int} (hf : f ∈ A0L (c.getD i [])) : f ∈ c :=
 List.mem_of_mem_take ((((A1E c).2 h).2 i hi).2.2 f hf)
theorem A1f {c : List (List Int)} (h : CplxOk c) {f : List Int} (hf : f ∈ c) : Aa0.F (c, f, ()) = some ((((A0g c f : Nat) : Int), ()), ()) := by
 obtain ⟨h1, h2⟩ := A1H hf;have := Aa0.val2 c (A0g c f) h1 h.sorted h.small
 rwa [h2] at this
def A0W (c : List (List Int)) (d : Int) (i : Nat) : List Int := ((List.range i).filter fun j => ((c.getD j []).length : Int) == d + 1).map fun (j : Nat) => (j : Int)
theorem A0b (c : List (List Int)) (d : Int) (i : Nat) : A0W c d (i + 1) = if ((c.getD i []).length : Int) == d + 1 then A0W c d i ++ [(i : Int)] else A0W c d i := by
 simp only [A0W, List.range_succ, List.filter_append, List.map_append];split
 . rename_i h; rw [List.filter_cons_of_pos (by exact h)]; simp
 . rename_i h; rw [List.filter_cons_of_neg (by exact h)]; simp
theorem A0u (c : List (List Int)) (d : Int) (i : Nat) : (A0W c d i).length ≤ i := by
 simp only [A0W, List.length_map];exact Nat.le_trans (List.length_filter_le _ _) (by simp)
theorem Ae5.val (c : List (List Int)) (d : Int) (hd : -1 ≤ d /\ d ≤ 1000) (hn : c.length ≤ 1048576) : Ae5.F (c, d, ()) = some ((A0W c d c.length, ()), ()) := by
 refine Ae5.of _ _ ?_;obtain ⟨s, hs, hg⟩ := Goes.loop (R := ((List Int × Unit) × Unit)) (fun k i (x : List Int) => Ae5.l3 k c d (i : Int) x) c.length (fun i x => x = A0W c d i) (fun i x hi h2 => ⟨_, rfl, Goes.succ fun k => by
   have hl := A0u c d i;rw [Ae5.l3_eq, if_pos (ltI.2 hi), if_pos (idxI.2 hi), A0H (x := d + 1) (by omega) (by omega), A0b];simp only [Int.toNat_natCast];by_cases h : (((c.getD i []).length : Int) == d + 1) = true
   . rw [if_pos h, if_pos h, if_pos (by rw [h2]; simp only [List.length_cons, List.length_nil, bigA]; omega), A0j (by omega), h2]
   . rw [if_neg h, if_neg h, A0j (by omega), h2]⟩) 0 [] (Nat.zero_le _) rfl
 refine Ev.of_eq (hg _ ((Ev.const _).succ fun k => ?_)) fun k => rfl;rw [Ae5.l3_eq, if_neg (by simp), hs]
def vts (c : List (List Int)) : List Int := (c.filter fun s => s.length == 1).map fun s => s.getD 0 0
theorem A1G (c : List (List Int)) {i : Nat} (hi : i < c.length) : vts (c.take (i + 1)) = vts (c.take i) ++ (if (c.getD i []).length = 1 then [(c.getD i []).getD 0 0] else []) := by
 unfold vts;rw [List.take_add_one, List.getElem?_eq_getElem hi, Option.toList_some, List.filter_append, List.map_append, A0z hi];congr 1;by_cases h : c[i].length = 1 <;> simp [h]
theorem A1Z (c : List (List Int)) (i : Nat) : (vts (c.take i)).length ≤ i := by
 unfold vts;rw [List.length_map];exact Nat.le_trans (List.length_filter_le _ _) (by simp; omega)
theorem Ab5.val (c : List (List Int)) (hn : c.length ≤ 1048576) : Ab5.F (c, ()) = some ((vts c, ()), ()) := by
 refine Ab5.of _ ?_;obtain ⟨s, hs, hg⟩ := Goes.loop (R := ((List Int × Unit) × Unit)) (fun k i (x : List Int) => Ab5.l3 k c (c.length : Int) (i : Int) x) c.length (fun i x => x = vts (c.take i)) (fun i x hi h2 => ⟨_, rfl, Goes.succ fun k => by
   have hl := A1Z c i;rw [Ab5.l3_eq, if_pos (ltI.2 hi), if_pos (idxI.2 hi)];simp only [Int.toNat_natCast];rw [A1G c hi, A0j (by omega), <- h2];by_cases h1 : (c.getD i []).length = 1
   . rw [if_pos (by simp only [beq_iff_eq]; omega), if_pos (by omega), if_pos (by rw [h2]; simp only [List.length_cons, List.length_nil, bigA]; omega), if_pos h1]; rfl
   . rw [if_neg (by simp only [beq_iff_eq]; omega), if_neg h1, List.append_nil]⟩) 0 [] (Nat.zero_le _) rfl
 rw [List.take_of_length_le (Nat.le_refl _)] at hs;refine Ev.of_eq (hg _ ((Ev.const _).succ fun k => ?_)) fun k => rfl;rw [Ab5.l3_eq, if_neg (by simp), hs]
theorem A0t (c : List (List Int)) : (A0W c 0 c.length).length = (vts c).length := by
 have key : ∀ i, i ≤ c.length -> (A0W c 0 i).length = (vts (c.take i)).length := by
   intro i;induction i with
   | zero => intro _; rfl
   | succ i ih =>
     intro hi;rw [A0b, A1G c (by omega)];by_cases h1 : (c.getD i []).length = 1
     . rw [if_pos (by simp only [beq_iff_eq]; omega), if_pos h1, List.length_append, List.length_append, ih (by omega)]; rfl
     . rw [if_neg (by simp only [beq_iff_eq]; omega), if_neg h1, List.append_nil, ih (by omega)]
 have := key c.length (Nat.le_refl _)
 rwa [List.take_of_length_le (Nat.le_refl _)] at this
theorem A1F {c : List (List Int)} (h : CplxOk c) : ∀ (n : Nat) (s : List Int), s ∈ c -> s.length ≤ n -> ∀ v ∈ s, [v] ∈ c := by
 intro n;induction n with
 | zero => intro s hs hl v hv; have : s = [] := List.length_eq_zero_iff.1 (by omega); subst this; simp at hv
 | succ n ih =>
   intro s hs hl v hv;by_cases h1 : 1 < s.length
   . obtain ⟨i, hi, hic⟩ : ∃ i, i < c.length /\ c.getD i [] = s := by
       obtain ⟨i, hi, rfl⟩ := List.getElem_of_mem hs;exact ⟨i, hi, A0z hi⟩
     obtain ⟨j, hj, hjv⟩ := List.getElem_of_mem hv;obtain ⟨k, hk, hkj⟩ : ∃ k, k < s.length /\ k ≠ j := by
       by_cases e : j = 0
       . exact ⟨1, h1, by omega⟩
       . exact ⟨0, by omega, by omega⟩
     have hmem : A0x s k ∈ c := A1e h hi (by rw [hic]; exact mem_faces.2 ⟨h1, k, hk, rfl⟩);refine ih (A0x s k) hmem (by rw [A0E hk]; omega) v ?_;unfold A0x;rw [List.mem_append];by_cases h2 : j < k
     . left; rw [List.mem_take_iff_getElem]; exact ⟨j, by omega, hjv⟩
     . right; rw [List.mem_drop_iff_getElem];refine ⟨j - (k + 1), by omega, ?_⟩;rw [<- hjv]; congr 1; omega
   . cases s with
     | nil => simp at hv
     | cons a t =>
       have : t = [] := List.length_eq_zero_iff.1 (by simp only [List.length_cons] at h1; omega);subst this;simp only [List.mem_singleton] at hv;subst hv; exact hs
theorem A0c : ∀ {c : List (List Int)}, (∀ s ∈ c, 1 ≤ s.length) -> c.Pairwise (fun x y => x.length ≤ y.length) -> ∃ B, c = (c.filter fun s => s.length == 1) ++ B /\ ∀ s ∈ B, s.length ≠ 1
 | [], _, _ => ⟨[], rfl, by simp⟩
 | x :: c, h1, h2 => by
   rw [List.pairwise_cons] at h2;obtain ⟨B, hB, hB'⟩ := A0c (fun s hs => h1 s (by simp [hs])) h2.2;by_cases hx : x.length = 1
   . exact ⟨B, by rw [List.filter_cons, if_pos (by simpa using hx), List.cons_append, <- hB], hB'⟩
   . have hall : ∀ s ∈ x :: c, s.length ≠ 1 := fun s hs => by
       have hx1 := h1 x (by simp);simp only [List.mem_cons] at hs;rcases hs with rfl | hs
       . exact hx
       . have := h2.1 s hs; omega
     have hf : (x :: c).filter (fun s => s.length == 1) = [] := by
       rw [List.filter_eq_nil_iff];intro s hs;simpa using hall s hs
     exact ⟨x :: c, by rw [hf]; rfl, hall⟩
def idxV (xs : List Int) (v : Int) : Nat := xs.findIdx fun x => decide (x = v)
theorem A1q {xs : List Int} {v : Int} (h : v ∈ xs) : idxV xs v < xs.length := List.findIdx_lt_length_of_exists ⟨v, h, by simp⟩
theorem A0O (v : Int) : ∀ {A : List (List Int)} (B : List (List Int)), (∀ s ∈ A, s.length = 1) -> [v] ∈ A -> A0g (A ++ B) [v] = idxV (A.map fun s => s.getD 0 0) v
 | [], _, _, h => by simp at h
 | s :: A, B, h1, h2 => by
   have hs := h1 s (by simp);obtain ⟨a, rfl⟩ : ∃ a, s = [a] := by
     cases s with
     | nil => simp at hs
     | cons a t => exact ⟨a, by rw [List.length_eq_zero_iff.1 (show t.length = 0 by simpa using hs)]⟩
   unfold A0g idxV;rw [List.cons_append, List.map_cons, List.findIdx_cons, List.findIdx_cons];by_cases e : a = v
   . subst e; simp
   . have h3 : [v] ∈ A := by
       simp only [List.mem_cons, List.cons.injEq, and_true] at h2;exact h2.resolve_left fun hh => e hh.symm
     have ih := A0O v B (fun s hs => h1 s (by simp [hs])) h3;unfold A0g idxV at ih;have d1 : decide ([a] = [v]) = false := by simp [e]
     have d2 : decide (([a] : List Int).getD 0 0 = v) = false := by simp [e]
     rw [d1, d2, cond_false, cond_false, ih]
theorem A1Q {c : List (List Int)} (h : CplxOk c) {v : Int} (hv : [v] ∈ c) : A0g c [v] = idxV (vts c) v /\ v ∈ vts c := by
 have hpw : c.Pairwise (fun x y => x.length ≤ y.length) := by
   rw [List.pairwise_iff_getElem];intro i j hi hj hij;have := h.sorted i j hij hj;rw [A0z hi, A0z hj] at this;refine Classical.byContradiction fun hc => ?_;have h2 := A0X (a := c[j]) (b := c[i]) (by omega);have h3 := A0B _ _ _ this h2;have h4 := (A0k c[i] c[i]).2 rfl;omega
 obtain ⟨B, hB, hB'⟩ := A0c (fun s hs => by
   obtain ⟨i, hi, rfl⟩ := List.getElem_of_mem hs;have := (h.2 i hi).1.1.1
   rwa [A0z hi] at this) hpw
 have hA : [v] ∈ c.filter fun s => s.length == 1 := List.mem_filter.2 ⟨hv, rfl⟩;refine ⟨?_, ?_⟩
 . unfold vts
   conv => lhs; rw [hB]
   exact A0O v B (fun s hs => by simpa using (List.mem_filter.1 hs).2) hA
 . unfold vts;rw [List.mem_map];exact ⟨[v], hA, rfl⟩
theorem Ae2.val (xs : List Int) (v : Int) (hn : xs.length ≤ 1048576) (hv : v ∈ xs) : Ae2.F (xs, v, ()) = some ((((idxV xs v : Nat) : Int), ()), ()) := by
 refine Ae2.of _ _ ?_;have hlt := A1q hv;obtain ⟨x, -, hg⟩ := Goes.loop (σ := Unit) (R := ((Int × Unit) × Unit)) (fun k i _ => Ae2.l2 k xs v (xs.length : Int) (i : Int)) (idxV xs v) (fun _ _ => True) (fun i _ hi _ => ⟨(), trivial, Goes.succ fun k => by
   have hne : xs[i]'(by omega) ≠ v := by simpa using List.not_of_lt_findIdx hi
   rw [Ae2.l2_eq, if_pos (ltI.2 (by omega)), if_pos (idxI.2 (by omega))];simp only [Int.toNat_natCast];rw [if_neg (by
     rw [A0z (by omega)];simp only [beq_iff_eq];exact fun e => hne e.symm), A0j (by omega)]⟩) 0 () (Nat.zero_le _) trivial
 refine Ev.of_eq (hg _ ((Ev.const _).succ fun k => ?_)) fun k => rfl;have heq : xs[idxV xs v] = v := of_decide_eq_true (List.findIdx_getElem (xs := xs) (p := fun x => decide (x = v)) (w := hlt));rw [Ae2.l2_eq, if_pos (ltI.2 hlt), if_pos (idxI.2 hlt)];simp only [Int.toNat_natCast];rw [if_pos (by
   rw [A0z hlt];simp only [beq_iff_eq];exact heq.symm)]
def imgL (c : List (List Int)) (im s : List Int) : List Int := s.map fun v => im.getD (idxV (vts c) v) 0
def imgS (c : List (List Int)) (im s : List Int) : List Int := setI (imgL c im s)
theorem A1i (xs : List Int) : (setI xs).length ≤ xs.length := by
 have h := a9W (xs.mergeSort fun x y => decide (x ≤ y))
 rwa [List.length_mergeSort] at h
theorem A0h (c : List (List Int)) (im s : List Int) : (imgS c im s).length ≤ s.length := by
 have := A1i (imgL c im s)
 rwa [imgL, List.length_map] at this
theorem Ab0.val (c : List (List Int)) (im s : List Int) (h : CplxOk c) (hs : s ∈ c) (hs4 : s.length ≤ 4) (hl : im.length = (vts c).length) : Ab0.F (c, im, s, ()) = some ((imgS c im s, ()), ()) := by
 have hn := h.1;have hvl := A1Z c c.length;rw [List.take_of_length_le (Nat.le_refl _)] at hvl;refine Ab0.of _ _ _ ?_;obtain ⟨x, hx, hg⟩ := Goes.loop (R := ((List Int × Unit) × Unit)) (fun k i (x : List Int) => Ab0.l4 k im s (s.length : Int) (i : Int) (vts c) x) s.length (fun i x => x = imgL c im (s.take i)) (fun i x hi h2 => ⟨_, rfl, Goes.succ fun k => by
   obtain ⟨-, hm⟩ := A1Q h (A1F h 4 s hs hs4 _ (A0y 0 hi));have hlt := A1q hm;rw [Ab0.l4_eq, if_pos (ltI.2 hi), if_pos (idxI.2 hi)];simp only [Int.toNat_natCast, Ae2.val _ _ (show (vts c).length ≤ 1048576 by omega) hm, Option.bind_some];rw [if_pos (idxI.2 (by omega)), if_pos (by rw [h2]; simp only [imgL, List.length_map, List.length_take, List.length_cons, List.length_nil, bigA]; omega), A0j (by omega), h2, imgL, imgL, List.take_add_one, List.getElem?_eq_getElem hi, Option.toList_some, List.map_append, A0z hi];rfl⟩) 0 [] (Nat.zero_le _) rfl
 rw [List.take_of_length_le (Nat.le_refl _)] at hx;have hxl : x.length = s.length := by rw [hx]; simp [imgL]
 refine Ev.of_eq (hg _ ((Ev.const _).succ fun k => ?_)) fun k => ?_
 . rw [Ab0.l4_eq, if_neg (by simp), Ag5.val _ (by omega)];simp only [Option.bind_some];rw [Ag3.val _ (by rw [List.length_mergeSort]; omega), hx]; rfl
 . rw [Ab0.T, Ab5.val c (by omega)]; rfl
theorem cut_one (s : List Int) {i : Nat} (hi : i < s.length) : cutL s (i : Int) ((i + 1 : Nat) : Int) = [s.getD i 0] := by
 unfold cutL;simp only [Int.toNat_natCast];rw [A0z hi];apply List.ext_getElem
 . simp; omega
 . intro j h1 h2;have : j = 0 := by simpa using h2
   subst this;simp
theorem Ab7.val (c : List (List Int)) (im s : List Int) (h : CplxOk c) (hs : s ∈ c) (hs4 : s.length ≤ 4) (hl : im.length = (vts c).length) : Ab7.F (c, im, s, ()) = some ((imgS c im s, ()), ()) := by
 have hn := h.1;refine Ab7.of _ _ _ ?_;obtain ⟨x, ⟨hx, hxl⟩, hg⟩ := Goes.loop (R := ((List Int × Unit) × Unit)) (fun k i (x : List Int) => Ab7.l3 k c im s (i : Int) x) s.length (fun i x => x = (imgL c im (s.take i)).foldl (fun a n => putL a n false) [] /\ x.length ≤ i) (fun i x hi ⟨h2, h3⟩ => by
   have hv := A1F h 4 s hs hs4 _ (A0y 0 hi);obtain ⟨hidx, hm⟩ := A1Q h hv;have hlt := A1q hm;refine ⟨putL x (im.getD (idxV (vts c) (s.getD i 0)) 0) false, ⟨?_, by have := A1h (im.getD (idxV (vts c) (s.getD i 0)) 0) x false; omega⟩, Goes.succ fun k => ?_⟩
   . rw [imgL, List.take_add_one, List.getElem?_eq_getElem hi, Option.toList_some, List.map_append, List.foldl_append, <- imgL, <- h2, A0z hi]; rfl
   . rw [Ab7.l3_eq, if_pos (ltI.2 hi), A0j (by omega), if_pos (by omega), cut_one s hi];simp only [A1f h hv, Option.bind_some, hidx];rw [if_pos (idxI.2 (by omega))];simp only [Int.toNat_natCast, Ae3.val x _ (by omega), Option.bind_some]) 0 [] (Nat.zero_le _) ⟨rfl, by simp⟩
 rw [List.take_of_length_le (Nat.le_refl _)] at hx;refine Ev.of_eq (hg _ ((Ev.const _).succ fun k => ?_)) fun k => rfl;rw [Ab7.l3_eq, if_neg (by simp), hx, A1Y]; rfl
def A1a (c b : List (List Int)) (im : List Int) : Prop := im.length = (vts c).length /\ ∀ s ∈ c, imgS c im s ∈ b
theorem A1O {c : List (List Int)} (h : CplxOk c) {s : List Int} (hs : s ∈ c) : s.length ≤ 4 := by
 obtain ⟨i, hi, rfl⟩ := List.getElem_of_mem hs;have := (h.2 i hi).1.1.2
 rwa [A0z hi] at this
theorem Ad0.val (c b : List (List Int)) (im : List Int) (h : CplxOk c) (hb : SmL b) (him : im.length ≤ 1048576) : ∃ v, Ad0.F (c, b, im, ()) = some ((v, ()), ()) /\ (v = true ↔ A1a c b im) := by
 have hn := h.1;have ho := Ae5.val c 0 (by omega) (by omega);by_cases hl : im.length = (vts c).length
 . obtain ⟨v, hv, hv'⟩ := Ev.allP (L := fun k i => Ad0.l4 k c b im (i : Int)) (a := ()) (b := ()) (n := c.length) (fun i => imgS c im (c.getD i []) ∈ b) true (fun i hi => by
     have E := fun k => Ad0.l4_eq k c b im (i : Int);obtain ⟨r, hr, hr'⟩ := Aa0.val b (imgS c im (c.getD i [])) hb;have hm := A0y ([] : List Int) hi;simp only [if_pos (ltI.2 hi), if_pos (idxI.2 hi), Int.toNat_natCast, Ab7.val c im _ h hm (A1O h hm) hl, hr, Option.bind_some, A0j (show i < 4611686018427387904 by omega)] at E;by_cases hmb : imgS c im (c.getD i []) ∈ b
     . exact .inl ⟨hmb, fun k => by rw [E, if_neg (by simp only [decide_eq_true_eq, hr']; exact fun hh => hh hmb)]⟩
     . exact .inr ⟨hmb, fun k => by rw [E, if_pos (by simp only [decide_eq_true_eq, hr']; exact hmb)]⟩) ((Ev.const _).succ fun k => by rw [Ad0.l4_eq, if_neg (by simp)]) 0 (Nat.zero_le _)
   refine ⟨v, Ad0.of _ _ _ (hv.of_eq fun k => ?_), hv'.trans ⟨fun ⟨_, h⟩ => ⟨hl, fun s hs => ?_⟩, fun h => ⟨rfl, fun j _ hj => h.2 _ (A0y _ hj)⟩⟩⟩
   . rw [Ad0.T, ho];simp only [Option.bind_some];rw [if_neg (by rw [A0t]; simp [hl])]; rfl
   . obtain ⟨j, hj, rfl⟩ := List.getElem_of_mem hs;have := h j (Nat.zero_le _) hj
     rwa [A0z hj] at this
 . refine ⟨false, Ad0.of _ _ _ ((Ev.const _).of_eq fun k => ?_), by simp only [Bool.false_eq_true, false_iff]; exact fun h => hl h.1⟩;rw [Ad0.T, ho];simp only [Option.bind_some];rw [if_pos (by rw [A0t]; simp; omega)]
theorem Af4.val (c b : List (List Int)) (im : List Int) (h : CplxOk c) (hb : CplxOk b) (him : im.length ≤ 1048576) : ∃ v, Af4.F (c, b, im, ()) = some ((v, ()), ()) /\ (v = true ↔ A1a c b im) := by
 have hn := h.1;rw [Af4.eq, Af4.T, Ab5.val c (by omega)];simp only [Option.bind_some];by_cases hl : im.length = (vts c).length
 . have hcf := Ab9.val c (Ag7.cloG (b, c, im, ())) (fun s => decide (imgS c im s ∉ b)) (fun s hs => by
     obtain ⟨r, hr, hr'⟩ := Ac5.val b (imgS c im s) hb.sorted hb.small (by have := A0h c im s; have := A1O h hs; omega);show (Ag7.F (s, b, c, im, ())).map (·.1) = _;rw [Ag7.eq, Ag7.T, Ab0.val c im s h hs (A1O h hs) hl];simp only [Option.bind_some, hr, Option.map_some, hr']) (by omega)
   rw [if_neg (by simp [hl]), hcf];refine ⟨_, rfl, ?_⟩;simp [A1a, hl]
 . rw [if_pos (by simp; omega)];exact ⟨false, rfl, by simp only [Bool.false_eq_true, false_iff]; exact fun h => hl h.1⟩
def PrimeOk (p : Int) : Prop := (2 ≤ p /\ p ≤ 251) /\ ∀ i : Nat, 2 ≤ i -> (i : Int) * i ≤ p -> p.tmod i ≠ 0
def MatOk (m : MatV) : Prop := PrimeOk m.1 /\ (0 ≤ m.2.1 /\ m.2.1 ≤ 32) /\ (0 ≤ m.2.2.1 /\ m.2.2.1 ≤ 32) /\ (m.2.2.2.length : Int) = m.2.1 * m.2.2.1 /\ A1J 0 (m.1 - 1) m.2.2.2
theorem mul32 {a b : Int} (ha : 0 ≤ a /\ a ≤ 32) (hb : 0 ≤ b /\ b ≤ 32) : 0 ≤ a * b /\ a * b ≤ 1024 := by
 obtain ⟨a, rfl⟩ := Int.eq_ofNat_of_zero_le ha.1;obtain ⟨b, rfl⟩ := Int.eq_ofNat_of_zero_le hb.1;have : a * b ≤ 32 * 32 := Nat.mul_le_mul (by omega) (by omega);have e : (a : Int) * (b : Int) = ((a * b : Nat) : Int) := by simp
 omega
theorem MatOk.small {m : MatV} (h : MatOk m) : SmM m := by
 have := mul32 h.2.1 h.2.2.1;have := h.2.2.2.1;unfold SmM Sm;omega
theorem Aa4.val (xs : List Int) (h : xs.length ≤ 1099511627776) : Aa4.F (xs, ()) = some ((xs, ()), ()) := by
 refine Aa4.of xs ?_;have := Goes.fill (L := fun k i ys => Aa4.l3 k xs (i : Int) ys) xs 0 (fun k i ys hi hy => by
   rw [Aa4.l3_eq, if_pos (ltI.2 hi), if_pos (idxI.2 hi), if_pos (by omega), A0j (by omega)];simp only [Int.toNat_natCast]) (List.replicate xs.length 0) (by simp)
 refine Ev.of_eq (this _ ((Ev.const _).succ fun k => ?_)) fun k => ?_
 . rw [Aa4.l3_eq, if_neg (by simp)]
 . rw [Aa4.T, if_pos (by simp only [bigN]; omega)]; rfl
theorem Aa5.val (xs ys : List Int) (hn : xs.length < 4611686018427387904) : ∃ b, Aa5.F (xs, ys, ()) = some ((b, ()), ()) /\ (b = true ↔ xs = ys) := by
 by_cases hl : xs.length = ys.length
 . obtain ⟨b, hb, hb'⟩ := Ev.all (L := fun k i => Aa5.l4 k xs ys (i : Int)) (a := ()) (b := ()) (n := xs.length) (fun i => xs.getD i 0 == ys.getD i 0) (fun k i hi => by
     rw [Aa5.l4_eq, if_pos (ltI.2 hi), if_pos (idxI.2 hi), if_pos (by omega), A0j (by omega)];simp only [Int.toNat_natCast];exact ite_nb _ _ _) (fun k => by rw [Aa5.l4_eq, if_neg (by simp)]) 0 (Nat.zero_le _)
   refine ⟨b, Aa5.of _ _ (hb.of_eq fun k => ?_), by rw [hb', all_eq hl (fun x y => x == y) (by simp)]⟩;rw [Aa5.T, if_neg (by simp [hl])];rfl
 . refine ⟨false, Aa5.of _ _ ((Ev.const _).of_eq fun k => ?_), by simp; intro e; exact hl (by rw [e])⟩;rw [Aa5.T, if_pos (by simp; omega)]
theorem Aa5.refl (xs : List Int) (hn : xs.length < 4611686018427387904) : Aa5.F (xs, xs, ()) = some ((true, ()), ()) := by
 obtain ⟨b, hb, hb'⟩ := Aa5.val xs xs hn;rw [hb, hb'.2 rfl]
theorem Af7.val (xs : List Int) (l : Int) (h0 : 0 ≤ l) (h1 : l ≤ 1048576) (hx : xs.length ≤ maxLen) : ∃ r, Af7.F (xs, l, ()) = some ((r, ()), ()) /\ (r = -1 ∨ 0 ≤ r /\ r ≤ l /\ Sm xs) := by
 have : xs.length ≤ 9223372036854775807 := hx;rw [Af7.eq, Af7.T, A0H (by omega) (by omega)];by_cases h : l < xs.length
 . exact ⟨-1, by rw [if_pos (by simp; omega)], .inl rfl⟩
 . exact ⟨_, by rw [if_neg (by simp; omega)], .inr ⟨by omega, by omega, by unfold Sm; omega⟩⟩
theorem Ac8.val (xs : List (List Int)) (l : Int) (h0 : 0 ≤ l) (h1 : l ≤ 1048576) (hx : xs.length ≤ maxLen) (hr : ∀ x ∈ xs, x.length ≤ maxLen) : ∃ r, Ac8.F (xs, l, ()) = some ((r, ()), ()) /\ (r = -1 ∨ 0 ≤ r /\ r ≤ l /\ SmL xs) := by
 have : xs.length ≤ 9223372036854775807 := hx;by_cases h : l < xs.length
 . exact ⟨-1, Ac8.of _ _ ((Ev.const _).of_eq fun k => by rw [Ac8.T, A0H (by omega) (by omega), if_pos (by simp; omega)]), .inl rfl⟩
 obtain ⟨r, hv, h2⟩ := sz_loop (fun k i s => Ac8.l5 k xs s (i : Int)) xs [] Sm (fun i s hi s0 s1 => by
   have E := fun k => Ac8.l5_eq k xs s (i : Int);obtain ⟨r, hr1, hr2⟩ := Af7.val (xs.getD i []) s s0 s1 (hr _ (A0y _ hi));simp only [if_pos (ltI.2 hi), if_pos (idxI.2 hi), Int.toNat_natCast, hr1, Option.bind_some, A0j (show i < 4611686018427387904 by omega)] at E;rcases hr2 with rfl | ⟨a, b, c⟩
   . exact .inr fun k => by rw [E, if_pos (by simp)]
   . exact .inl ⟨r, a, b, c, fun k => by rw [E, if_neg (by simp; omega)]⟩) (fun k l => by rw [Ac8.l5_eq, if_neg (by simp)]) (l - xs.length) (by omega) (by omega)
 refine ⟨r, Ac8.of _ _ (hv.of_eq fun k => by rw [Ac8.T, A0H (by omega) (by omega), if_neg (by simp; omega)]; rfl), ?_⟩;rcases h2 with h2 | ⟨a, b, c⟩
 . exact .inl h2
 . exact .inr ⟨a, by omega, by omega, c⟩
theorem Ad9.val (xs : List (List Int)) (l : Int) (h0 : 0 ≤ l) (h1 : l ≤ 1048576) (hx : xs.length ≤ maxLen) (hr : ∀ x ∈ xs, x.length ≤ maxLen) : ∃ r, Ad9.F (xs, l, ()) = some ((r, ()), ()) /\ (r = -1 ∨ 0 ≤ r /\ r ≤ l /\ SmL xs) := by
 obtain ⟨r, h2, h3⟩ := Ac8.val xs l h0 h1 hx hr;rw [Ad9.eq, Ad9.T, h2];simp only [Option.bind_some];rcases h3 with rfl | ⟨a, b, c⟩
 . exact ⟨-1, by rw [if_pos (by simp)], .inl rfl⟩
 . exact ⟨r, by rw [if_neg (by simp; omega)], .inr ⟨a, b, c⟩⟩
theorem Ad3.val (xs : List (List Int)) (h : SmL xs) : Ad3.F (xs, ()) = some ((xs, ()), ()) := by
 have hl := h.1;refine Ad3.of xs ?_;have := Goes.fill (L := fun k i ys => Ad3.l3 k xs (i : Int) ys) xs [] (fun k i ys hi hy => by
   have hs : (xs.getD i []).length ≤ 1048576 := h.2 _ (A0y _ hi);rw [Ad3.l3_eq, if_pos (ltI.2 hi), if_pos (idxI.2 hi)];simp only [Int.toNat_natCast, Aa4.val (xs.getD i []) (by omega), Option.bind_some];rw [if_pos (by omega), A0j (by omega)]) (List.replicate xs.length []) (by simp)
 refine Ev.of_eq (this _ ((Ev.const _).succ fun k => ?_)) fun k => ?_
 . rw [Ad3.l3_eq, if_neg (by simp)]
 . rw [Ad3.T, if_pos (by simp only [bigN]; omega)]; rfl
theorem Aa6.val (xs : List (List Int)) (h : SmL xs) : Aa6.F (xs, ()) = some ((xs, ()), ()) := by
 rw [Aa6.eq, Aa6.T, Ad3.val xs h]; rfl
theorem Ac7.same (xs ys : List (List Int)) (h : SmL xs) : ∃ b, Ac7.F (xs, ys, ()) = some ((b, ()), ()) /\ (b = true ↔ xs = ys) := by
 have hn := h.1;by_cases hl : xs.length = ys.length
 . obtain ⟨b, hb, hb'⟩ := A0U (fun k i => Ac7.l4 k xs ys (i : Int)) xs ys [] hl (fun i hi => by
     have hs : (xs.getD i []).length ≤ 1048576 := h.2 _ (A0y _ hi);obtain ⟨c, hc, hc'⟩ := Aa5.val (xs.getD i []) (ys.getD i []) (by omega);exact ⟨c, hc', fun k => by rw [Ac7.l4_eq, if_pos (ltI.2 hi), if_pos (idxI.2 hi), if_pos (idx2 (hl ▸ hi))]; simp only [Int.toNat_natCast, hc, Option.bind_some]; rw [A0j (by omega)]⟩) (fun k => by rw [Ac7.l4_eq, if_neg (by simp)])
   exact ⟨b, Ac7.of _ _ (hb.of_eq fun k => by rw [Ac7.T, if_neg (by simp [hl])]; rfl), hb'⟩
 . exact ⟨false, Ac7.of _ _ ((Ev.const _).of_eq fun k => by rw [Ac7.T, if_pos (by simp; omega)]), by simp; intro e; exact hl (by rw [e])⟩
theorem Ab8.same (xs ys : List (List Int)) (h : SmL xs) : ∃ b, Ab8.F (xs, ys, ()) = some ((b, ()), ()) /\ (b = true ↔ xs = ys) := by
 obtain ⟨b, hb, hb'⟩ := Ac7.same xs ys h;rw [Ab8.eq, Ab8.T, hb];exact ⟨b, by cases b <;> rfl, hb'⟩
def A0m (ys : List Int) (k : Int) : Prop := ∀ j, j < ys.length -> ys.getD j 0 = k + j
theorem Aa9.val (xs : List Int) (k0 : Int) (h0 : 0 ≤ k0) (h1 : k0 + xs.length ≤ 4611686018427387904) : ∃ ys, Aa9.F (xs, k0, ()) = some ((k0 + xs.length, ()), (ys, ())) /\ ys.length = xs.length /\ A0m ys k0 := by
 obtain ⟨⟨v, ys⟩, ⟨hv, hl, hm⟩, hg⟩ := Goes.loop (R := (Int × Unit) × (List Int × Unit)) (fun k i (s : Int × List Int) => Aa9.l2 k s.1 (i : Int) s.2) xs.length (fun i s => s.1 = k0 + i /\ s.2.length = xs.length /\ ∀ j, j < i -> s.2.getD j 0 = k0 + j)
   (fun i s hi ⟨h2, h3, h4⟩ => ⟨(s.1 + 1, s.2.set i s.1), ⟨by simp only []; omega, by simp [h3], fun j hj => by
     simp only [List.getD_eq_getElem?_getD, List.getElem?_set];by_cases hij : i = j
     . subst hij; simp [h3, hi, h2]
     . have := h4 j (by omega);simp only [List.getD_eq_getElem?_getD] at this;simp [hij, this]⟩, Goes.succ fun k => by
     rw [Aa9.l2_eq, if_pos (by simp; omega), if_pos (by omega), A0H (by omega) (by omega), A0j (by omega)];simp only [Int.toNat_natCast]⟩) 0 (k0, xs) (Nat.zero_le _) ⟨by simp, rfl, fun j hj => by omega⟩
 simp only [] at hv hl hm;refine ⟨ys, Aa9.of _ _ ((hg _ ((Ev.const _).succ fun k => ?_)).of_eq fun k => rfl), hl, fun j hj => hm j (by omega)⟩;rw [Aa9.l2_eq, if_neg (by simp; omega), hv]
theorem Ad7.val (ys : List Int) (k0 : Int) (h0 : 0 ≤ k0) (h1 : k0 + ys.length ≤ 4611686018427387904) (hm : A0m ys k0) : Ad7.F (ys, k0, ()) = some ((k0 + ys.length, ()), ()) := by
 obtain ⟨v, hv, hg⟩ := Goes.loop (R := (Int × Unit) × Unit) (fun k i (s : Int) => Ad7.l2 k ys s (i : Int)) ys.length (fun i s => s = k0 + i)
   (fun i s hi h2 => ⟨s + 1, by omega, Goes.succ fun k => by
     rw [Ad7.l2_eq, if_pos (ltI.2 hi), if_pos (idxI.2 hi), if_neg (by simp only [Int.toNat_natCast]; rw [hm i hi, h2]; simp), A0H (by omega) (by omega), A0j (by omega)]⟩) 0 k0 (Nat.zero_le _) (by simp)
 refine Ad7.of _ _ ((hg _ ((Ev.const _).succ fun k => ?_)).of_eq fun k => rfl);rw [Ad7.l2_eq, if_neg (by simp), hv]
def offs (xs : List (List Int)) (i : Nat) : Nat := ((xs.take i).map List.length).sum
theorem A0C {xs : List (List Int)} {i : Nat} (h : i < xs.length) : offs xs (i + 1) = offs xs i + (xs.getD i []).length := by
 unfold offs;rw [List.take_add_one, List.getElem?_eq_getElem h, Option.toList_some, List.map_append, List.sum_append, A0z h];simp
theorem A1T {xs : List (List Int)} {i j : Nat} (h : i ≤ j) : offs xs i ≤ offs xs j := by
 induction h with
 | refl => exact Nat.le_refl _
 | @step m _ ih =>
   by_cases hm : m < xs.length
   . rw [Nat.succ_eq_add_one, A0C hm]; omega
   . have : offs xs (m + 1) = offs xs m := by unfold offs; rw [List.take_of_length_le (by omega), List.take_of_length_le (by omega)]
     rw [Nat.succ_eq_add_one, this]; exact ih
theorem Ad2.val (xs : List (List Int)) (k0 : Int) (h0 : 0 ≤ k0) (hx : xs.length < 4611686018427387904) (h1 : k0 + offs xs xs.length ≤ 4611686018427387904) :
   ∃ ys, Ad2.F (xs, k0, ()) = some ((k0 + offs xs xs.length, ()), (ys, ())) /\ ys.length = xs.length /\ ∀ j, j < xs.length -> (ys.getD j []).length = (xs.getD j []).length /\ A0m (ys.getD j []) (k0 + offs xs j) := by
 obtain ⟨⟨v, ys⟩, ⟨hv, hl, hm, -⟩, hg⟩ := Goes.loop (R := (Int × Unit) × (List (List Int) × Unit)) (fun k i (s : Int × List (List Int)) => Ad2.l2 k s.1 (i : Int) s.2) xs.length
   (fun i s => s.1 = k0 + offs xs i /\ s.2.length = xs.length /\ (∀ j, j < i -> (s.2.getD j []).length = (xs.getD j []).length /\ A0m (s.2.getD j []) (k0 + offs xs j)) /\ ∀ j, i ≤ j -> s.2.getD j [] = xs.getD j [])
   (fun i s hi ⟨h2, h3, h4, h5⟩ => by
     have hle := A1T (xs := xs) (show i + 1 ≤ xs.length by omega);rw [A0C hi] at hle;obtain ⟨ys, e1, e2, e3⟩ := Aa9.val (s.2.getD i []) s.1 (by omega) (by rw [h5 i (Nat.le_refl _), h2]; omega);rw [h5 i (Nat.le_refl _)] at e1 e2;refine ⟨(s.1 + (xs.getD i []).length, s.2.set i ys), ⟨by simp only []; rw [A0C hi]; omega, by simp [h3], fun j hj => ?_, fun j hj => ?_⟩, Goes.succ fun k => ?_⟩
     . simp only [List.getD_eq_getElem?_getD, List.getElem?_set];by_cases hij : i = j
       . subst hij;simp only [h3, hi, if_true, Option.getD_some];exact ⟨by rw [e2, List.getD_eq_getElem?_getD], by rw [<- h2]; exact e3⟩
       . have := h4 j (by omega);simp only [List.getD_eq_getElem?_getD] at this;simpa [hij] using this
     . have := h5 j (by omega);simp only [List.getD_eq_getElem?_getD, List.getElem?_set] at this ⊢;rw [if_neg (by omega)]; exact this
     . rw [Ad2.l2_eq, if_pos (by simp; omega), if_pos (by omega)];simp only [Int.toNat_natCast, h5 i (Nat.le_refl _), e1, Option.bind_some];rw [A0j (by omega)]) 0 (k0, xs) (Nat.zero_le _) ⟨by simp [offs], rfl, fun j hj => by omega, fun _ _ => rfl⟩
 simp only [] at hv hl hm;refine ⟨ys, Ad2.of _ _ ((hg _ ((Ev.const _).succ fun k => ?_)).of_eq fun k => rfl), hl, hm⟩;rw [Ad2.l2_eq, if_neg (by simp; omega), hv]
theorem Ad8.val (xs ys : List (List Int)) (k0 : Int) (h0 : 0 ≤ k0) (hx : xs.length < 4611686018427387904) (h1 : k0 + offs xs xs.length ≤ 4611686018427387904) (hl : ys.length = xs.length)
   (hm : ∀ j, j < xs.length -> (ys.getD j []).length = (xs.getD j []).length /\ A0m (ys.getD j []) (k0 + offs xs j)) : Ad8.F (ys, k0, ()) = some ((k0 + offs xs xs.length, ()), ()) := by
 obtain ⟨v, hv, hg⟩ := Goes.loop (R := (Int × Unit) × Unit) (fun k i (s : Int) => Ad8.l2 k ys s (i : Int)) xs.length (fun i s => s = k0 + offs xs i)
   (fun i s hi h2 => by
     have hle := A1T (xs := xs) (show i + 1 ≤ xs.length by omega);rw [A0C hi] at hle;obtain ⟨e1, e2⟩ := hm i hi;have e3 := Ad7.val (ys.getD i []) s (by omega) (by rw [e1, h2]; omega) (by rw [h2]; exact e2);refine ⟨s + (xs.getD i []).length, by rw [A0C hi]; omega, Goes.succ fun k => ?_⟩;rw [Ad8.l2_eq, if_pos (by simp; omega), if_pos (by omega)];simp only [Int.toNat_natCast, e3, Option.bind_some];rw [if_neg (by simp; omega), A0j (by omega), e1]) 0 k0 (Nat.zero_le _) (by simp [offs])
 refine Ad8.of _ _ ((hg _ ((Ev.const _).succ fun k => ?_)).of_eq fun k => rfl);rw [Ad8.l2_eq, if_neg (by simp; omega), hv]
theorem A1A {xs : List (List Int)} (h : SmL xs) : offs xs xs.length ≤ 1048576 * 1048576 := by
 have key : ∀ i, i ≤ xs.length -> offs xs i ≤ 1048576 * i := by
   intro i;induction i with
   | zero => intro _; simp [offs]
   | succ i ih =>
     intro hi;have h1 := ih (by omega);have h2 : (xs.getD i []).length ≤ 1048576 := h.2 _ (A0y _ (by omega));rw [A0C (by omega)]; omega
 have := key xs.length (Nat.le_refl _);have := h.1;omega
theorem Aa8.some (c : List (List Int)) (k0 : Int) (h : SmL c) (h0 : 0 ≤ k0) (h1 : k0 ≤ 1152921504606846976) : ∃ v ys, Aa8.F (c, k0, ()) = some ((v, ()), (ys, ())) /\ k0 ≤ v /\ v ≤ k0 + 1099511627776 := by
 have b := A1A h;have hl := h.1;obtain ⟨ys, e, _⟩ := Ad2.val c k0 h0 (by omega) (by omega);rw [Aa8.eq, Aa8.T, e];exact ⟨k0 + ((offs c c.length : Nat) : Int), _, rfl, by omega, by omega⟩
theorem Aa9.some (xs : List Int) (k0 : Int) (h : xs.length ≤ 1048576) (h0 : 0 ≤ k0) (h1 : k0 ≤ 1152921504606846976) : ∃ v ys, Aa9.F (xs, k0, ()) = some ((v, ()), (ys, ())) /\ k0 ≤ v /\ v ≤ k0 + 1048576 := by
 obtain ⟨ys, e, _⟩ := Aa9.val xs k0 h0 (by omega);exact ⟨_, _, e, by omega, by omega⟩
theorem A0Q (c ys : List (List Int)) (k0 : Int) (h : SmL c) (h0 : 0 ≤ k0) (h1 : k0 ≤ 576460752303423488) (e : ∃ v, Aa8.F (c, k0, ()) = some ((v, ()), (ys, ()))) : Af6.F (ys, k0, ()) = some ((k0 + offs c c.length, ()), ()) := by
 have b := A1A h;have hl := h.1;obtain ⟨v, e⟩ := e;obtain ⟨ys', e1, e2, e3⟩ := Ad2.val c k0 h0 (by omega) (by omega);rw [Aa8.eq, Aa8.T, e1] at e;have e : some ((k0 + ((offs c c.length : Nat) : Int), ()), (ys', ())) = some ((v, ()), (ys, ())) := e;simp only [Option.some.injEq, Prod.mk.injEq, and_true] at e;obtain ⟨rfl, rfl⟩ := e;rw [Af6.eq, Af6.T, Ad8.val c ys' k0 h0 (by omega) (by omega) e2 e3];simp only [Option.bind_some];rw [if_neg (by simp; omega)]
theorem A0T (c : List (List Int)) (k0 : Int) (h : SmL c) (h0 : 0 ≤ k0) (h1 : k0 ≤ 576460752303423488) : ∃ ys, Aa8.F (c, k0, ()) = some ((k0 + offs c c.length, ()), (ys, ())) /\ Af6.F (ys, k0, ()) = some ((k0 + offs c c.length, ()), ()) := by
 have b := A1A h;have hl := h.1;obtain ⟨ys', e1, e2, e3⟩ := Ad2.val c k0 h0 (by omega) (by omega);have e : Aa8.F (c, k0, ()) = some ((k0 + ((offs c c.length : Nat) : Int), ()), (ys', ())) := by rw [Aa8.eq, Aa8.T, e1]; rfl
 exact ⟨ys', e, A0Q c ys' k0 h h0 h1 ⟨_, e⟩⟩
theorem A1v {c : List (List Int)} (h : CplxOk c) : A0q (· ∈ c) := fun t ht h1 k hk => by
 obtain ⟨j, hj, rfl⟩ := List.getElem_of_mem ht;rw [<- A0z (d := []) hj] at h1 hk ⊢;exact (h.2 j hj).2.2 h1 k hk
theorem A0n {c : List (List Int)} (h : CplxOk c) : ∀ s ∈ c, A0K s := fun s hs => by
 obtain ⟨j, hj, rfl⟩ := List.getElem_of_mem hs;rw [<- A0z (d := []) hj];exact (h.2 j hj).1
theorem A1j {c : List (List Int)} (h : CplxOk c) (q : Int -> Bool) : ∀ (n : Nat) (s : List Int), s ∈ c -> s.length ≤ n -> s.filter q ≠ [] -> s.filter q ∈ c := by
 intro n;induction n with
 | zero =>
   intro s hs hl hne;have := (A0n h s hs).1.1;omega
 | succ n ih =>
   intro s hs hl hne;by_cases hall : ∀ x ∈ s, q x = true
   . rw [List.filter_eq_self.2 hall]; exact hs
   . simp only [Classical.not_forall] at hall;obtain ⟨x, hx, hq⟩ := hall;obtain ⟨k, hk, rfl⟩ := List.getElem_of_mem hx;have hq : q s[k] = false := by simpa using hq
     have e : s.filter q = (A0x s k).filter q := by
       unfold A0x;rw [List.filter_append]
       conv => lhs; rw [<- List.take_append_drop k s, List.filter_append]
       congr 1;rw [List.drop_eq_getElem_cons hk, List.filter_cons, hq]; simp
     have h1 : 1 < s.length := by
       by_cases h1 : 1 < s.length
       . exact h1
       . exfalso;have hl1 : s.length = 1 := by omega
         match s, hl1, hk, hq, hne with
         | [a], _, hk, hq, hne =>
           have : k = 0 := by simpa using hk
           subst this;simp at hq;exact hne (by simp [hq])
     rw [e] at hne ⊢;exact ih _ (A1v h s hs h1 k hk) (by rw [A0w hk]; omega) hne
theorem A0l {t : List Int} {k : Nat} (hk : k < t.length) : t = t.take k ++ t[k] :: t.drop (k + 1) := by
 rw [<- List.drop_eq_getElem_cons hk, List.take_append_drop]
theorem A1b {t : List Int} (ht : t.Pairwise (· < ·)) {k : Nat} (hk : k < t.length) : A0x t k = t.filter fun x => decide (x ≠ t[k]) := by
 have e := A0l hk;have h : (t.take k ++ t[k] :: t.drop (k + 1)).Pairwise (· < ·) := by rw [<- e]; exact ht
 rw [List.pairwise_append, List.pairwise_cons] at h;obtain ⟨h1, ⟨h2, h3⟩, h4⟩ := h;have hsub : (A0x t k).Pairwise (· < ·) := by
   unfold A0x;rw [List.pairwise_append];exact ⟨h1, h3, fun a ha b hb => h4 a ha b (List.mem_cons_of_mem _ hb)⟩
 refine A0f hsub (ht.sublist List.filter_sublist) fun x => ?_;have hmem : x ∈ t ↔ x ∈ t.take k ∨ x = t[k] ∨ x ∈ t.drop (k + 1) := by
   have : x ∈ t ↔ x ∈ t.take k ++ t[k] :: t.drop (k + 1) := by rw [<- e]
   rw [this, List.mem_append, List.mem_cons]
 have hne : ∀ y, y ∈ t.take k ∨ y ∈ t.drop (k + 1) -> y ≠ t[k] := by
   intro y hy;rcases hy with hy | hy
   . have := h4 y hy t[k] List.mem_cons_self; omega
   . have := h2 y hy; omega
 rw [List.mem_filter, decide_eq_true_eq];unfold A0x;rw [List.mem_append];constructor
 . intro hy; exact ⟨hmem.2 (hy.imp id .inr), hne x hy⟩
 . rintro ⟨h1, h2⟩;rcases hmem.1 h1 with h | h | h
   . exact .inl h
   . exact absurd h h2
   . exact .inr h
def A0M (c : List (List Int)) (im : List Int) : List (List Int) := c.map (imgS c im)
theorem A0o {c : List (List Int)} (h : CplxOk c) (im : List Int) : ∀ t ∈ A0M c im, 1 ≤ t.length /\ t.length ≤ 4 := fun t ht => by
 unfold A0M at ht;obtain ⟨s, hs, rfl⟩ := List.mem_map.1 ht;have h1 := (A0n h s hs).1;have h2 := A0h c im s;refine ⟨?_, by omega⟩;have hne : (imgL c im s) ≠ [] := by
   unfold imgL;intro e;rw [List.map_eq_nil_iff] at e;rw [e] at h1; simp at h1
 obtain ⟨x, hx⟩ := List.exists_mem_of_ne_nil _ hne;exact List.length_pos_of_mem ((A0D _).2 x |>.2 hx)
theorem A1w {c : List (List Int)} (h : CplxOk c) (im : List Int) : A0q (· ∈ A0M c im) := fun t ht h1 k hk => by
 have ht' := ht;unfold A0M at ht';obtain ⟨s, hs, rfl⟩ := List.mem_map.1 ht';have p1 : (imgS c im s).Pairwise (· < ·) := (A0D (imgL c im s)).1;have p2 : ∀ x, x ∈ imgS c im s ↔ x ∈ imgL c im s := (A0D (imgL c im s)).2;have e1 := A1b p1 hk;let q : Int -> Bool := fun v => decide (im.getD (idxV (vts c) v) 0 ≠ (imgS c im s)[k]);have hset : ∀ x, x ∈ (imgS c im s).filter (fun x => decide (x ≠ (imgS c im s)[k])) ↔ x ∈ imgL c im (s.filter q) := fun x => by
   rw [List.mem_filter];unfold imgL;have hx : x ∈ imgS c im s ↔ ∃ v ∈ s, im.getD (idxV (vts c) v) 0 = x := by
     rw [p2]; unfold imgL; rw [List.mem_map]
   rw [hx, List.mem_map];constructor
   . rintro ⟨⟨v, hv, rfl⟩, hne⟩;exact ⟨v, List.mem_filter.2 ⟨hv, hne⟩, rfl⟩
   . rintro ⟨v, hv, rfl⟩;obtain ⟨hv, hne⟩ := List.mem_filter.1 hv;exact ⟨⟨v, hv, rfl⟩, hne⟩
 have e2 : A0x (imgS c im s) k = imgS c im (s.filter q) := by
   have r1 : (imgS c im (s.filter q)).Pairwise (· < ·) := (A0D (imgL c im (s.filter q))).1;have r2 : ∀ x, x ∈ imgS c im (s.filter q) ↔ x ∈ imgL c im (s.filter q) := (A0D (imgL c im (s.filter q))).2;refine A0f (by rw [e1]; exact p1.sublist List.filter_sublist) r1 fun x => ?_;rw [e1, r2]; exact hset x
 have hne : s.filter q ≠ [] := fun e => by
   have hl := A0w hk;rw [e2, e] at hl;have hz : imgS c im [] = [] := by
     have := A0h c im [];exact List.eq_nil_of_length_eq_zero (by simpa using this)
   rw [hz] at hl;simp only [List.length_nil] at hl;omega
 show A0x (imgS c im s) k ∈ A0M c im;rw [e2];exact List.mem_map.2 ⟨_, A1j h q s.length s hs (Nat.le_refl _) hne, rfl⟩
theorem A1c {l : List (List Int)} (hl : ∀ s ∈ l, 1 ≤ s.length /\ s.length ≤ 4) (hc : A0q (· ∈ l)) : A1x l = A0R l := by
 have C := A1M l hl;refine A0e C.pw (A1g _) fun s => ?_;rw [A0p];exact ⟨fun h => C.least (· ∈ l) hc (fun s h => h) s h, C.has s⟩
theorem A1R (xs : List (List Int)) : (A0R xs).length ≤ xs.length := by
 have hle : ∀ (l : List (List Int)) (p : List Int), (a2H p l).length ≤ l.length := by
   intro l;induction l with
   | nil => intro p; simp [a2H]
   | cons x l ih => intro p; simp only [a2H]; split
                    . have := ih x; simp only [List.length_cons]; omega
                    . have := ih x; simp only [List.length_cons]; omega
 have hle2 : (A0R xs).length ≤ (b3l ordS xs).length := by
   unfold A0R;cases b3l ordS xs with
   | nil => simp [a7P]
   | cons x l => have := hle l x; simp only [a7P, List.length_cons]; omega
 rwa [(A0N xs).length_eq] at hle2
open Classical in
noncomputable def ipC (c b : List (List Int)) (im : List Int) : Int := if CplxOk c /\ CplxOk b then (if A1a c b im then 0 else 6) else 1
noncomputable def ipV (c b : List (List Int)) (im : List Int) : List (List Int) := @ite _ (ipC c b im = 0) (Classical.propDecidable _) (A0R (A0M c im)) []
theorem A0Y {c : List (List Int)} (h : CplxOk c) (im : List Int) : SmL (A0M c im) := ⟨by have := h.1; simp [A0M]; omega, fun t ht => by have := A0o h im t ht; unfold Sm; omega⟩
theorem A0i (c b : List (List Int)) (im : List Int) : SmL (ipV c b im) := by
 unfold ipV;split
 . rename_i h;unfold ipC at h;split at h
   . rename_i h0;have h1 := A1R (A0M c im);have h2 := A0Y h0.1 im;have h3 := h2.1;exact ⟨by omega, fun x hx => h2.2 x ((A0p x _).1 hx)⟩
   . omega
 . exact ⟨by simp, by simp⟩
theorem Ad5.val (c b : List (List Int)) (im : List Int) (hc : SmL c) (hb : SmL b) (him : im.length ≤ 1048576) : Ad5.F (c, b, im, ()) = some ((ipV c b im, ipC c b im, ()), ()) := by
 obtain ⟨v1, a1, a1'⟩ := Ab3.val c hc;obtain ⟨v2, a2, a2'⟩ := Ab3.val b hb;have fin : ∀ (o : List (List Int)) (e : Int), Ac4.F (c, b, im, ()) = some ((o, e, ()), ()) -> Ad5.F (c, b, im, ()) = some ((o, if e = 7 then 6 else e, ()), ()) := fun o e h => by
   rw [Ad5.eq, Ad5.T, h];simp only [Option.bind_some];by_cases he : e = 7
   . rw [if_pos (by simp [he]), if_pos he]
   . rw [if_neg (by simp [he]), if_neg he]
 have hmp : ∀ e : Int, e ≠ 0 -> Ab1.F (c, b, im, ()) = some ((e, ()), ()) -> Ac4.F (c, b, im, ()) = some (([], e, ()), ()) := fun e he h => by
   refine Ac4.of _ _ _ ((Ev.const _).of_eq fun k => ?_);rw [Ac4.T, h];simp only [Option.bind_some];rw [if_pos (by simp [he])]
 cases v1 with
 | false =>
   have e : ipC c b im = 1 := by rw [ipC, if_neg fun hh => absurd (a1'.2 hh.1) (by simp)]
   have hm : Ab1.F (c, b, im, ()) = some ((1, ()), ()) := by
     rw [Ab1.eq, Ab1.T, a1]; rfl
   rw [fin _ _ (hmp 1 (by decide) hm), ipV, e, if_neg (by simp), if_neg (by simp)]
 | true => cases v2 with
   | false =>
     have e : ipC c b im = 1 := by rw [ipC, if_neg fun hh => absurd (a2'.2 hh.2) (by simp)]
     have hm : Ab1.F (c, b, im, ()) = some ((1, ()), ()) := by
       rw [Ab1.eq, Ab1.T, a1, a2]; rfl
     rw [fin _ _ (hmp 1 (by decide) hm), ipV, e, if_neg (by simp), if_neg (by simp)]
   | true =>
     have k1 := a1'.1 rfl;have k2 := a2'.1 rfl;obtain ⟨v3, a3, a3'⟩ := Af4.val c b im k1 k2 him;cases v3 with
     | false =>
       have e : ipC c b im = 6 := by rw [ipC, if_pos ⟨k1, k2⟩, if_neg fun hh => absurd (a3'.2 hh) (by simp)]
       have hm : Ab1.F (c, b, im, ()) = some ((7, ()), ()) := by
         rw [Ab1.eq, Ab1.T, a1, a2];simp only [Option.bind_some, a3];rfl
       rw [fin _ _ (hmp 7 (by decide) hm), ipV, e, if_pos rfl, if_neg (by simp)]
     | true =>
       have hmk := a3'.1 rfl;have e : ipC c b im = 0 := by rw [ipC, if_pos ⟨k1, k2⟩, if_pos hmk]
       have hm : Ab1.F (c, b, im, ()) = some ((0, ()), ()) := by
         rw [Ab1.eq, Ab1.T, a1, a2];simp only [Option.bind_some, a3];rfl
       have hn := k1.1;have hmi : Ac4.F (c, b, im, ()) = some ((A0R (A0M c im), 0, ()), ()) := by
         refine Ac4.of _ _ _ ?_;obtain ⟨x, hx, hg⟩ := Goes.loop (R := (List (List Int) × Int × Unit) × Unit) (fun k i (x : List (List Int)) => Ac4.l6 k im c (c.length : Int) (i : Int) c [] x) c.length (fun i x => x = (c.take i).map (imgS c im)) (fun i x hi h2 => ⟨_, rfl, Goes.succ fun k => by
           have hmem := A0y ([] : List Int) hi;have himg := Ab0.val c im _ k1 hmem (A1O k1 hmem) hmk.1;rw [Ac4.l6_eq, if_pos (ltI.2 hi), if_pos (idxI.2 hi)];simp only [Int.toNat_natCast, himg, Option.bind_some];rw [if_pos (by rw [h2]; simp only [List.length_map, List.length_take, List.length_cons, List.length_nil, bigA]; omega), A0j (by omega), h2, List.take_add_one, List.getElem?_eq_getElem hi, Option.toList_some, List.map_append, A0z hi];rfl⟩) 0 [] (Nat.zero_le _) rfl
         rw [List.take_of_length_le (Nat.le_refl _)] at hx;refine Ev.of_eq (hg _ ((Ev.const _).succ fun k => ?_)) fun k => ?_
         . rw [Ac4.l6_eq, if_neg (by simp), hx];have := Af3.val (A0M c im) (A0Y k1 im);unfold A0M at this ⊢;rw [this]; rfl
         . rw [Ac4.T, hm];simp only [Option.bind_some];rw [if_neg (by simp)]; rfl
       rw [fin _ _ hmi, ipV, e, if_neg (by decide), if_pos rfl]
theorem Ac1.val (c b : List (List Int)) (im : List Int) (hc : SmL c) (hb : SmL b) (him : im.length ≤ 1048576) : Ac1.F (c, b, im, ()) = some ((ipV c b im, ipC c b im, ()), ()) := by
 obtain ⟨v1, a1, a1'⟩ := Aa2.val c hc;obtain ⟨v2, a2, a2'⟩ := Aa2.val b hb;refine Ac1.of _ _ _ ?_;cases v1 with
 | false =>
   have e : ipC c b im = 1 := by rw [ipC, if_neg fun hh => absurd (a1'.2 hh.1) (by simp)]
   refine (Ev.const _).of_eq fun k => ?_;rw [Ac1.T, a1];simp only [Option.bind_some];rw [if_pos (by simp), ipV, e, if_neg (by simp)]
 | true => cases v2 with
   | false =>
     have e : ipC c b im = 1 := by rw [ipC, if_neg fun hh => absurd (a2'.2 hh.2) (by simp)]
     refine (Ev.const _).of_eq fun k => ?_;rw [Ac1.T, a1, a2];simp only [Option.bind_some];rw [if_neg (by simp), if_pos (by simp), ipV, e, if_neg (by simp)]
   | true =>
     have k1 := a1'.1 rfl;have k2 := a2'.1 rfl;obtain ⟨v3, a3, a3'⟩ := Ad0.val c b im k1 hb him;cases v3 with
     | false =>
       have e : ipC c b im = 6 := by rw [ipC, if_pos ⟨k1, k2⟩, if_neg fun hh => absurd (a3'.2 hh) (by simp)]
       refine (Ev.const _).of_eq fun k => ?_;rw [Ac1.T, a1, a2];simp only [Option.bind_some, a3];rw [if_neg (by simp), if_neg (by simp), if_pos (by simp), ipV, e, if_neg (by simp)]
     | true =>
       have hmk := a3'.1 rfl;have e : ipC c b im = 0 := by rw [ipC, if_pos ⟨k1, k2⟩, if_pos hmk]
       have hn := k1.1;have hL := A0o k1 im;have hfold : ∀ i, i ≤ c.length -> CloOk ((c.take i).map (imgS c im)) (A1x ((c.take i).map (imgS c im))) := fun i hi => A1M _ fun t ht => by
         obtain ⟨s, hs, rfl⟩ := List.mem_map.1 ht;exact hL _ (List.mem_map.2 ⟨s, List.mem_of_mem_take hs, rfl⟩)
       obtain ⟨x, hx, hg⟩ := Goes.loop (R := (List (List Int) × Int × Unit) × Unit) (fun k i (x : List (List Int)) => Ac1.l7 k im (i : Int) c [] x) c.length (fun i x => x = A1x ((c.take i).map (imgS c im))) (fun i x hi h2 => ⟨_, rfl, Goes.succ fun k => by
         have hmem := A0y ([] : List Int) hi;have himg := Ab7.val c im _ k1 hmem (A1O k1 hmem) hmk.1;have C := hfold i (by omega);rw [<- h2] at C;have hlen := C.len;rw [List.length_map, List.length_take] at hlen;obtain ⟨s1, s4⟩ := hL (imgS c im (c.getD i [])) (List.mem_map.2 ⟨_, hmem, rfl⟩);have hput := Aa1.val (c := x) s1 s4 C.pw C.cl (C.least (fun t => t.length ≤ 4) A0Z fun s hs => by
           obtain ⟨u, hu, rfl⟩ := List.mem_map.1 hs;exact (hL _ (List.mem_map.2 ⟨u, List.mem_of_mem_take hu, rfl⟩)).2) (by omega)
         rw [Ac1.l7_eq, if_pos (ltI.2 hi), if_pos (idxI.2 hi)];simp only [Int.toNat_natCast, himg, Option.bind_some, hput];rw [A0j (by omega), h2, List.take_add_one, List.getElem?_eq_getElem hi, Option.toList_some, List.map_append, A0z hi, A1x, A1x, List.foldl_append];rfl⟩) 0 [] (Nat.zero_le _) rfl
       rw [List.take_of_length_le (Nat.le_refl _)] at hx;have hcl : A1x (c.map (imgS c im)) = A0R (A0M c im) := A1c hL (A1w k1 im);refine Ev.of_eq (hg _ ((Ev.const _).succ fun k => ?_)) fun k => ?_
       . rw [Ac1.l7_eq, if_neg (by simp), hx, hcl, ipV, e, if_pos rfl]
       . rw [Ac1.T, a1, a2];simp only [Option.bind_some, a3];rw [if_neg (by simp), if_neg (by simp), if_neg (by simp)]; rfl
theorem A1m {s : List (List Int)} (h : wfT (.sl (.sl (.int .i64))) s) : s.length ≤ maxLen /\ ∀ x ∈ s, x.length ≤ maxLen := ⟨h.1, fun x hx => (h.2 x hx).1⟩
theorem Ae6.pure (d : Ins Ae6.sig.ps) (h : wfIns Ae6.sig.ps d) : ∃ mu, Ae6.F d = some ((true, ()), mu) := by
 obtain ⟨d0, d1, d2, ⟨⟩⟩ := d;obtain ⟨hw0, hw1, hw2, _⟩ := h;obtain ⟨w0a, w0b⟩ := A1m hw0;obtain ⟨w1a, w1b⟩ := A1m hw1;refine ⟨(), ?_⟩;have hT : Ae6.F (d0, d1, d2, ()) = Ae6.T d0 d1 d2 := Ae6.eq _ _ _;rw [hT, Ae6.T];by_cases hl2 : d2.length ≤ 1048576
 . rw [if_neg (by simp; omega)];obtain ⟨r0, e0, k0⟩ := Ad9.val d0 1048576 (by omega) (by omega) w0a w0b;rw [e0];simp only [Option.bind_some];rcases k0 with rfl | ⟨a0, b0, c0⟩
   . rw [if_pos (by simp)]
   rw [if_neg (by simp; omega)];obtain ⟨r1, e1, k1⟩ := Ad9.val d1 r0 a0 (by omega) w1a w1b;rw [e1];simp only [Option.bind_some];rcases k1 with rfl | ⟨a1, b1, c1⟩
   . rw [if_pos (by simp)]
   rw [if_neg (by simp; omega)];have t0 := Aa6.val d0 c0;obtain ⟨f0, g0, g0'⟩ := Ab8.same d0 d0 c0;obtain rfl : f0 = true := g0'.2 rfl;obtain ⟨v0, s0, m0, ma0, mb0⟩ := Aa8.some d0 1 c0 (by omega) (by omega);have t1 := Aa6.val d1 c1;obtain ⟨f1, g1, g1'⟩ := Ab8.same d1 d1 c1;obtain rfl : f1 = true := g1'.2 rfl;obtain ⟨v1, s1, m1, ma1, mb1⟩ := Aa8.some d1 v0 c1 (by omega) (by omega);have t2 := Aa4.val d2 (by omega);have g2 := Aa5.refl d2 (by omega);obtain ⟨v2, s2, m2, ma2, mb2⟩ := Aa9.some d2 v1 hl2 (by omega) (by omega);obtain ⟨fr, gr, gr'⟩ := Ab8.same (ipV d0 d1 d2) (ipV d0 d1 d2) (A0i d0 d1 d2);obtain rfl : fr = true := gr'.2 rfl;obtain ⟨ys, n1, n2⟩ := A0T (ipV d0 d1 d2) 1 (A0i d0 d1 d2) (by omega) (by omega);have q1 : ¬ v2 < 0 := by omega
   have hz := A0i d0 d1 d2;have q2 : ¬ (1 + (offs (ipV d0 d1 d2) (ipV d0 d1 d2).length : Int)) < 0 := by omega
   simp [t0, g0, m0, t1, g1, m1, t2, g2, m2, Ac1.val d0 d1 d2 c0 c1 hl2, Ad5.val d0 d1 d2 c0 c1 hl2, gr, n1, n2, q1, q2]
 . rw [if_pos (by simp; omega)]
end Go.Proofs.YtjimdbbeilfkfaaGreat
