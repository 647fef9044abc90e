/- What the functions answer. -/
import Derived.Test.YtnfpapicmhhlnaaGreatHomDimensionG1
namespace Go.Proofs.YtnfpapicmhhlnaaGreat
open Go Go.Vm
set_option linter.unusedVariables false
set_option linter.unusedSimpArgs false
abbrev A2Q := Int × Int × Int
theorem A0w {x : Int} (h1 : -9223372036854775808 ≤ x) (h2 : x ≤ 9223372036854775807) : IntKind.i64.wrap x = x := by
 have e : (2 : Int) ^ (IntKind.i64).bits = 18446744073709551616 := by decide
 have e2 : (2 : Int) ^ ((IntKind.i64).bits - 1) = 9223372036854775808 := by decide
 unfold IntKind.wrap;simp only [e, e2, show IntKind.i64.signed = true from rfl, Bool.true_and, decide_eq_true_eq];split <;> omega
theorem A0v {i : Nat} (h : i < 4611686018427387904) : IntKind.i64.wrap ((i : Int) + 1) = ((i + 1 : Nat) : Int) := by
 rw [A0w (by omega) (by omega)]; omega
theorem idxI {α : Type} {xs : List α} {i : Nat} : (0 ≤ (i : Int) /\ (i : Int) < (xs.length : Int)) ↔ i < xs.length := by omega
theorem ltI {i n : Nat} : (decide ((i : Int) < (n : Int))) = true ↔ i < n := by simp
theorem A0q {α : Type} {xs : List α} {i : Nat} {d : α} (h : i < xs.length) : xs.getD i d = xs[i] := by
 rw [List.getD_eq_getElem?_getD, List.getElem?_eq_getElem h]; rfl
def Goes {R : Type} (A B : Nat -> Option R) : Prop := ∀ r, Ev B r -> Ev A r
theorem Goes.refl {R : Type} (A : Nat -> Option R) : Goes A A := fun _ h => h
theorem Goes.trans {R : Type} {A B C : Nat -> Option R} (h : Goes A B) (k : Goes B C) : Goes A C := fun r hr => h r (k r hr)
theorem Goes.succ {R : Type} {A B : Nat -> Option R} (e : ∀ k, A (k + 1) = B k) : Goes A B := fun _ h => h.succ e
theorem Goes.of_eq {R : Type} {A B : Nat -> Option R} (e : ∀ k, A k = B k) : Goes A B := fun _ h => h.of_eq e
theorem Ev.loop {σ R : Type} (L : Nat -> Nat -> σ -> Option R) (n : Nat) (I : Nat -> σ -> Prop) (Q : R -> Prop)
   (hstep : ∀ i s, i < n -> I i s -> (∃ r, Ev (fun k => L k i s) r /\ Q r) ∨ (∃ s', I (i + 1) s' /\ Goes (fun k => L k i s) (fun k => L k (i + 1) s')))
   (hend : ∀ s, I n s -> ∃ r, Ev (fun k => L k n s) r /\ Q r) : ∀ i s, i ≤ n -> I i s -> ∃ r, Ev (fun k => L k i s) r /\ Q r := by
 have key : ∀ j i s, i + j = n -> I i s -> ∃ r, Ev (fun k => L k i s) r /\ Q r := by
   intro j;induction j with
   | zero => intro i s hi h; obtain rfl : i = n := by omega
             exact hend s h
   | succ j ih =>
     intro i s hi h;rcases hstep i s (by omega) h with h1 | ⟨s', h1, h2⟩
     . exact h1
     . obtain ⟨r, hr, hq⟩ := ih (i + 1) s' (by omega) h1;exact ⟨r, h2 r hr, hq⟩
 exact fun i s hi h => key (n - i) i s (by omega) h
theorem Goes.loop {σ R : Type} (L : Nat -> Nat -> σ -> Option R) (n : Nat) (I : Nat -> σ -> Prop)
   (hstep : ∀ i s, i < n -> I i s -> ∃ s', I (i + 1) s' /\ Goes (fun k => L k i s) (fun k => L k (i + 1) s')) : ∀ i s, i ≤ n -> I i s -> ∃ s', I n s' /\ Goes (fun k => L k i s) (fun k => L k n s') := by
 have key : ∀ j i s, i + j = n -> I i s -> ∃ s', I n s' /\ Goes (fun k => L k i s) (fun k => L k n s') := by
   intro j;induction j with
   | zero => intro i s hi h; obtain rfl : i = n := by omega
             exact ⟨s, h, Goes.refl _⟩
   | succ j ih =>
     intro i s hi h;obtain ⟨s', h1, h2⟩ := hstep i s (by omega) h;obtain ⟨s2, h3, h4⟩ := ih (i + 1) s' (by omega) h1;exact ⟨s2, h3, h2.trans h4⟩
 exact fun i s hi h => key (n - i) i s (by omega) h
theorem Ev.all {A B : Type} {L : Nat -> Nat -> Option ((Bool × A) × B)} {a : A} {b : B} {n : Nat} (p : Nat -> Bool) (hstep : ∀ k i, i < n -> L (k + 1) i = if p i = true then L k (i + 1) else some ((false, a), b)) (hend : ∀ k, L (k + 1) n = some ((true, a), b)) (i : Nat) (hi : i ≤ n) :
   ∃ v, Ev (fun k => L k i) ((v, a), b) /\ (v = true ↔ ∀ j, i ≤ j -> j < n -> p j = true) := by
 have key : ∀ m i, i + m = n -> ∃ v, Ev (fun k => L k i) ((v, a), b) /\ (v = true ↔ ∀ j, i ≤ j -> j < n -> p j = true) := by
   intro m;induction m with
   | zero => intro i hi; obtain rfl : i = n := by omega
             exact ⟨true, (Ev.const _).succ hend, by simp; intro j _ _; omega⟩
   | succ m ih =>
     intro i hi;obtain ⟨v, hv, hv'⟩ := ih (i + 1) (by omega);cases hp : p i with
     | false => exact ⟨false, (Ev.const _).succ fun k => by rw [hstep k i (by omega), hp]; rfl, by simp; exact ⟨i, Nat.le_refl _, by omega, hp⟩⟩
     | true =>
       refine ⟨v, hv.succ fun k => by rw [hstep k i (by omega), hp]; rfl, hv'.trans ⟨fun h j hj hn => ?_, fun h j hj hn => h j (by omega) hn⟩⟩;by_cases hij : j = i
       . rw [hij]; exact hp
       . exact h j (by omega) hn
 exact key (n - i) i (by omega)
theorem all_eq {α : Type} {xs ys : List α} (hl : xs.length = ys.length) (q : α -> α -> Bool) (hq : ∀ x y, q x y = true ↔ x = y) (d : α) : (∀ j, 0 ≤ j -> j < xs.length -> q (xs.getD j d) (ys.getD j d) = true) ↔ xs = ys := by
 constructor
 . intro h;refine List.ext_getElem hl fun i h1 h2 => ?_;have := (hq _ _).1 (h i (Nat.zero_le _) h1)
   rwa [A0q h1, A0q h2] at this
 . rintro rfl j _ _;exact (hq _ _).2 rfl
theorem Goes.fill {α R : Type} {L : Nat -> Nat -> List α -> Option R} (xs : List α) (d : α) (hstep : ∀ k i ys, i < xs.length -> ys.length = xs.length -> L (k + 1) i ys = L k (i + 1) (ys.set i (xs.getD i d))) (ys : List α) (hy : ys.length = xs.length) :
   Goes (fun k => L k 0 ys) (fun k => L k xs.length xs) := by
 obtain ⟨s, ⟨hs1, hs2⟩, hs3⟩ := Goes.loop L xs.length (fun i s => s.length = xs.length /\ s.take i = xs.take i) (fun i s hi ⟨h1, h2⟩ => ⟨s.set i (xs.getD i d), ⟨by simp [h1], by
   rw [List.take_add_one, List.take_add_one, List.take_set_of_le (Nat.le_refl _), h2];simp [hi, h1, A0q hi]⟩, Goes.succ fun k => hstep k i s hi h1⟩) 0 ys (Nat.zero_le _) ⟨hy, by simp⟩
 have : s = xs := by
   rw [List.take_of_length_le (by omega), List.take_of_length_le (Nat.le_refl _)] at hs2;exact hs2
 rw [this] at hs3;exact hs3
theorem ite_nb {α : Type} (b : Bool) (x y : α) : (if (!b) = true then x else y) = if b = true then y else x := by cases b <;> rfl
theorem Ev.allP {A B : Type} {L : Nat -> Nat -> Option ((Bool × A) × B)} {a : A} {b : B} {n : Nat} (P : Nat -> Prop) (e : Bool) (hstep : ∀ i, i < n -> (P i /\ ∀ k, L (k + 1) i = L k (i + 1)) ∨ (¬ P i /\ ∀ k, L (k + 1) i = some ((false, a), b))) (hend : Ev (fun k => L k n) ((e, a), b)) (i : Nat) (hi : i ≤ n) :
   ∃ v, Ev (fun k => L k i) ((v, a), b) /\ (v = true ↔ e = true /\ ∀ j, i ≤ j -> j < n -> P j) := by
 have key : ∀ m i, i + m = n -> ∃ v, Ev (fun k => L k i) ((v, a), b) /\ (v = true ↔ e = true /\ ∀ j, i ≤ j -> j < n -> P j) := by
   intro m;induction m with
   | zero => intro i hi; obtain rfl : i = n := by omega
             exact ⟨e, hend, ⟨fun h => ⟨h, fun j h1 h2 => by omega⟩, fun h => h.1⟩⟩
   | succ m ih =>
     intro i hi;obtain ⟨v, hv, hv'⟩ := ih (i + 1) (by omega);rcases hstep i (by omega) with ⟨hp, h⟩ | ⟨hp, h⟩
     . refine ⟨v, hv.succ h, hv'.trans ⟨fun ⟨h1, h2⟩ => ⟨h1, fun j hj hn => ?_⟩, fun ⟨h1, h2⟩ => ⟨h1, fun j hj hn => h2 j (by omega) hn⟩⟩⟩;by_cases hij : j = i
       . rw [hij]; exact hp
       . exact h2 j (by omega) hn
     . exact ⟨false, (Ev.const _).succ h, ⟨fun h => (by cases h), fun ⟨_, h2⟩ => absurd (h2 i (Nat.le_refl _) (by omega)) hp⟩⟩
 exact key (n - i) i (by omega)
theorem A2X {i : Nat} (h : 0 < i) (h2 : i < 4611686018427387904) : IntKind.i64.wrap ((i : Int) - 1) = ((i - 1 : Nat) : Int) := by
 rw [A0w (by omega) (by omega)]; omega
theorem Goes.foldl {α σ R : Type} {L : Nat -> Nat -> σ -> Option R} (xs : List α) (d : α) (f : σ -> α -> σ) (hstep : ∀ k i s, i < xs.length -> L (k + 1) i s = L k (i + 1) (f s (xs.getD i d))) (s : σ) : Goes (fun k => L k 0 s) (fun k => L k xs.length (xs.foldl f s)) := by
 have key : ∀ m i s, i + m = xs.length -> Goes (fun k => L k i s) (fun k => L k xs.length ((xs.drop i).foldl f s)) := by
   intro m;induction m with
   | zero => intro i s hi; obtain rfl : i = xs.length := by omega
             rw [List.drop_length]; exact Goes.refl _
   | succ m ih =>
     intro i s hi;have h : i < xs.length := by omega
     refine (Goes.succ fun k => hstep k i s h).trans ?_;rw [List.drop_eq_getElem_cons h, List.foldl_cons, <- A0q (d := d) h];exact ih (i + 1) _ (by omega)
 have := key xs.length 0 s (by omega);simpa using this
theorem A0x {α : Type} {xs : List α} {i : Nat} (d : α) (h : i < xs.length) : xs.getD i d ∈ xs := by rw [A0q h]; exact List.getElem_mem h
theorem Ev.allF {A B : Type} {L : Nat -> Nat -> Option ((Bool × A) × B)} {a : A} {b : B} {n : Nat} (P : Nat -> Prop) (e : Bool) (i0 : Nat) (hstep : ∀ i, i0 ≤ i -> i < n -> (P i /\ ∀ k, L (k + 1) i = L k (i + 1)) ∨ (¬ P i /\ ∀ k, L (k + 1) i = some ((false, a), b))) (hend : Ev (fun k => L k n) ((e, a), b)) (i : Nat) (h0 : i0 ≤ i) (hi : i ≤ n) :
   ∃ v, Ev (fun k => L k i) ((v, a), b) /\ (v = true ↔ e = true /\ ∀ j, i ≤ j -> j < n -> P j) := by
 have key : ∀ m i, i0 ≤ i -> i + m = n -> ∃ v, Ev (fun k => L k i) ((v, a), b) /\ (v = true ↔ e = true /\ ∀ j, i ≤ j -> j < n -> P j) := by
   intro m;induction m with
   | zero => intro i h0 hi; obtain rfl : i = n := by omega
             exact ⟨e, hend, ⟨fun h => ⟨h, fun j h1 h2 => by omega⟩, fun h => h.1⟩⟩
   | succ m ih =>
     intro i h0 hi;obtain ⟨v, hv, hv'⟩ := ih (i + 1) (by omega) (by omega);rcases hstep i h0 (by omega) with ⟨hp, h⟩ | ⟨hp, h⟩
     . refine ⟨v, hv.succ h, hv'.trans ⟨fun ⟨h1, h2⟩ => ⟨h1, fun j hj hn => ?_⟩, fun ⟨h1, h2⟩ => ⟨h1, fun j hj hn => h2 j (by omega) hn⟩⟩⟩;by_cases hij : j = i
       . rw [hij]; exact hp
       . exact h2 j (by omega) hn
     . exact ⟨false, (Ev.const _).succ h, ⟨fun h => (by cases h), fun ⟨_, h2⟩ => absurd (h2 i (Nat.le_refl _) (by omega)) hp⟩⟩
 exact key (n - i) i h0 (by omega)
theorem Aa4.val (n lo hi : Int) : Aa4.F (n, lo, hi, ()) = some ((decide (lo ≤ n /\ n ≤ hi), ()), ()) := by
 rw [Aa4.eq, Aa4.T];by_cases h : lo ≤ n
 . rw [if_pos (by simp [h])]; simp [h]
 . rw [if_neg (by simp [h])]; simp [h]
theorem Aa6.val (n lo hi : Int) : Aa6.F (n, lo, hi, ()) = some ((decide (lo ≤ n /\ n ≤ hi), ()), ()) := by
 rw [Aa6.eq, Aa6.T];by_cases h : lo ≤ n
 . rw [if_pos (by simp [h])]; simp [h]
 . rw [if_neg (by simp [h])]; simp [h]
def cmpI (x y : Int) : Int := if x < y then -1 else if x > y then 1 else 0
theorem Aj1.val (x y : Int) : Aj1.F (x, y, ()) = some ((cmpI x y, ()), ()) := by
 rw [Aj1.eq, Aj1.T, Aj3.eq, Aj3.T, Aj3.eq, Aj3.T];simp only [Option.bind_some, bne_self_eq_false, Bool.false_eq_true, if_false, decide_eq_true_eq, cmpI]
 repeat' split
 all_goals rfl
theorem Af8.val2 (x y : Int) : Af8.F ([x, y], ()) = some ((if x ≠ 0 then x else y, ()), ()) := by
 refine Af8.of _ ⟨3, fun k hk => ?_⟩;obtain ⟨k, rfl⟩ : ∃ j, k = j + 1 + 1 + 1 := ⟨k - 3, by omega⟩;show Af8.T (k + 1 + 1 + 1) [x, y] = _;rw [Af8.T, Af8.l3_eq];by_cases hx : x = 0
 . subst hx;simp only [List.length_cons, List.length_nil];rw [if_pos (by simp), if_pos (by simp), if_neg (by simp), Af8.l3_eq];simp only [List.length_cons, List.length_nil];rw [A0w (by omega) (by omega)];rw [if_pos (by simp), if_pos (by simp)];by_cases hy : y = 0
   . subst hy;rw [if_neg (by simp), Af8.l3_eq, A0w (by omega) (by omega), if_neg (by simp)]; simp
   . rw [if_pos (by simp [hy])]; simp
 . simp only [List.length_cons, List.length_nil];rw [if_pos (by simp), if_pos (by simp), if_pos (by simp [hx])];simp [hx]
abbrev MatV := Int × Int × Int × List Int
abbrev ShfV := List (List Int) × Int × List Int × List MatV
def Sm (xs : List Int) : Prop := xs.length ≤ 1048576
def SmL (xs : List (List Int)) : Prop := xs.length ≤ 1048576 /\ ∀ x ∈ xs, Sm x
def SmM (m : MatV) : Prop := Sm m.2.2.2
def SmMs (ms : List MatV) : Prop := ms.length ≤ 1048576 /\ ∀ m ∈ ms, SmM m
def SmSh (s : ShfV) : Prop := SmL s.1 /\ Sm s.2.2.1 /\ SmMs s.2.2.2
theorem A2r {α : Type} (L : Nat -> Nat -> Int -> Option ((Int × Unit) × Unit)) (xs : List α) (d : α) (P : α -> Prop)
   (hstep : ∀ i l, i < xs.length -> 0 ≤ l -> l ≤ 1048576 -> (∃ r, 0 ≤ r /\ r ≤ l /\ P (xs.getD i d) /\ ∀ k, L (k + 1) i l = L k (i + 1) r) ∨ ∀ k, L (k + 1) i l = some ((-1, ()), ()))
   (hend : ∀ k l, L (k + 1) xs.length l = some ((l, ()), ())) (l : Int) (h0 : 0 ≤ l) (h1 : l ≤ 1048576) :
   ∃ r, Ev (fun k => L k 0 l) ((r, ()), ()) /\ (r = -1 ∨ 0 ≤ r /\ r ≤ l /\ ∀ x ∈ xs, P x) := by
 obtain ⟨r, hr, q, rfl, hq⟩ := Ev.loop (σ := Int) L xs.length (fun i s => 0 ≤ s /\ s ≤ l /\ ∀ j, j < i -> P (xs.getD j d)) (fun r => ∃ q : Int, r = ((q, ()), ()) /\ (q = -1 ∨ 0 ≤ q /\ q ≤ l /\ ∀ x ∈ xs, P x))
   (fun i s hi ⟨a, b, c⟩ => by
     rcases hstep i s hi a (by omega) with ⟨r, r0, r1, hp, e⟩ | e
     . refine .inr ⟨r, ⟨r0, by omega, fun j hj => ?_⟩, Goes.succ e⟩;by_cases hji : j = i
       . rw [hji]; exact hp
       . exact c j (by omega)
     . exact .inl ⟨_, (Ev.const _).succ e, -1, rfl, .inl rfl⟩)
   (fun s ⟨a, b, c⟩ => ⟨_, (Ev.const _).succ fun k => hend k s, s, rfl, .inr ⟨a, b, fun x hx => by
     obtain ⟨j, hj, rfl⟩ := List.getElem_of_mem hx;rw [<- A0q (d := d) hj]; exact c j hj⟩⟩) 0 l (Nat.zero_le _) ⟨h0, Int.le_refl _, fun j hj => by omega⟩
 exact ⟨q, hr, hq⟩
theorem A0U {α : Type} (L : Nat -> Nat -> Option ((Bool × Unit) × Unit)) (xs ys : List α) (d : α) (hl : xs.length = ys.length)
   (hstep : ∀ i, i < xs.length -> ∃ b : Bool, (b = true ↔ xs.getD i d = ys.getD i d) /\ ∀ k, L (k + 1) i = if (!b) = true then some ((false, ()), ()) else L k (i + 1))
   (hend : ∀ k, L (k + 1) xs.length = some ((true, ()), ())) : ∃ v, Ev (fun k => L k 0) ((v, ()), ()) /\ (v = true ↔ xs = ys) := by
 obtain ⟨v, hv, hv'⟩ := Ev.allP (L := L) (a := ()) (b := ()) (n := xs.length) (fun i => xs.getD i d = ys.getD i d) true (fun i hi => by
   obtain ⟨b, hb, e⟩ := hstep i hi;cases b with
   | true => exact .inl ⟨hb.1 rfl, fun k => by rw [e]; rfl⟩
   | false => exact .inr ⟨fun h => absurd (hb.2 h) (by simp), fun k => by rw [e]; rfl⟩) ((Ev.const _).succ hend) 0 (Nat.zero_le _)
 refine ⟨v, hv, hv'.trans ⟨fun ⟨_, h⟩ => ?_, fun h => ⟨rfl, fun j _ _ => by rw [h]⟩⟩⟩;refine List.ext_getElem hl fun i h1 h2 => ?_;have := h i (Nat.zero_le _) h1
 rwa [A0q h1, A0q h2] at this
theorem idx2 {i n : Nat} (h : i < n) : 0 ≤ (i : Int) /\ (i : Int) < (n : Int) := by omega
def A1v (p : Int) : Prop := (2 ≤ p /\ p ≤ 251) /\ ∀ i : Nat, 2 ≤ i -> (i : Int) * i ≤ p -> p.tmod i ≠ 0
theorem A2P {i : Nat} (h : i ≤ 1000) : IntKind.i64.wrap ((i : Int) * (i : Int)) = (i : Int) * (i : Int) := by
 have : i * i ≤ 1000 * 1000 := Nat.mul_le_mul h h;have e : (i : Int) * (i : Int) = ((i * i : Nat) : Int) := by simp
 rw [e]; exact A0w (by omega) (by omega)
theorem A1W (L : Nat -> Int -> Option ((Bool × Unit) × Unit)) (p : Int) (hp : 2 ≤ p /\ p ≤ 251) (hL : ∀ k i, L (k + 1) i = if (decide ((IntKind.i64.wrap (i * i)) ≤ p)) = true then (if i = 0 then none else if ((p.tmod i) == (0 : Int)) = true then some ((false, ()), ()) else L k (IntKind.i64.wrap (i + (1 : Int)))) else some ((true, ()), ())) :
   ∃ v, Ev (fun k => L k 2) ((v, ()), ()) /\ (v = true ↔ A1v p) := by
 have big : ∀ i : Nat, 16 ≤ i -> p < (i : Int) * i := fun i hi => by
   have : 16 * 16 ≤ i * i := Nat.mul_le_mul hi hi;have e : (i : Int) * (i : Int) = ((i * i : Nat) : Int) := by simp
   omega
 have key : ∀ d i : Nat, 16 - i ≤ d -> 2 ≤ i -> i ≤ 1000 -> (∀ j : Nat, 2 ≤ j -> j < i -> p.tmod j ≠ 0) -> ∃ v, Ev (fun k => L k (i : Int)) ((v, ()), ()) /\ (v = true ↔ A1v p) := by
   intro d;induction d with
   | zero =>
     intro i hd h2 hi hlow;refine ⟨true, (Ev.const _).succ fun k => by rw [hL, A2P hi, if_neg (by simp only [decide_eq_true_eq]; have := big i (by omega); omega)], by simp; exact ⟨hp, fun j hj hjp => hlow j hj (by
       by_cases h : j < i
       . exact h
       . have := big j (by omega); omega)⟩⟩
   | succ d ih =>
     intro i hd h2 hi hlow;by_cases hsq : (i : Int) * i ≤ p
     . by_cases hm : p.tmod (i : Int) = 0
       . exact ⟨false, (Ev.const _).succ fun k => by rw [hL, A2P hi, if_pos (by simp only [decide_eq_true_eq]; exact hsq), if_neg (by omega), if_pos (by simp only [beq_iff_eq]; exact hm)], by simp; intro hc; exact hc.2 i h2 hsq hm⟩
       . have hi16 : i < 16 := by
           by_cases h : i < 16
           . exact h
           . have := big i (by omega); omega
         obtain ⟨v, hv, hv'⟩ := ih (i + 1) (by omega) (by omega) (by omega) (fun j hj hji => by
           by_cases h : j = i
           . rw [h]; exact hm
           . exact hlow j hj (by omega))
         exact ⟨v, hv.succ fun k => by rw [hL, A2P hi, if_pos (by simp only [decide_eq_true_eq]; exact hsq), if_neg (by omega), if_neg (by simp only [beq_iff_eq]; exact hm), A0v (by omega)], hv'⟩
     . refine ⟨true, (Ev.const _).succ fun k => by rw [hL, A2P hi, if_neg (by simp only [decide_eq_true_eq]; exact hsq)], by simp; exact ⟨hp, fun j hj hjp => hlow j hj (by
         by_cases h : j < i
         . exact h
         . exfalso;have : i * i ≤ j * j := Nat.mul_le_mul (by omega) (by omega);have e1 : (i : Int) * (i : Int) = ((i * i : Nat) : Int) := by simp
           have e2 : (j : Int) * (j : Int) = ((j * j : Nat) : Int) := by simp
           omega)⟩⟩
 exact key 16 2 (by omega) (by omega) (by omega) fun j hj hj2 => by omega
theorem Af4.val (p : Int) : ∃ v, Af4.F (p, ()) = some ((v, ()), ()) /\ (v = true ↔ A1v p) := by
 by_cases hp : 2 ≤ p /\ p ≤ 251
 . obtain ⟨v, hv, hv'⟩ := A1W (fun k i => Af4.l4 k p i) p hp (fun k i => Af4.l4_eq k p i);exact ⟨v, Af4.of _ (hv.of_eq fun k => by rw [Af4.T, Aa4.val]; simp only [Option.bind_some]; rw [if_neg (by rw [decide_eq_true hp]; simp)]), hv'⟩
 . exact ⟨false, Af4.of _ ((Ev.const _).of_eq fun k => by rw [Af4.T, Aa4.val]; simp only [Option.bind_some]; rw [if_pos (by rw [decide_eq_false hp]; rfl)]), by simp; intro h; exact hp h.1⟩
theorem Ad2.val (p : Int) : ∃ v, Ad2.F (p, ()) = some ((v, ()), ()) /\ (v = true ↔ A1v p) := by
 by_cases hp : 2 ≤ p /\ p ≤ 251
 . obtain ⟨v, hv, hv'⟩ := A1W (fun k i => Ad2.l4 k p i) p hp (fun k i => Ad2.l4_eq k p i);exact ⟨v, Ad2.of _ (hv.of_eq fun k => by rw [Ad2.T, Aa6.val]; simp only [Option.bind_some]; rw [if_neg (by rw [decide_eq_true hp]; simp)]), hv'⟩
 . exact ⟨false, Ad2.of _ ((Ev.const _).of_eq fun k => by rw [Ad2.T, Aa6.val]; simp only [Option.bind_some]; rw [if_pos (by rw [decide_eq_false hp]; rfl)]), by simp; intro h; exact hp h.1⟩
def A2Y (xs : List Int) : Prop := ∀ i, 0 < i -> i < xs.length -> xs.getD (i - 1) 0 < xs.getD i 0
def A0N (lo hi : Int) (xs : List Int) : Prop := ∀ a ∈ xs, lo ≤ a /\ a ≤ hi
theorem allIn_iff {lo hi : Int} {xs : List Int} : A0N lo hi xs ↔ ∀ i, i < xs.length -> lo ≤ xs.getD i 0 /\ xs.getD i 0 ≤ hi := by
 refine ⟨fun h i hi => h _ (A0x 0 hi), fun h a ha => ?_⟩;obtain ⟨j, hj, rfl⟩ := List.getElem_of_mem ha;have := h j hj
 rwa [A0q hj] at this
theorem Ai3.val (xs : List Int) (lo hi : Int) (hn : xs.length < 4611686018427387904) : ∃ v, Ai3.F (xs, lo, hi, ()) = some ((v, ()), ()) /\ (v = true ↔ A0N lo hi xs /\ A2Y xs) := by
 obtain ⟨v, hv, hv'⟩ := Ev.allP (L := fun k i => Ai3.l2 k xs lo hi (i : Int)) (a := ()) (b := ()) (n := xs.length) (fun i => (lo ≤ xs.getD i 0 /\ xs.getD i 0 ≤ hi) /\ (0 < i -> xs.getD (i - 1) 0 < xs.getD i 0)) true (fun i hi2 => by
   have E := fun k => Ai3.l2_eq k xs lo hi (i : Int);simp only [if_pos (ltI.2 hi2), if_pos (idxI.2 hi2), Int.toNat_natCast, Aa4.val, Option.bind_some, A0v (show i < 4611686018427387904 by omega)] at E;by_cases h : lo ≤ xs.getD i 0 /\ xs.getD i 0 ≤ hi
   . simp only [decide_eq_true h, Bool.not_true, Bool.false_eq_true, if_false] at E;by_cases h0 : 0 < i
     . have h1 : i - 1 < xs.length := by omega
       simp only [if_pos (show decide ((i : Int) > 0) = true by simp; omega), A2X h0 (show i < 4611686018427387904 by omega), if_pos (idxI.2 h1), Int.toNat_natCast] at E;by_cases h2 : xs.getD (i - 1) 0 < xs.getD i 0
       . exact .inl ⟨⟨h, fun _ => h2⟩, fun k => by rw [E, if_neg (by simp only [decide_eq_true_eq]; omega)]⟩
       . exact .inr ⟨fun hh => h2 (hh.2 h0), fun k => by rw [E, if_pos (by simp only [decide_eq_true_eq]; omega)]⟩
     . exact .inl ⟨⟨h, fun h1 => absurd h1 h0⟩, fun k => by rw [E, if_neg (by simp only [decide_eq_true_eq]; omega)]⟩
   . exact .inr ⟨fun hh => h hh.1, fun k => by rw [E, if_pos (by rw [decide_eq_false h]; rfl)]⟩) ((Ev.const _).succ fun k => by rw [Ai3.l2_eq, if_neg (by simp)]) 0 (Nat.zero_le _)
 refine ⟨v, Ai3.of _ _ _ (hv.of_eq fun k => rfl), hv'.trans ?_⟩;rw [allIn_iff];exact ⟨fun ⟨_, h⟩ => ⟨fun i hi => (h i (Nat.zero_le _) hi).1, fun i h0 hi => (h i (Nat.zero_le _) hi).2 h0⟩, fun ⟨h1, h2⟩ => ⟨rfl, fun i _ hi => ⟨h1 i hi, fun h0 => h2 i h0 hi⟩⟩⟩
theorem Ae9.val (xs : List Int) (hn : xs.length < 4611686018427387904) : ∃ v, Ae9.F (xs, ()) = some ((v, ()), ()) /\ (v = true ↔ A2Y xs) := by
 by_cases hz : xs.length = 0
 . exact ⟨true, Ae9.of _ (((Ev.const _).succ fun k => by rw [Ae9.T, Ae9.l2_eq, if_neg (by simp [hz])]).of_eq fun k => rfl), by simp; intro i h1 h2; omega⟩
 obtain ⟨v, hv, hv'⟩ := Ev.allF (L := fun k i => Ae9.l2 k xs (i : Int)) (a := ()) (b := ()) (n := xs.length) (fun i => 0 < i -> xs.getD (i - 1) 0 < xs.getD i 0) true 1 (fun i h0 hi2 => by
   have E := fun k => Ae9.l2_eq k xs (i : Int);have h0 : 0 < i := h0
   . have h1 : i - 1 < xs.length := by omega
     simp only [if_pos (ltI.2 hi2), if_pos (idxI.2 hi2), Int.toNat_natCast, A0v (show i < 4611686018427387904 by omega), A2X h0 (show i < 4611686018427387904 by omega), if_pos (idxI.2 h1)] at E;by_cases h2 : xs.getD (i - 1) 0 < xs.getD i 0
     . exact .inl ⟨fun _ => h2, fun k => by rw [E, if_neg (by simp only [decide_eq_true_eq]; omega)]⟩
     . exact .inr ⟨fun hh => h2 (hh h0), fun k => by rw [E, if_pos (by simp only [decide_eq_true_eq]; omega)]⟩) ((Ev.const _).succ fun k => by rw [Ae9.l2_eq, if_neg (by simp)]) 1 (Nat.le_refl _) (by omega)
 refine ⟨v, Ae9.of _ (hv.of_eq fun k => rfl), hv'.trans ?_⟩;exact ⟨fun ⟨_, h⟩ i h0 hi => h i h0 hi h0, fun h => ⟨rfl, fun i _ hi h0 => h i h0 hi⟩⟩
theorem Ai2.val (xs : List Int) (f : Int × Unit -> Option (Bool × Unit)) (p : Int -> Bool) (hf : ∀ x ∈ xs, f (x, ()) = some (p x, ())) (hn : xs.length < 4611686018427387904) :
   ∃ r : Int, Ai2.F (xs, f, ()) = some ((r, ()), ()) /\ ((r = -1 /\ ∀ x ∈ xs, p x = false) ∨ ∃ j : Nat, j < xs.length /\ r = j /\ p (xs.getD j 0) = true /\ ∀ i, i < j -> p (xs.getD i 0) = false) := by
 obtain ⟨r, hr, hq⟩ := Ev.loop (σ := Unit) (R := (Int × Unit) × Unit) (fun k i _ => Ai2.l2 k xs f xs.length (i : Int)) xs.length (fun i _ => ∀ j, j < i -> p (xs.getD j 0) = false)
   (fun r => ∃ v : Int, r = ((v, ()), ()) /\ ((v = -1 /\ ∀ x ∈ xs, p x = false) ∨ ∃ j : Nat, j < xs.length /\ v = j /\ p (xs.getD j 0) = true /\ ∀ i, i < j -> p (xs.getD i 0) = false))
   (fun i s hi hI => by
     have E := fun k => Ai2.l2_eq k xs f xs.length (i : Int);simp only [if_pos (ltI.2 hi), if_pos (idxI.2 hi), Int.toNat_natCast, hf _ (A0x 0 hi), Option.bind_some, A0v (show i < 4611686018427387904 by omega)] at E;cases hp : p (xs.getD i 0) with
     | true => exact .inl ⟨_, (Ev.const _).succ fun k => by rw [E, if_pos hp], i, rfl, .inr ⟨i, hi, rfl, hp, hI⟩⟩
     | false =>
       refine .inr ⟨(), fun j hj => ?_, Goes.succ fun k => by rw [E, if_neg (by rw [hp]; simp)]⟩;by_cases hji : j = i
       . rw [hji]; exact hp
       . exact hI j (by omega))
   (fun s hI => ⟨_, (Ev.const _).succ fun k => by rw [Ai2.l2_eq, if_neg (by simp)], -1, rfl, .inl ⟨rfl, fun x hx => by
     obtain ⟨j, hj, rfl⟩ := List.getElem_of_mem hx;rw [<- A0q (d := 0) hj]; exact hI j hj⟩⟩) 0 () (Nat.zero_le _) (by intro j hj; omega)
 obtain ⟨v, rfl, hv⟩ := hq;exact ⟨v, Ai2.of _ _ (hr.of_eq fun k => rfl), hv⟩
theorem Ad1.val (xs : List Int) (f : Int × Unit -> Option (Bool × Unit)) (p : Int -> Bool) (hf : ∀ x ∈ xs, f (x, ()) = some (p x, ())) (hn : xs.length < 4611686018427387904) :
   Ad1.F (xs, f, ()) = some ((xs.any p, ()), ()) := by
 obtain ⟨r, hr, h⟩ := Ai2.val xs f p hf hn;rw [Ad1.eq, Ad1.T, hr];simp only [Option.bind_some];rcases h with ⟨rfl, h⟩ | ⟨j, hj, rfl, hp, -⟩
 . have : xs.any p = false := by simp only [List.any_eq_false]; intro x hx; simp [h x hx]
   rw [this]; rfl
 . have : xs.any p = true := List.any_eq_true.2 ⟨_, A0x 0 hj, hp⟩;rw [this]; simp
theorem Aj9.val (xs : List Int) (p : Int) (hn : xs.length < 4611686018427387904) : ∃ v, Aj9.F (xs, p, ()) = some ((v, ()), ()) /\ (v = true ↔ A0N 0 (IntKind.i64.wrap (p - 1)) xs) := by
 rw [Aj9.eq, Aj9.T, Ad1.val xs _ (fun a => !decide (0 ≤ a /\ a ≤ IntKind.i64.wrap (p - 1))) (fun a _ => by
   show (Am4.F (a, p, ())).map (·.1) = _;rw [Am4.eq, Am4.T, Am5.eq, Am5.T, Aa6.val]; rfl) hn]
 refine ⟨_, rfl, ?_⟩;simp only [Bool.not_eq_true', List.any_eq_false, Bool.not_eq_eq_eq_not, Bool.not_true, A0N];simp
def MatOk (m : MatV) : Prop := A1v m.1 /\ (0 ≤ m.2.1 /\ m.2.1 ≤ 32) /\ (0 ≤ m.2.2.1 /\ m.2.2.1 ≤ 32) /\ (m.2.2.2.length : Int) = m.2.1 * m.2.2.1 /\ A0N 0 (m.1 - 1) m.2.2.2
theorem posW {i c j : Nat} (hi : i ≤ 4096) (hc : c ≤ 4096) (hj : j ≤ 4096) : IntKind.i64.wrap (IntKind.i64.wrap ((i : Int) * (c : Int)) + (j : Int)) = ((i * c + j : Nat) : Int) := by
 have h : i * c ≤ 4096 * 4096 := Nat.mul_le_mul hi hc;have e : (i : Int) * (c : Int) = ((i * c : Nat) : Int) := by simp
 rw [e, A0w (x := ((i * c : Nat) : Int)) (by omega) (by omega), A0w (by omega) (by omega)]; omega
theorem mul32 {a b : Int} (ha : 0 ≤ a /\ a ≤ 32) (hb : 0 ≤ b /\ b ≤ 32) : 0 ≤ a * b /\ a * b ≤ 1024 := by
 obtain ⟨a, rfl⟩ := Int.eq_ofNat_of_zero_le ha.1;obtain ⟨b, rfl⟩ := Int.eq_ofNat_of_zero_le hb.1;have : a * b ≤ 32 * 32 := Nat.mul_le_mul (by omega) (by omega);have e : (a : Int) * (b : Int) = ((a * b : Nat) : Int) := by simp
 omega
theorem Ad9.val (xs : List Int) (n p : Int) (hn : xs.length < 4611686018427387904) : ∃ v, Ad9.F (xs, n, p, ()) = some ((v, ()), ()) /\ (v = true ↔ (xs.length : Int) = n /\ A0N 0 (IntKind.i64.wrap (p - 1)) xs) := by
 obtain ⟨v, hv, hv'⟩ := Ev.allP (L := fun k i => Ad9.l2 k xs n p (i : Int)) (a := ()) (b := ()) (n := xs.length) (fun i => 0 ≤ xs.getD i 0 /\ xs.getD i 0 ≤ IntKind.i64.wrap (p - 1)) ((xs.length : Int) == n) (fun i hi => by
   have E := fun k => Ad9.l2_eq k xs n p (i : Int);simp only [if_pos (ltI.2 hi), if_pos (idxI.2 hi), Int.toNat_natCast, Aa4.val, Option.bind_some, A0v (show i < 4611686018427387904 by omega)] at E;by_cases h : 0 ≤ xs.getD i 0 /\ xs.getD i 0 ≤ IntKind.i64.wrap (p - 1)
   . exact .inl ⟨h, fun k => by rw [E, if_neg (by rw [decide_eq_true h]; simp)]⟩
   . exact .inr ⟨h, fun k => by rw [E, if_pos (by rw [decide_eq_false h]; rfl)]⟩) ((Ev.const _).succ fun k => by rw [Ad9.l2_eq, if_neg (by simp)]) 0 (Nat.zero_le _)
 refine ⟨v, Ad9.of _ _ _ (hv.of_eq fun k => rfl), hv'.trans ?_⟩;rw [allIn_iff];simp only [beq_iff_eq];exact ⟨fun ⟨h1, h2⟩ => ⟨h1, fun i hi => h2 i (Nat.zero_le _) hi⟩, fun ⟨h1, h2⟩ => ⟨h1, fun i _ hi => h2 i hi⟩⟩
theorem Al4.val (m : MatV) (hn : m.2.2.2.length < 4611686018427387904) : ∃ v, Al4.F (m, ()) = some ((v, ()), ()) /\ (v = true ↔ MatOk m) := by
 obtain ⟨p, r, c, xs⟩ := m;obtain ⟨v1, h1, h1'⟩ := Af4.val p;rw [Al4.eq, Al4.T, Ag2.eq, Ag2.T, h1];simp only [Option.bind_some, Aa4.val];unfold MatOk;cases v1 with
 | false => exact ⟨false, by rw [if_neg (by simp)], by simp; intro h; exact absurd (h1'.2 h) (by simp)⟩
 | true =>
   have hp := h1'.1 rfl;have hpr := hp.1;by_cases hr : 0 ≤ r /\ r ≤ 32
   . by_cases hc : 0 ≤ c /\ c ≤ 32
     . have hm := mul32 hr hc;obtain ⟨v2, h2, h2'⟩ := Ad9.val xs (IntKind.i64.wrap (r * c)) p hn;rw [A0w (x := r * c) (by omega) (by omega), A0w (x := p - 1) (by omega) (by omega)] at h2';refine ⟨v2, by rw [if_pos rfl, if_pos (by simp only [decide_eq_true_eq]; exact hr), if_pos (by simp only [decide_eq_true_eq]; exact hc), h2]; rfl, h2'.trans ?_⟩;exact ⟨fun h => ⟨hp, hr, hc, h.1, h.2⟩, fun h => ⟨h.2.2.2.1, h.2.2.2.2⟩⟩
     . exact ⟨false, by rw [if_pos rfl, if_pos (by simp only [decide_eq_true_eq]; exact hr), if_neg (by simp only [decide_eq_true_eq]; exact hc)], by simp only [Bool.false_eq_true, false_iff]; exact fun h => hc h.2.2.1⟩
   . exact ⟨false, by rw [if_pos rfl, if_neg (by simp only [decide_eq_true_eq]; exact hr)], by simp only [Bool.false_eq_true, false_iff]; exact fun h => hr h.2.1⟩
theorem Aj7.val (m : MatV) (hn : m.2.2.2.length < 4611686018427387904) : ∃ v, Aj7.F (m, ()) = some ((v, ()), ()) /\ (v = true ↔ MatOk m) := by
 obtain ⟨p, r, c, xs⟩ := m;obtain ⟨v1, h1, h1'⟩ := Ad2.val p;rw [Aj7.eq, Aj7.T, h1, Ak3.eq, Ak3.T, Ak3.eq, Ak3.T, Ab1.eq, Ab1.T];simp only [Option.bind_some, Aa6.val];unfold MatOk;cases v1 with
 | false => exact ⟨false, by rw [if_neg (by simp)], by simp; intro h; exact absurd (h1'.2 h) (by simp)⟩
 | true =>
   have hp := h1'.1 rfl;have hpr := hp.1;by_cases hr : 0 ≤ r /\ r ≤ 32
   . by_cases hc : 0 ≤ c /\ c ≤ 32
     . have hm := mul32 hr hc;obtain ⟨v2, h2, h2'⟩ := Aj9.val xs p hn;rw [A0w (x := p - 1) (by omega) (by omega)] at h2';rw [if_pos rfl, if_pos (by simp only [decide_eq_true_eq]; exact hr), if_pos (by simp only [decide_eq_true_eq]; exact hc), A0w (x := r * c) (by omega) (by omega)];by_cases hl : (xs.length : Int) = r * c
       . exact ⟨v2, by rw [if_pos (by simp only [beq_iff_eq]; exact hl), h2]; rfl, h2'.trans ⟨fun h => ⟨hp, hr, hc, hl, h⟩, fun h => h.2.2.2.2⟩⟩
       . exact ⟨false, by rw [if_neg (by simp only [beq_iff_eq]; exact hl)], by simp only [Bool.false_eq_true, false_iff]; exact fun h => hl h.2.2.2.1⟩
     . exact ⟨false, by rw [if_pos rfl, if_pos (by simp only [decide_eq_true_eq]; exact hr), if_neg (by simp only [decide_eq_true_eq]; exact hc)], by simp only [Bool.false_eq_true, false_iff]; exact fun h => hc h.2.2.1⟩
   . exact ⟨false, by rw [if_pos rfl, if_neg (by simp only [decide_eq_true_eq]; exact hr)], by simp only [Bool.false_eq_true, false_iff]; exact fun h => hr h.2.1⟩
def sumN (f : Nat -> Int) : Nat -> Int
 | 0 => 0
 | n + 1 => sumN f n + f n
theorem sumN_bd {f : Nat -> Int} {n : Nat} {B : Nat} (h : ∀ k, k < n -> 0 ≤ f k /\ f k ≤ (B : Int)) : 0 ≤ sumN f n /\ sumN f n ≤ ((n * B : Nat) : Int) := by
 induction n with
 | zero => simp [sumN]
 | succ n ih =>
   have h1 := ih fun k hk => h k (by omega);have h2 := h n (by omega);rw [Nat.add_mul, Nat.one_mul];simp only [sumN]; omega
theorem A2V {f g : Nat -> Int} {n : Nat} (h : ∀ k, k < n -> f k = g k) : sumN f n = sumN g n := by
 induction n with
 | zero => rfl
 | succ n ih => simp only [sumN]; rw [ih fun k hk => h k (by omega), h n (by omega)]
theorem A1S {p a b : Int} (hp : 2 ≤ p /\ p ≤ 251) (ha : 0 ≤ a /\ a ≤ p - 1) (hb : 0 ≤ b /\ b ≤ p - 1) : 0 ≤ a * b /\ a * b ≤ ((62500 : Nat) : Int) := by
 obtain ⟨a, rfl⟩ := Int.eq_ofNat_of_zero_le ha.1;obtain ⟨b, rfl⟩ := Int.eq_ofNat_of_zero_le hb.1;have : a * b ≤ 250 * 250 := Nat.mul_le_mul (by omega) (by omega);have e : (a : Int) * (b : Int) = ((a * b : Nat) : Int) := by simp
 omega
theorem A2j {a p : Int} (h : 0 ≤ a) : a.tmod p = a % p := Int.tmod_eq_emod_of_nonneg h
theorem A1R {a p : Int} (hp : 2 ≤ p) : 0 ≤ a % p /\ a % p ≤ p - 1 := by
 have h1 := Int.emod_nonneg a (show p ≠ 0 by omega);have h2 := Int.emod_lt_of_pos a (show 0 < p by omega);omega
theorem A0D {lo hi : Int} {xs : List Int} (h : A0N lo hi xs) {i : Nat} (hi' : i < xs.length) : lo ≤ xs.getD i 0 /\ xs.getD i 0 ≤ hi := allIn_iff.1 h i hi'
def dotE (xs ys : List Int) (k : Nat) : Int := xs.getD k 0 * ys.getD k 0
theorem Ah6.val (xs ys : List Int) (p : Int) (hp : 2 ≤ p /\ p ≤ 251) (hx : A0N 0 (p - 1) xs) (hy : A0N 0 (p - 1) ys) (hl : xs.length ≤ ys.length) (hn : xs.length ≤ 1048576) :
   Ah6.F (xs, ys, p, ()) = some ((sumN (dotE xs ys) xs.length % p, ()), ()) := by
 refine Ah6.of _ _ _ ?_;obtain ⟨s, hs, hg⟩ := Goes.loop (R := ((Int × Unit) × Unit)) (fun k i (s : Int) => Ah6.l3 k xs ys p s (xs.length : Int) (i : Int)) xs.length (fun i s => s = sumN (dotE xs ys) i % p) (fun i s hi h2 => ⟨_, rfl, Goes.succ fun k => by
   have hm := A1S hp (A0D hx hi) (A0D hy (show i < ys.length by omega));have hme := A1R (a := sumN (dotE xs ys) i) hp.1;rw [Ah6.l3_eq, if_pos (ltI.2 hi), if_pos (idxI.2 hi), if_pos (idxI.2 (show i < ys.length by omega)), if_neg (by omega), A0v (by omega), h2];simp only [Int.toNat_natCast];rw [A0w (x := xs.getD i 0 * ys.getD i 0) (by omega) (by omega), A0w (by omega) (by omega), A2j (by omega), Int.emod_add_emod];rfl⟩) 0 0 (Nat.zero_le _) (by simp [sumN])
 refine Ev.of_eq (hg _ ((Ev.const _).succ fun k => ?_)) fun k => rfl;rw [Ah6.l3_eq, if_neg (by simp), hs]
theorem Goes.fillSet {R : Type} (L3 : Nat -> Nat -> List Int -> Option R) (L6 : Nat -> Nat -> Nat -> List Int -> Option R) (M N Z : Nat) (g : Nat -> Nat -> Int) (pos : Nat -> Nat -> Nat)
   (hpos : ∀ i j, i < M -> j < N -> pos i j < Z) (inj : ∀ i j i' j', i < M -> j < N -> i' < M -> j' < N -> pos i j = pos i' j' -> i = i' /\ j = j')
   (hin : ∀ i x, i < M -> x.length = Z -> Goes (fun k => L3 k i x) (fun k => L6 k i 0 x))
   (hstep : ∀ i j x, i < M -> j < N -> x.length = Z -> Goes (fun k => L6 k i j x) (fun k => L6 k i (j + 1) (x.set (pos i j) (g i j))))
   (hout : ∀ i x, i < M -> x.length = Z -> Goes (fun k => L6 k i N x) (fun k => L3 k (i + 1) x)) (x0 : List Int) (h0 : x0.length = Z) :
   ∃ y, y.length = Z /\ (∀ i j, i < M -> j < N -> y.getD (pos i j) 0 = g i j) /\ (∀ q, (∀ i j, i < M -> j < N -> pos i j ≠ q) -> y.getD q 0 = x0.getD q 0) /\ Goes (fun k => L3 k 0 x0) (fun k => L3 k M y) := by
 have gs : ∀ (l : List Int) (q : Nat) (v : Int) (s : Nat), q < l.length -> (l.set q v).getD s 0 = if s = q then v else l.getD s 0 := fun l q v s hq => by
   simp only [List.getD_eq_getElem?_getD, List.getElem?_set];by_cases hqs : q = s
   . subst hqs; simp [hq]
   . simp [hqs, Ne.symm hqs]
 obtain ⟨y, ⟨h1, h2, h3⟩, hg⟩ := Goes.loop (R := R) (fun k i x => L3 k i x) M (fun i x => x.length = Z /\ (∀ a b, a < i -> b < N -> x.getD (pos a b) 0 = g a b) /\ ∀ q, (∀ a b, a < M -> b < N -> pos a b ≠ q) -> x.getD q 0 = x0.getD q 0) (fun i x hi ⟨h1, h2, h3⟩ => by
   obtain ⟨x', ⟨h4, h5, h6, h7⟩, hg2⟩ := Goes.loop (R := R) (fun k j x => L6 k i j x) N (fun j x => x.length = Z /\ (∀ a b, a < i -> b < N -> x.getD (pos a b) 0 = g a b) /\ (∀ b, b < j -> x.getD (pos i b) 0 = g i b) /\ ∀ q, (∀ a b, a < M -> b < N -> pos a b ≠ q) -> x.getD q 0 = x0.getD q 0) (fun j x hj ⟨k1, k2, k3, k4⟩ => by
     have hp := hpos i j hi hj;refine ⟨_, ⟨by simp [k1], fun a b ha hb => ?_, fun b hb => ?_, fun q hq => ?_⟩, hstep i j x hi hj k1⟩
     . rw [gs _ _ _ _ (by omega), if_neg (fun he => by have := (inj _ _ _ _ (by omega) hb hi hj he).1; omega)]; exact k2 a b ha hb
     . rw [gs _ _ _ _ (by omega)];by_cases hbj : b = j
       . rw [if_pos (by rw [hbj]), hbj]
       . rw [if_neg (fun he => hbj (inj _ _ _ _ hi (by omega) hi hj he).2)]; exact k3 b (by omega)
     . rw [gs _ _ _ _ (by omega), if_neg (fun he => hq i j hi hj he.symm)]; exact k4 q hq) 0 x (Nat.zero_le _) ⟨h1, h2, fun b hb => by omega, h3⟩
   refine ⟨x', ⟨h4, fun a b ha hb => ?_, h7⟩, ((hin i x hi h1).trans hg2).trans (hout i x' hi h4)⟩;by_cases hai : a = i
   . rw [hai]; exact h6 b hb
   . exact h5 a b (by omega) hb) 0 x0 (Nat.zero_le _) ⟨h0, fun a b ha => by omega, fun _ _ => rfl⟩
 exact ⟨y, h1, h2, h3, hg⟩
theorem rowInj {C : Nat} (a b a' b' : Nat) (hb : b < C) (hb' : b' < C) (he : a * C + b = a' * C + b') : a = a' /\ b = b' := by
 have h1 : (a * C + b) / C = a := by rw [Nat.mul_comm, Nat.mul_add_div (by omega), Nat.div_eq_of_lt hb]; omega
 have h2 : (a' * C + b') / C = a' := by rw [Nat.mul_comm, Nat.mul_add_div (by omega), Nat.div_eq_of_lt hb']; omega
 have h3 : a = a' := by rw [<- h1, <- h2, he]
 subst h3;exact ⟨rfl, by omega⟩
theorem rowLt {R C i j : Nat} (hi : i < R) (hj : j < C) : i * C + j < R * C := by
 have h2 := Nat.mul_le_mul_right C (show i + 1 ≤ R by omega);rw [Nat.add_mul, Nat.one_mul] at h2;omega
theorem Goes.push {A R : Type} (L : Nat -> Nat -> List A -> Option R) (n : Nat) (f : Nat -> A) (hstep : ∀ i s, i < n -> s.length = i -> Goes (fun k => L k i s) (fun k => L k (i + 1) (s ++ [f i]))) : Goes (fun k => L k 0 []) (fun k => L k n ((List.range n).map f)) := by
 obtain ⟨s, hs, hg⟩ := Goes.loop (R := R) L n (fun i s => s = (List.range i).map f) (fun i s hi h2 => ⟨s ++ [f i], by rw [h2, List.range_succ, List.map_append]; rfl, hstep i s hi (by rw [h2]; simp)⟩) 0 [] (Nat.zero_le _) rfl;rw [<- hs]; exact hg
theorem push_ok {A : Type} {s : List A} {x : A} {i : Nat} (h : s.length = i) (hi : i < 1048576) : s.length + [x].length ≤ bigA := by simp only [List.length_cons, List.length_nil, bigA]; omega
theorem A0Z {A : Type} (f : Nat -> A) {n i : Nat} (d : A) (h : i < n) : ((List.range n).map f).getD i d = f i := by simp [List.getD_eq_getElem?_getD, h]
def addL (p c : Int) (xs ys : List Int) : List Int := (List.range xs.length).map fun i => (xs.getD i 0 + c * ys.getD i 0) % p
theorem A0r (p c : Int) (xs ys : List Int) : (addL p c xs ys).length = xs.length := by simp [addL]
theorem A2A {p c : Int} (h : 2 ≤ p) (xs ys : List Int) : A0N 0 (p - 1) (addL p c xs ys) := fun x hx => by
 simp only [addL, List.mem_map] at hx;obtain ⟨i, _, rfl⟩ := hx;exact A1R h
theorem A2t {p c a b : Int} (hp : 2 ≤ p /\ p ≤ 251) (hc : 0 ≤ c /\ c ≤ p - 1) (ha : 0 ≤ a /\ a ≤ p - 1) (hb : 0 ≤ b /\ b ≤ p - 1) : (IntKind.i64.wrap (a + IntKind.i64.wrap (c * b))).tmod p = (a + c * b) % p := by
 have := A1S hp hc hb;rw [A0w (x := c * b) (by omega) (by omega), A0w (by omega) (by omega), A2j (by omega)]
theorem Ae7.val (xs ys : List Int) (c p : Int) (hp : 2 ≤ p /\ p ≤ 251) (hc : 0 ≤ c /\ c ≤ p - 1) (hx : A0N 0 (p - 1) xs) (hy : A0N 0 (p - 1) ys) (hl : ys.length = xs.length) (hn : xs.length < 1048576) : Ae7.F (xs, ys, c, p, ()) = some ((addL p c xs ys, ()), ()) := by
 refine Ae7.of _ _ _ _ ?_;have g := Goes.push (R := ((List Int × Unit) × Unit)) (fun k i s => Ae7.l3 k xs ys c p (xs.length : Int) (i : Int) s) xs.length (fun i => (xs.getD i 0 + c * ys.getD i 0) % p) (fun i s hi hs => Goes.succ fun k => by
   rw [Ae7.l3_eq, if_pos (ltI.2 hi), if_pos (idxI.2 hi), if_pos (idxI.2 (by omega)), if_neg (by omega)];simp only [Int.toNat_natCast, A2t hp hc (A0D hx hi) (A0D hy (i := i) (by omega))];rw [if_pos (push_ok hs (by omega)), A0v (by omega)])
 refine Ev.of_eq (g _ ((Ev.const _).succ fun k => ?_)) fun k => rfl;rw [Ae7.l3_eq, if_neg (by simp)]; rfl
theorem A2M (a b p : Int) : (a % p * b) % p = (a * b) % p := by rw [Int.mul_emod, Int.emod_emod, <- Int.mul_emod]
theorem A1g (a p : Int) : ∀ n : Nat, (a % p) ^ n % p = a ^ n % p
 | 0 => by rw [Int.pow_zero, Int.pow_zero]
 | n + 1 => by rw [Int.pow_succ, Int.pow_succ, Int.mul_emod, A1g a p n, Int.emod_emod, <- Int.mul_emod]
theorem A1m {p a b : Int} (hp : 2 ≤ p /\ p ≤ 251) (ha : 0 ≤ a /\ a ≤ p - 1) (hb : 0 ≤ b /\ b ≤ p - 1) : (IntKind.i64.wrap (a * b)).tmod p = (a * b) % p := by
 have := A1S hp ha hb;rw [A0w (x := a * b) (by omega) (by omega), A2j (by omega)]
theorem Ae1.val (a p : Int) (hp : 2 ≤ p /\ p ≤ 251) (ha : 0 ≤ a /\ a ≤ p - 1) : Ae1.F (a, p, ()) = some ((a ^ (p - 2).toNat % p, ()), ()) := by
 obtain ⟨n, hn⟩ : ∃ n : Nat, p - 2 = n := ⟨(p - 2).toNat, by omega⟩;have hw : IntKind.i64.wrap (p - 2) = (n : Int) := by rw [A0w (by omega) (by omega), hn]
 have hnn : (p - 2).toNat = n := by omega
 rw [hnn];refine Ae1.of _ _ ?_;obtain ⟨s, hs, hg⟩ := Goes.loop (R := ((Int × Unit) × Unit)) (fun k j (s : Int) => Ae1.l3 k a p s ((n - j : Nat) : Int)) n (fun j s => s = a ^ j % p) (fun j s hj h2 => ⟨_, rfl, Goes.succ fun k => by
   have hs : 0 ≤ s /\ s ≤ p - 1 := by rw [h2]; exact A1R hp.1
   have hw2 : IntKind.i64.wrap (((n - j : Nat) : Int) - 1) = ((n - (j + 1) : Nat) : Int) := by rw [A0w (by omega) (by omega)]; omega
   rw [Ae1.l3_eq, if_pos (by simp; omega), if_neg (by omega), A1m hp hs ha, hw2, h2, A2M, <- Int.pow_succ]⟩) 0 1 (Nat.zero_le _) (by
     show (1 : Int) = a ^ 0 % p;rw [Int.pow_zero, Int.emod_eq_of_lt (by omega) (by omega)])
 refine Ev.of_eq (hg _ ((Ev.const _).succ fun k => ?_)) fun k => ?_
 . rw [Ae1.l3_eq, if_neg (by simp), hs]
 . rw [Ae1.T, hw]; rfl
theorem Af9.loop (p : Int) (hp : 2 ≤ p /\ p ≤ 251) : ∀ (m n : Nat) (a r : Int), n ≤ m -> n ≤ 1000 -> 0 ≤ a /\ a ≤ p - 1 -> 0 ≤ r /\ r ≤ p - 1 -> Ev (fun k => Af9.l2 k a (n : Int) p r) ((r * a ^ n % p, ()), ()) := by
 intro m;induction m with
 | zero =>
   intro n a r hn _ ha hr;obtain rfl : n = 0 := by omega
   refine (Ev.const _).succ fun k => ?_;rw [Af9.l2_eq, if_neg (by simp), Int.pow_zero, Int.mul_one, Int.emod_eq_of_lt (by omega) (by omega)]
 | succ m ih =>
   intro n a r hn hn2 ha hr;rcases Nat.eq_zero_or_pos n with rfl | hpos
   . refine (Ev.const _).succ fun k => ?_;rw [Af9.l2_eq, if_neg (by simp), Int.pow_zero, Int.mul_one, Int.emod_eq_of_lt (by omega) (by omega)]
   . have hdiv : IntKind.i64.wrap ((n : Int).tdiv 2) = ((n / 2 : Nat) : Int) := by
       have : (n : Int).tdiv 2 = ((n / 2 : Nat) : Int) := rfl;rw [this, A0w (by omega) (by omega)]
     have hmod : (n : Int).tmod 2 = ((n % 2 : Nat) : Int) := rfl;have hsq := A1R (a := a * a) hp.1;by_cases ho : n % 2 = 1
     . have hra := A1R (a := r * a) hp.1;have := ih (n / 2) (a * a % p) (r * a % p) (by omega) (by omega) hsq hra;have e : r * a % p * (a * a % p) ^ (n / 2) % p = r * a ^ n % p := by
         rw [A2M, Int.mul_emod, A1g, <- Int.mul_emod, Int.mul_assoc];congr 2;have hn3 : n = 2 * (n / 2) + 1 := by omega
         conv => rhs; rw [hn3, Int.pow_succ, Int.pow_mul]
         rw [show a ^ 2 = a * a from by rw [Int.pow_succ, Int.pow_succ, Int.pow_zero, Int.one_mul], Int.mul_comm]
       rw [e] at this;refine this.succ fun k => ?_;rw [Af9.l2_eq, if_pos (by simp; omega), if_neg (by decide), hmod, ho, if_pos (by decide), if_neg (by omega), if_neg (by omega), if_neg (by decide), A1m hp ha ha, A1m hp hr ha, hdiv]
     . have := ih (n / 2) (a * a % p) r (by omega) (by omega) hsq hr;have e : r * (a * a % p) ^ (n / 2) % p = r * a ^ n % p := by
         rw [Int.mul_emod, A1g, <- Int.mul_emod];congr 2;have hn3 : n = 2 * (n / 2) := by omega
         conv => rhs; rw [hn3, Int.pow_mul]
         rw [show a ^ 2 = a * a from by rw [Int.pow_succ, Int.pow_succ, Int.pow_zero, Int.one_mul]]
       rw [e] at this;refine this.succ fun k => ?_;have h0 : n % 2 = 0 := by omega
       rw [Af9.l2_eq, if_pos (by simp; omega), if_neg (by decide), hmod, h0, if_neg (by decide), if_neg (by omega), if_neg (by decide), A1m hp ha ha, hdiv]
theorem Ah7.val (a p : Int) (hp : 2 ≤ p /\ p ≤ 251) (ha : 0 ≤ a /\ a ≤ p - 1) : Ah7.F (a, p, ()) = some ((a ^ (p - 2).toNat % p, ()), ()) := by
 obtain ⟨n, hn⟩ : ∃ n : Nat, p - 2 = n := ⟨(p - 2).toNat, by omega⟩;have hw : IntKind.i64.wrap (p - 2) = (n : Int) := by rw [A0w (by omega) (by omega), hn]
 have hnn : (p - 2).toNat = n := by omega
 have h1 := Af9.loop p hp n n a 1 (Nat.le_refl _) (by omega) ha (by omega);rw [Int.one_mul] at h1;have h2 : Af9.F (a, (n : Int), p, ()) = _ := Af9.of _ _ _ (h1.of_eq fun k => rfl);rw [Ah7.eq, Ah7.T, hw, h2, hnn]; rfl
theorem Ac2.val (xs : List Int) (h : xs.length ≤ 1048576) : Ac2.F (xs, ()) = some ((xs, ()), ()) := by
 rw [Ac2.eq, Ac2.T, if_pos (by simp only [List.length_nil, bigA]; omega)]; rfl
theorem Ad8.val (xs : List (List Int)) (f : List Int × Unit -> Option (Bool × Unit)) (p : List Int -> Bool) (hf : ∀ x ∈ xs, f (x, ()) = some (p x, ())) (hn : xs.length < 4611686018427387904) :
   ∃ r : Int, Ad8.F (xs, f, ()) = some ((r, ()), ()) /\ ((r = -1 /\ ∀ x ∈ xs, p x = false) ∨ ∃ j : Nat, j < xs.length /\ r = j /\ p (xs.getD j []) = true /\ ∀ i, i < j -> p (xs.getD i []) = false) := by
 obtain ⟨r, hr, hq⟩ := Ev.loop (σ := Unit) (R := (Int × Unit) × Unit) (fun k i _ => Ad8.l2 k xs f xs.length (i : Int)) xs.length (fun i _ => ∀ j, j < i -> p (xs.getD j []) = false)
   (fun r => ∃ v : Int, r = ((v, ()), ()) /\ ((v = -1 /\ ∀ x ∈ xs, p x = false) ∨ ∃ j : Nat, j < xs.length /\ v = j /\ p (xs.getD j []) = true /\ ∀ i, i < j -> p (xs.getD i []) = false))
   (fun i s hi hI => by
     have E := fun k => Ad8.l2_eq k xs f xs.length (i : Int);simp only [if_pos (ltI.2 hi), if_pos (idxI.2 hi), Int.toNat_natCast, hf _ (A0x [] hi), Option.bind_some, A0v (show i < 4611686018427387904 by omega)] at E;cases hp : p (xs.getD i []) with
     | true => exact .inl ⟨_, (Ev.const _).succ fun k => by rw [E, if_pos hp], i, rfl, .inr ⟨i, hi, rfl, hp, hI⟩⟩
     | false =>
       refine .inr ⟨(), fun j hj => ?_, Goes.succ fun k => by rw [E, if_neg (by rw [hp]; simp)]⟩;by_cases hji : j = i
       . rw [hji]; exact hp
       . exact hI j (by omega))
   (fun s hI => ⟨_, (Ev.const _).succ fun k => by rw [Ad8.l2_eq, if_neg (by simp)], -1, rfl, .inl ⟨rfl, fun x hx => by
     obtain ⟨j, hj, rfl⟩ := List.getElem_of_mem hx;rw [<- A0q (d := []) hj]; exact hI j hj⟩⟩) 0 () (Nat.zero_le _) (by intro j hj; omega)
 obtain ⟨v, rfl, hv⟩ := hq;exact ⟨v, Ad8.of _ _ (hr.of_eq fun k => rfl), hv⟩
theorem Ai9.val (xs : List (List Int)) (f : List Int × Unit -> Option (Bool × Unit)) (p : List Int -> Bool) (hf : ∀ x ∈ xs, f (x, ()) = some (p x, ())) (hn : xs.length < 4611686018427387904) :
   Ai9.F (xs, f, ()) = some ((xs.any p, ()), ()) := by
 obtain ⟨r, hr, h⟩ := Ad8.val xs f p hf hn;rw [Ai9.eq, Ai9.T, hr];simp only [Option.bind_some];rcases h with ⟨rfl, h⟩ | ⟨j, hj, rfl, hp, -⟩
 . have : xs.any p = false := by simp only [List.any_eq_false]; intro x hx; simp [h x hx]
   rw [this]; rfl
 . have : xs.any p = true := List.any_eq_true.2 ⟨_, A0x [] hj, hp⟩;rw [this]; simp
structure RowsOk (p : Int) (h w : Nat) (R : List (List Int)) : Prop where
 len : R.length = h
 row : ∀ r ∈ R, r.length = w /\ A0N 0 (p - 1) r
theorem RowsOk.at {p : Int} {h w : Nat} {R : List (List Int)} (o : RowsOk p h w R) {i : Nat} (hi : i < h) : (R.getD i []).length = w /\ A0N 0 (p - 1) (R.getD i []) := o.row _ (A0x [] (by rw [o.len]; exact hi))
theorem RowsOk.set {p : Int} {h w : Nat} {R : List (List Int)} (o : RowsOk p h w R) {r : List Int} (hr : r.length = w /\ A0N 0 (p - 1) r) (i : Nat) : RowsOk p h w (R.set i r) :=
 ⟨by rw [List.length_set]; exact o.len, fun x hx => (List.mem_or_eq_of_mem_set hx).elim (o.row x) fun e => e ▸ hr⟩
theorem A1d : ∀ {R : List (List Int)} {w i j : Nat}, (∀ r ∈ R, r.length = w) -> i < R.length -> j < w -> R.flatten.getD (i * w + j) 0 = (R.getD i []).getD j 0
 | [], _, _, _, _, h, _ => absurd h (by simp)
 | r :: R, w, i, j, hr, hi, hj => by
   have h1 := hr r (by simp);simp only [List.flatten_cons, List.getD_eq_getElem?_getD];cases i with
   | zero => rw [List.getElem?_append_left (by omega)]; simp
   | succ i =>
     have e : (i + 1) * w = w + i * w := by rw [Nat.add_mul, Nat.one_mul, Nat.add_comm]
     have := A1d (R := R) (w := w) (i := i) (j := j) (fun r hr' => hr r (by simp [hr'])) (by simpa using hi) hj;simp only [List.getD_eq_getElem?_getD] at this;rw [e, List.getElem?_append_right (by omega), h1, show w + i * w + j - w = i * w + j by omega, this]; simp
theorem A2K : ∀ {R : List (List Int)} {w i j : Nat} (v : Int), (∀ r ∈ R, r.length = w) -> i < R.length -> j < w -> R.flatten.set (i * w + j) v = (R.set i ((R.getD i []).set j v)).flatten
 | [], _, _, _, _, _, h, _ => absurd h (by simp)
 | r :: R, w, i, j, v, hr, hi, hj => by
   have h1 := hr r (by simp);cases i with
   | zero => simp only [List.flatten_cons, Nat.zero_mul, Nat.zero_add]; rw [List.set_append_left _ _ (by omega)]; simp
   | succ i =>
     have e : (i + 1) * w = w + i * w := by rw [Nat.add_mul, Nat.one_mul, Nat.add_comm]
     have := A2K (R := R) (w := w) (i := i) (j := j) v (fun r hr' => hr r (by simp [hr'])) (by simpa using hi) hj;simp only [List.flatten_cons, List.set_cons_succ];rw [e, List.set_append_right _ _ (by omega), h1, show w + i * w + j - w = i * w + j by omega, this]; simp
theorem A2J : ∀ {R : List (List Int)} {w : Nat}, (∀ r ∈ R, r.length = w) -> R.flatten.length = R.length * w
 | [], _, _ => by simp
 | r :: R, w, hr => by
   have := A2J (R := R) (w := w) fun r hr' => hr r (by simp [hr']);simp only [List.flatten_cons, List.length_append, List.length_cons, hr r (by simp), this];rw [Nat.add_mul, Nat.one_mul, Nat.add_comm]
theorem A0a {h w i j : Nat} (hh : h ≤ 4096) (hw : w ≤ 256) (hi : i < h) (hj : j < w) : IntKind.i64.wrap (IntKind.i64.wrap ((i : Int) * (w : Int)) + (j : Int)) = ((i * w + j : Nat) : Int) /\ i * w + j < h * w := by
 have h1 : (i + 1) * w ≤ h * w := Nat.mul_le_mul_right w hi;have h2 : h * w ≤ 4096 * 256 := Nat.mul_le_mul hh hw;have e : (i + 1) * w = i * w + w := by rw [Nat.add_mul, Nat.one_mul]
 have e2 : (i : Int) * (w : Int) = ((i * w : Nat) : Int) := by simp
 rw [e2, A0w (x := ((i * w : Nat) : Int)) (by omega) (by omega), A0w (by omega) (by omega)];omega
def inv_ (p a : Int) : Int := a ^ (p - 2).toNat % p
def A0W (R : List (List Int)) (t a : Nat) : List (List Int) := (R.set t (R.getD a [])).set a (R.getD t [])
def A2y (p : Int) (w t c : Nat) (R : List (List Int)) : List (List Int) := R.set t (addL p (inv_ p ((R.getD t []).getD c 0)) (List.replicate w 0) (R.getD t []))
def A0P (p : Int) (t c : Nat) (R : List (List Int)) (i : Nat) : List Int := if i = t ∨ (R.getD i []).getD c 0 = 0 then R.getD i [] else addL p (p - (R.getD i []).getD c 0) (R.getD i []) (R.getD t [])
def A1G (p : Int) (t c : Nat) (R : List (List Int)) : List (List Int) := (List.range R.length).map (A0P p t c R)
def pivA (R : List (List Int)) (t c : Nat) : Nat := t + (R.drop t).findIdx fun r => r.getD c 0 != 0
def A0F (p : Int) (w c : Nat) (s : List (List Int) × List Int) : List (List Int) × List Int :=
 if pivA s.1 s.2.length c < s.1.length then (A1G p s.2.length c (A2y p w s.2.length c (A0W s.1 s.2.length (pivA s.1 s.2.length c))), s.2 ++ [(c : Int)]) else s
theorem A3w {p : Int} (hp : 2 ≤ p) (a : Int) : 0 ≤ inv_ p a /\ inv_ p a ≤ p - 1 := by
 have h1 := Int.emod_nonneg (a ^ (p - 2).toNat) (show p ≠ 0 by omega);have h2 := Int.emod_lt_of_pos (a ^ (p - 2).toNat) (show 0 < p by omega);unfold inv_; omega
theorem A2F {p : Int} {h w : Nat} {R : List (List Int)} (o : RowsOk p h w R) {t a : Nat} (ht : t < h) (ha : a < h) : RowsOk p h w (A0W R t a) := (o.set (o.at ha) t).set (o.at ht) a
theorem A2v {R : List (List Int)} {t : Nat} (ht : t < R.length) : A0W R t t = R := by
 have e : R.set t (R.getD t []) = R := by rw [A0q ht]; exact List.set_getElem_self ht
 rw [A0W, e, e]
theorem A1h {p : Int} {h w : Nat} {R : List (List Int)} (hp : 2 ≤ p) (o : RowsOk p h w R) (t c : Nat) : RowsOk p h w (A2y p w t c R) := o.set ⟨by rw [A0r, List.length_replicate], A2A hp _ _⟩ t
theorem elim_ok {p : Int} {h w : Nat} {R : List (List Int)} (hp : 2 ≤ p) (o : RowsOk p h w R) (t c : Nat) : RowsOk p h w (A1G p t c R) := by
 refine ⟨by simp [A1G, o.len], fun r hr => ?_⟩;unfold A1G at hr;obtain ⟨i, hi, rfl⟩ := List.mem_map.1 hr;have hi := List.mem_range.1 hi;have := o.at (i := i) (by rw [<- o.len]; exact hi);unfold A0P;split
 . exact this
 . exact ⟨by rw [A0r]; exact this.1, A2A hp _ _⟩
theorem step_ok {p : Int} {h w c : Nat} {s : List (List Int) × List Int} (hp : 2 ≤ p) (o : RowsOk p h w s.1) (hl : s.2.length ≤ h) : RowsOk p h w (A0F p w c s).1 /\ (A0F p w c s).2.length ≤ h := by
 unfold A0F;split
 . rename_i hlt;rw [o.len] at hlt;have ht : s.2.length < h := Nat.lt_of_le_of_lt (Nat.le_add_right _ _) hlt;exact ⟨elim_ok hp (A1h hp (A2F o ht hlt) _ _) _ _, by rw [List.length_append, List.length_cons, List.length_nil]; omega⟩
 . exact ⟨o, hl⟩
theorem A2p {p : Int} {w c : Nat} {s : List (List Int) × List Int} (h : s.1.length ≤ s.2.length) : A0F p w c s = s := if_neg (by unfold pivA; omega)
theorem A1t (R : List (List Int)) (t c : Nat) (ht : t ≤ R.length) : t ≤ pivA R t c /\ pivA R t c ≤ R.length /\ (∀ i, t ≤ i -> i < pivA R t c -> (R.getD i []).getD c 0 = 0) /\ (pivA R t c < R.length -> (R.getD (pivA R t c) []).getD c 0 ≠ 0) := by
 unfold pivA;generalize hj : (R.drop t).findIdx (fun r => r.getD c 0 != 0) = j;have hle : j ≤ (R.drop t).length := by rw [<- hj]; exact List.findIdx_le_length
 rw [List.length_drop] at hle;have hd : ∀ i, t + i < R.length -> (R.drop t).getD i [] = R.getD (t + i) [] := fun i hi => by simp [List.getD_eq_getElem?_getD]
 refine ⟨Nat.le_add_right _ _, by omega, fun i h1 h2 => ?_, fun h => ?_⟩
 . have hlt : i - t < (R.drop t).findIdx (fun r => r.getD c 0 != 0) := by omega
   have := List.not_of_lt_findIdx hlt;have e := hd (i - t) (by omega);rw [show t + (i - t) = i by omega, A0q (by rw [List.length_drop]; omega)] at e;rw [e] at this;simpa using this
 . have hlt : j < (R.drop t).length := by rw [List.length_drop]; omega
   have h3 := List.findIdx_getElem (w := by rw [hj]; exact hlt) (p := fun r : List Int => r.getD c 0 != 0) (xs := R.drop t);have e := hd j h;rw [A0q hlt] at e;simp only [hj, e] at h3;simpa using h3
def mix {A : Type} (n : Nat) (f g : Nat -> A) (i : Nat) : List A := (List.range n).map fun q => if q < i then f q else g q
theorem A2D {A : Type} (n : Nat) (f g : Nat -> A) (i : Nat) : (mix n f g i).length = n := by simp [mix]
theorem A0n {A : Type} (n : Nat) (f g : Nat -> A) : mix n f g 0 = (List.range n).map g := List.map_congr_left fun q _ => if_neg (by omega)
theorem A1k {A : Type} (n : Nat) (f g : Nat -> A) : mix n f g n = (List.range n).map f := List.map_congr_left fun q hq => if_pos (List.mem_range.1 hq)
theorem A0g {A : Type} {n : Nat} (f g : Nat -> A) (i : Nat) {q : Nat} (d : A) (hq : q < n) : (mix n f g i).getD q d = if q < i then f q else g q := A0Z _ d hq
theorem A1A {A : Type} {n : Nat} (f g : Nat -> A) {i : Nat} (hi : i < n) : (mix n f g i).set i (f i) = mix n f g (i + 1) := by
 refine List.ext_getElem (by simp [mix]) fun q h1 h2 => ?_;rw [List.getElem_set];simp only [mix, List.getElem_map, List.getElem_range];by_cases e : i = q
 . subst e; rw [if_pos rfl, if_pos (by omega)]
 . rw [if_neg e];by_cases l : q < i
   . rw [if_pos l, if_pos (by omega)]
   . rw [if_neg l, if_neg (by omega)]
theorem A1K {A : Type} (n : Nat) {f g : Nat -> A} {i : Nat} (h : f i = g i) : mix n f g (i + 1) = mix n f g i := List.map_congr_left fun q _ => by
 by_cases e : q = i
 . subst e; rw [if_pos (by omega), if_neg (by omega), h]
 . by_cases l : q < i
   . rw [if_pos (by omega), if_pos l]
   . rw [if_neg (by omega), if_neg l]
theorem A1X (R : List (List Int)) : (List.range R.length).map (fun q => R.getD q []) = R := by
 refine List.ext_getElem (by simp) fun q h1 h2 => ?_;simp only [List.getElem_map, List.getElem_range]; exact A0q h2
theorem A2E (r : List Int) : (List.range r.length).map (fun q => r.getD q 0) = r := by
 refine List.ext_getElem (by simp) fun q h1 h2 => ?_;simp only [List.getElem_map, List.getElem_range]; exact A0q h2
theorem A0i (p : Int) (t c : Nat) (R : List (List Int)) : A0P p t c R t = R.getD t [] := if_pos (.inl rfl)
theorem A2f {p : Int} {h w : Nat} (hp : 2 ≤ p /\ p ≤ 251) (hh : h ≤ 4096) (hw : w ≤ 256) {R : List (List Int)} (o : RowsOk p h w R) {t c : Nat} (ht : t < h) (hc : c < w) (det : Int) (piv : List Int) :
   Goes (fun k => Ab9.l17 k (w : Int) p det (t : Int) (w : Int) (c : Int) (h : Int) 0 R piv (c : Int)) (fun k => Ab9.l17 k (w : Int) p det (t : Int) (w : Int) (c : Int) (h : Int) (h : Int) (A1G p t c R) piv (c : Int)) := by
 have hlen := o.len;obtain ⟨s, hs, hg⟩ := Goes.loop (R := (List Int × Int × Unit) × (List (List Int) × Unit)) (fun k i (s : List (List Int)) => Ab9.l17 k (w : Int) p det (t : Int) (w : Int) (c : Int) (h : Int) (i : Int) s piv (c : Int)) h (fun i s => s = mix h (A0P p t c R) (fun q => R.getD q []) i) (fun i s hi h2 => ⟨_, rfl, Goes.succ fun k => by
   have ri := o.at hi;have rt := o.at ht;have g1 : s.getD i [] = R.getD i [] := by rw [h2, A0g _ _ _ _ hi, if_neg (by omega)]
   have g2 : s.getD t [] = R.getD t [] := by
     rw [h2, A0g _ _ _ _ ht];split
     . exact A0i p t c R
     . rfl
   have hsl : s.length = h := by rw [h2, A2D]
   have hx := A0D ri.2 (i := c) (by omega);rw [Ab9.l17_eq, if_pos (ltI.2 hi), if_pos (idxI.2 (by omega))];simp only [Int.toNat_natCast, g1, g2];by_cases e : i = t
   . subst e;rw [if_neg (by simp), A0v (by omega), h2, A1K h (A0i p i c R)]
   . rw [if_pos (by simp; omega), if_pos (idxI.2 (by omega))];by_cases z : (R.getD i []).getD c 0 = 0
     . rw [if_neg (by rw [z]; decide), A0v (by omega), h2, A1K h (show A0P p t c R i = R.getD i [] from if_pos (.inr z))]
     . rw [if_pos (by rw [bne_iff_ne]; exact z), if_pos (idxI.2 (by omega)), if_pos (idxI.2 (by omega)), A0w (by omega) (by omega), Ae7.val _ _ _ _ hp (by omega) ri.2 rt.2 (by omega) (by omega)];simp only [Option.bind_some];have e2 : A0P p t c R i = addL p (p - (R.getD i []).getD c 0) (R.getD i []) (R.getD t []) := if_neg (by rintro (h | h) <;> contradiction);rw [if_pos (idxI.2 (by omega)), A0v (by omega), <- e2, h2, A1A (A0P p t c R) (fun q => R.getD q []) hi]⟩) 0 R (Nat.zero_le _) (by rw [A0n, <- hlen, A1X])
 rw [hs, A1k] at hg;have e : A1G p t c R = (List.range h).map (A0P p t c R) := by rw [A1G, hlen]
 rw [e]; exact hg
theorem A2g {p : Int} {h w : Nat} (hp : 2 ≤ p /\ p ≤ 251) (hh : h ≤ 4096) (hw : w ≤ 256) {R : List (List Int)} (o : RowsOk p h w R) {c : Nat} (hc : c < w) (det : Int) (piv : List Int) (hl : piv.length ≤ h) :
   ∃ det', Goes (fun k => Ab9.l4 k (w : Int) p det (w : Int) (c : Int) R piv) (fun k => Ab9.l4 k (w : Int) p det' (w : Int) ((c + 1 : Nat) : Int) (A0F p w c (R, piv)).1 (A0F p w c (R, piv)).2) := by
 have hlen := o.len;have hcut : cutL R (piv.length : Int) (R.length : Int) = R.drop piv.length := by simp only [cutL, Int.toNat_natCast, List.take_length]
 obtain ⟨r, hr, hr'⟩ := Ad8.val (R.drop piv.length) (Am0.cloG ((c : Int), ())) (fun r => r.getD c 0 != 0) (fun x hx => by
   have := (o.row x (List.mem_of_mem_drop hx)).1;show (Am0.F (x, (c : Int), ())).map (·.1) = _;rw [Am0.eq, Am0.T, if_pos (idxI.2 (by omega))];simp only [Int.toNat_natCast]; rfl) (by rw [List.length_drop]; omega)
 have hstart : ∀ k, Ab9.l4 (k + 1) (w : Int) p det (w : Int) (c : Int) R piv = _ := fun k => by
   rw [Ab9.l4_eq, if_pos (ltI.2 hc), if_pos (by omega), hcut, hr]
 rcases hr' with ⟨e, hall⟩ | ⟨j, hj, e, hj1, hj2⟩
 . refine ⟨0, Goes.succ fun k => ?_⟩;have hno : ¬ pivA R piv.length c < R.length := by
     unfold pivA;have : (R.drop piv.length).findIdx (fun r => r.getD c 0 != 0) = (R.drop piv.length).length := List.findIdx_eq_length.2 fun x hx => hall x hx;rw [this, List.length_drop]; omega
   have hs : A0F p w c (R, piv) = (R, piv) := if_neg hno;rw [hstart];simp only [Option.bind_some, e];rw [if_pos (by decide), A0v (by omega), hs]
 . rw [List.length_drop] at hj;have hjj : (R.drop piv.length).findIdx (fun r => r.getD c 0 != 0) = j := by
     have hlt : j < (R.drop piv.length).length := by rw [List.length_drop]; omega
     refine (List.findIdx_eq hlt).2 ⟨by rw [<- A0q (d := []) hlt]; exact hj1, fun i hi => ?_⟩;have := hj2 i hi;rw [A0q (xs := R.drop piv.length) (i := i) (d := []) (by omega)] at this;exact this
   have hpa : pivA R piv.length c = piv.length + j := by rw [pivA, hjj]
   have ht : piv.length < h := by omega
   have ha : piv.length + j < h := by omega
   have o2 := A2F o ht ha;have hl2 := o2.len;have r2 := o2.at ht;have hs : A0F p w c (R, piv) = (A1G p piv.length c (A2y p w piv.length c (A0W R piv.length (piv.length + j))), piv ++ [(c : Int)]) := by
     rw [A0F, if_pos (by show pivA R piv.length c < R.length; omega)];simp only [hpa]
   have hx := A0D r2.2 (i := c) (by omega);have hiv := A3w hp.1 (((A0W R piv.length (piv.length + j)).getD piv.length []).getD c 0);have hin : Ah7.F (((A0W R piv.length (piv.length + j)).getD piv.length []).getD c 0, p, ()) = some ((inv_ p (((A0W R piv.length (piv.length + j)).getD piv.length []).getD c 0), ()), ()) := Ah7.val _ _ hp hx;have hzero : A0N 0 (p - 1) (List.replicate w (0 : Int)) := fun x hx => by rw [(List.mem_replicate.1 hx).2]; omega
   have hadd := Ae7.val (List.replicate w 0) ((A0W R piv.length (piv.length + j)).getD piv.length []) (inv_ p (((A0W R piv.length (piv.length + j)).getD piv.length []).getD c 0)) p hp hiv hzero r2.2 (by rw [List.length_replicate]; omega) (by rw [List.length_replicate]; omega);have o3 := A1h (h := h) hp.1 o2 piv.length c;have hfin : ∀ d : Int, Goes (fun k => Ab9.l17 k (w : Int) p d (piv.length : Int) (w : Int) (c : Int) (h : Int) 0 (A2y p w piv.length c (A0W R piv.length (piv.length + j))) piv (c : Int)) (fun k => Ab9.l4 k (w : Int) p d (w : Int) ((c + 1 : Nat) : Int) (A0F p w c (R, piv)).1 (A0F p w c (R, piv)).2) := fun d => by
     refine (A2f hp hh hw o3 ht hc d piv).trans (Goes.succ fun k => ?_);rw [Ab9.l17_eq, if_neg (by simp), if_pos (by simp only [List.length_cons, List.length_nil, bigA]; omega), A0v (by omega), hs]
   by_cases j0 : j = 0
   . subst j0;have hsw : A0W R piv.length (piv.length + 0) = R := A2v (by omega);rw [hsw] at hin hadd hfin;refine ⟨(IntKind.i64.wrap (det * ((R.getD piv.length []).getD c 0))).tmod p, Goes.trans (Goes.succ fun k => ?_) (hfin _)⟩;rw [hstart];simp only [Option.bind_some, e];rw [if_neg (by decide), if_neg (by decide), if_pos (idxI.2 (by omega))];simp only [Int.toNat_natCast];have hrw := (o.at ht).1;rw [if_pos (idxI.2 (by omega)), if_neg (by omega), if_pos (by simp only [bigN]; omega), if_pos (idxI.2 (by omega)), hin];simp only [Option.bind_some];rw [hadd];simp only [Option.bind_some];rw [if_pos (idxI.2 (by omega)), List.length_set, hlen];rfl
   . refine ⟨(IntKind.i64.wrap ((IntKind.i64.wrap ((IntKind.i64.wrap (0 - det)).tmod p + p)).tmod p * (((A0W R piv.length (piv.length + j)).getD piv.length []).getD c 0))).tmod p, Goes.trans (Goes.succ fun k => ?_) (hfin _)⟩;rw [hstart];simp only [Option.bind_some, e];rw [if_neg (by simp only [decide_eq_true_eq]; omega), if_pos (by simp only [decide_eq_true_eq]; omega)];have ew : IntKind.i64.wrap ((piv.length : Int) + (j : Int)) = ((piv.length + j : Nat) : Int) := by rw [A0w (by omega) (by omega)]; omega
     simp only [ew, Int.toNat_natCast];have hl3 : (R.set piv.length (R.getD (piv.length + j) [])).length = h := by rw [List.length_set]; exact hlen
     have esw : (R.set piv.length (R.getD (piv.length + j) [])).set (piv.length + j) (R.getD piv.length []) = A0W R piv.length (piv.length + j) := rfl;rw [if_pos (idxI.2 (by omega)), if_pos (idxI.2 (by omega)), if_pos (idxI.2 (by omega)), if_pos (idxI.2 (by omega)), Ae0.eq, Ae0.T, if_neg (by omega), if_neg (by omega)];simp only [Option.bind_some, esw];rw [if_pos (idxI.2 (by omega)), if_pos (idxI.2 (by omega)), if_neg (by omega), if_pos (by simp only [bigN]; omega), if_pos (idxI.2 (by omega)), hin];simp only [Option.bind_some];rw [hadd];simp only [Option.bind_some];rw [if_pos (idxI.2 (by omega)), List.length_set, hl2];rfl
def gjN (p : Int) (w : Nat) (R : List (List Int)) : Nat -> List (List Int) × List Int
 | 0 => (R, [])
 | c + 1 => A0F p w c (gjN p w R c)
theorem A2d {p : Int} {h w : Nat} {R : List (List Int)} (hp : 2 ≤ p) (o : RowsOk p h w R) : ∀ c, RowsOk p h w (gjN p w R c).1 /\ (gjN p w R c).2.length ≤ h
 | 0 => ⟨o, Nat.zero_le _⟩
 | c + 1 => by obtain ⟨h1, h2⟩ := A2d hp o c; exact step_ok hp h1 h2
theorem Ab9.val {p : Int} {h w : Nat} (hp : 2 ≤ p /\ p ≤ 251) (hh : h ≤ 4096) (hw : w ≤ 256) {R : List (List Int)} (o : RowsOk p h w R) : ∃ det, Ab9.F (R, (w : Int), p, ()) = some (((gjN p w R w).2, det, ()), ((gjN p w R w).1, ())) := by
 obtain ⟨⟨det, s⟩, hs, hg⟩ := Goes.loop (R := (List Int × Int × Unit) × (List (List Int) × Unit)) (fun k i (s : Int × (List (List Int) × List Int)) => Ab9.l4 k (w : Int) p s.1 (w : Int) (i : Int) s.2.1 s.2.2) w (fun i s => s.2 = gjN p w R i) (fun i s hi h2 => by
   obtain ⟨o', hl'⟩ := A2d hp.1 o i;rw [<- h2] at o' hl';obtain ⟨d, hd⟩ := A2g hp hh hw o' hi s.1 s.2.2 hl';exact ⟨(d, A0F p w i s.2), by simp only [gjN, h2], hd⟩) 0 (1, (R, [])) (Nat.zero_le _) rfl
 have hs : s = gjN p w R w := hs;refine ⟨det, Ab9.of _ _ _ (Ev.of_eq (hg _ ((Ev.const _).succ fun k => ?_)) fun k => rfl)⟩;rw [Ab9.l4_eq, if_neg (by simp), hs]
theorem A2h {n p : Int} (hp : 2 ≤ p /\ p ≤ 251) : (IntKind.i64.wrap (n.tmod p + p)).tmod p = n % p := by
 have hb : -p < n.tmod p /\ n.tmod p < p := by
   by_cases h : 0 ≤ n
   . rw [A2j h]; have := A1R (a := n) hp.1; omega
   . have e : n.tmod p = -((-n).tmod p) := by rw [Int.neg_tmod]; omega
     have h2 := A1R (a := -n) hp.1;rw [e, A2j (by omega)]; omega
 have e : n.tmod p = n - p * n.tdiv p := by have := Int.tmod_add_mul_tdiv n p; omega
 rw [A0w (by omega) (by omega), A2j (by omega), Int.add_emod_right, e, Int.sub_emod, Int.mul_emod_right, Int.sub_zero, Int.emod_emod]
theorem sub_val {p a f b : Int} (hp : 2 ≤ p /\ p ≤ 251) (ha : 0 ≤ a /\ a ≤ p - 1) (hf : 0 ≤ f /\ f ≤ p - 1) (hb : 0 ≤ b /\ b ≤ p - 1) : Am2.F (IntKind.i64.wrap (a - IntKind.i64.wrap (f * b)), p, ()) = some (((a + (p - f) * b) % p, ()), ()) := by
 have hm := A1S hp hf hb;rw [A0w (x := f * b) (by omega) (by omega), A0w (x := a - f * b) (by omega) (by omega), Am2.eq, Am2.T, if_neg (by omega), if_neg (by omega), A2h hp];have e : a + (p - f) * b = (a - f * b) + p * b := by rw [Int.sub_mul]; omega
 rw [e, Int.add_mul_emod_self_left]
theorem RowsOk.flat {p : Int} {h w : Nat} {R : List (List Int)} (o : RowsOk p h w R) {i j : Nat} (hi : i < h) (hj : j < w) : R.flatten.getD (i * w + j) 0 = (R.getD i []).getD j 0 := A1d (fun r hr => (o.row r hr).1) (by rw [o.len]; exact hi) hj
theorem RowsOk.flatSet {p : Int} {h w : Nat} {R : List (List Int)} (o : RowsOk p h w R) {i j : Nat} (v : Int) (hi : i < h) (hj : j < w) : R.flatten.set (i * w + j) v = (R.set i ((R.getD i []).set j v)).flatten := A2K v (fun r hr => (o.row r hr).1) (by rw [o.len]; exact hi) hj
theorem RowsOk.flatLen {p : Int} {h w : Nat} {R : List (List Int)} (o : RowsOk p h w R) : R.flatten.length = h * w := by rw [A2J fun r hr => (o.row r hr).1, o.len]
theorem A1i {R : List (List Int)} {i : Nat} {x : List Int} (hi : i < R.length) : (R.set i x).getD i [] = x := by simp [List.getD_eq_getElem?_getD, hi]
theorem A1l {R : List (List Int)} {i j : Nat} {x : List Int} (h : i ≠ j) : (R.set i x).getD j [] = R.getD j [] := by simp [List.getD_eq_getElem?_getD, List.getElem?_set, h]
theorem A1p {p : Int} {w : Nat} {f g : Nat -> Int} (hf : ∀ q, q < w -> 0 ≤ f q /\ f q ≤ p - 1) (hg : ∀ q, q < w -> 0 ≤ g q /\ g q ≤ p - 1) (i : Nat) : (mix w f g i).length = w /\ A0N 0 (p - 1) (mix w f g i) := by
 refine ⟨A2D _ _ _ _, fun x hx => ?_⟩;unfold mix at hx;obtain ⟨q, hq, rfl⟩ := List.mem_map.1 hx;have hq := List.mem_range.1 hq;split
 . exact hf q hq
 . exact hg q hq
theorem RowsOk.cell {p : Int} {h w : Nat} {R : List (List Int)} (o : RowsOk p h w R) {i : Nat} (hi : i < h) (q : Nat) (hq : q < w) : 0 ≤ (R.getD i []).getD q 0 /\ (R.getD i []).getD q 0 ≤ p - 1 := A0D (o.at hi).2 (by rw [(o.at hi).1]; exact hq)
theorem A0o {p : Int} {h w : Nat} {R : List (List Int)} (o : RowsOk p h w R) {i : Nat} (hi : i < h) : (List.range w).map (fun q => (R.getD i []).getD q 0) = R.getD i [] := by
 have := A2E (R.getD i [])
 rwa [(o.at hi).1] at this
theorem A1L {R : List (List Int)} {i : Nat} (hi : i < R.length) : R.set i (R.getD i []) = R := by rw [A0q hi]; exact List.set_getElem_self hi
section
variable {p : Int} {h w : Nat} (hp : 2 ≤ p /\ p ≤ 251) (hh : h ≤ 4096) (hw : w ≤ 256) (xs : List Int) (e1 e2 e3 : Int) (x18 : List Int)
include hp hh hw
theorem A2U {R : List (List Int)} (o : RowsOk p h w R) {t : Nat} (ht : t < h) {c : Nat} (inv det : Int) (hi : 0 ≤ inv /\ inv ≤ p - 1) (piv : List Int) :
   Goes (fun k => Aa0.l26 k p (h : Int) (w : Int) xs p (w : Int) det (t : Int) (c : Int) inv 0 e1 e2 e3 x18 p (h : Int) (w : Int) R.flatten piv)
     (fun k => Aa0.l30 k p (h : Int) (w : Int) xs p (w : Int) det (t : Int) (c : Int) 0 e1 e2 e3 x18 p (h : Int) (w : Int) (R.set t (addL p inv (List.replicate w 0) (R.getD t []))).flatten piv) := by
 have hlen := o.len;have hf : ∀ q, q < w -> 0 ≤ ((List.replicate w (0 : Int)).getD q 0 + inv * (R.getD t []).getD q 0) % p /\ ((List.replicate w (0 : Int)).getD q 0 + inv * (R.getD t []).getD q 0) % p ≤ p - 1 := fun q hq => A1R hp.1;obtain ⟨s, hs, hg⟩ := Goes.loop (R := ((Int × Int × Int × List Int) × List Int × Int × Unit) × Unit) (fun k j (s : List (List Int)) => Aa0.l26 k p (h : Int) (w : Int) xs p (w : Int) det (t : Int) (c : Int) inv (j : Int) e1 e2 e3 x18 p (h : Int) (w : Int) s.flatten piv) w (fun j s => s = R.set t (mix w (fun q => ((List.replicate w (0 : Int)).getD q 0 + inv * (R.getD t []).getD q 0) % p) (fun q => (R.getD t []).getD q 0) j)) (fun j s hj h2 => ⟨_, rfl, Goes.succ fun k => by
   have os : RowsOk p h w s := by rw [h2]; exact o.set (A1p hf (fun q hq => o.cell ht q hq) j) t
   obtain ⟨i1, i2⟩ := A0a hh hw ht hj;have hsl := os.flatLen;have hst : s.getD t [] = mix w (fun q => ((List.replicate w (0 : Int)).getD q 0 + inv * (R.getD t []).getD q 0) % p) (fun q => (R.getD t []).getD q 0) j := by rw [h2, A1i (by omega)]
   have hget : s.flatten.getD (t * w + j) 0 = (R.getD t []).getD j 0 := by rw [os.flat ht hj, hst, A0g _ _ _ _ hj, if_neg (by omega)]
   have hval : (IntKind.i64.wrap ((R.getD t []).getD j 0 * inv)).tmod p = ((List.replicate w (0 : Int)).getD j 0 + inv * (R.getD t []).getD j 0) % p := by
     have hc := o.cell ht j hj;have hm := A1S hp hc hi;rw [A0w (by omega) (by omega), A2j (by omega), Int.mul_comm];have : (List.replicate w (0 : Int)).getD j 0 = 0 := by simp [List.getD_eq_getElem?_getD, List.getElem?_replicate, hj]
     rw [this, Int.zero_add]
   rw [Aa0.l26_eq, if_pos (ltI.2 hj), i1, if_pos (idxI.2 (by omega)), if_neg (by omega), if_pos (idxI.2 (by omega))];simp only [Int.toNat_natCast];rw [hget, hval, os.flatSet _ ht hj, hst, A1A (fun q => ((List.replicate w (0 : Int)).getD q 0 + inv * (R.getD t []).getD q 0) % p) (fun q => (R.getD t []).getD q 0) hj, A0v (by omega), h2, List.set_set]⟩) 0 R (Nat.zero_le _) (by rw [A0n, A0o o ht, A1L (by omega)])
 refine hg.trans (Goes.succ fun k => ?_);rw [Aa0.l26_eq, if_neg (by simp), hs, A1k];have : addL p inv (List.replicate w 0) (R.getD t []) = (List.range w).map fun q => ((List.replicate w (0 : Int)).getD q 0 + inv * (R.getD t []).getD q 0) % p := by rw [addL, List.length_replicate]
 rw [this]
theorem A3v {R : List (List Int)} (o : RowsOk p h w R) {t i : Nat} (ht : t < h) (hi : i < h) (hne : i ≠ t) {c : Nat} (f det : Int) (hf : 0 ≤ f /\ f ≤ p - 1) (piv : List Int) :
   Goes (fun k => Aa0.l35 k p (h : Int) (w : Int) xs p (w : Int) det (t : Int) (c : Int) (i : Int) f 0 e1 e2 e3 x18 p (h : Int) (w : Int) R.flatten piv)
     (fun k => Aa0.l30 k p (h : Int) (w : Int) xs p (w : Int) det (t : Int) (c : Int) ((i + 1 : Nat) : Int) e1 e2 e3 x18 p (h : Int) (w : Int) (R.set i (addL p (p - f) (R.getD i []) (R.getD t []))).flatten piv) := by
 have hlen := o.len;have hfm : ∀ q, q < w -> 0 ≤ ((R.getD i []).getD q 0 + (p - f) * (R.getD t []).getD q 0) % p /\ ((R.getD i []).getD q 0 + (p - f) * (R.getD t []).getD q 0) % p ≤ p - 1 := fun q hq => A1R hp.1;obtain ⟨s, hs, hg⟩ := Goes.loop (R := ((Int × Int × Int × List Int) × List Int × Int × Unit) × Unit) (fun k j (s : List (List Int)) => Aa0.l35 k p (h : Int) (w : Int) xs p (w : Int) det (t : Int) (c : Int) (i : Int) f (j : Int) e1 e2 e3 x18 p (h : Int) (w : Int) s.flatten piv) w (fun j s => s = R.set i (mix w (fun q => ((R.getD i []).getD q 0 + (p - f) * (R.getD t []).getD q 0) % p) (fun q => (R.getD i []).getD q 0) j)) (fun j s hj h2 => ⟨_, rfl, Goes.succ fun k => by
   have os : RowsOk p h w s := by rw [h2]; exact o.set (A1p hfm (fun q hq => o.cell hi q hq) j) i
   obtain ⟨i1, i2⟩ := A0a hh hw hi hj;obtain ⟨t1, t2⟩ := A0a hh hw ht hj;have hsl := os.flatLen;have hsi : s.getD i [] = mix w (fun q => ((R.getD i []).getD q 0 + (p - f) * (R.getD t []).getD q 0) % p) (fun q => (R.getD i []).getD q 0) j := by rw [h2, A1i (by omega)]
   have g1 : s.flatten.getD (i * w + j) 0 = (R.getD i []).getD j 0 := by rw [os.flat hi hj, hsi, A0g _ _ _ _ hj, if_neg (by omega)]
   have g2 : s.flatten.getD (t * w + j) 0 = (R.getD t []).getD j 0 := by rw [os.flat ht hj, h2, A1l hne]
   rw [Aa0.l35_eq, if_pos (ltI.2 hj), i1, t1, if_pos (idxI.2 (by omega)), if_pos (idxI.2 (by omega))];simp only [Int.toNat_natCast];rw [g1, g2, sub_val hp (o.cell hi j hj) hf (o.cell ht j hj)];simp only [Option.bind_some];rw [if_pos (idxI.2 (by omega)), os.flatSet _ hi hj, hsi, A1A (fun q => ((R.getD i []).getD q 0 + (p - f) * (R.getD t []).getD q 0) % p) (fun q => (R.getD i []).getD q 0) hj, A0v (by omega), h2, List.set_set]⟩) 0 R (Nat.zero_le _) (by rw [A0n, A0o o hi, A1L (by omega)])
 refine hg.trans (Goes.succ fun k => ?_);rw [Aa0.l35_eq, if_neg (by simp), hs, A1k, A0v (by omega)];have : addL p (p - f) (R.getD i []) (R.getD t []) = (List.range w).map fun q => ((R.getD i []).getD q 0 + (p - f) * (R.getD t []).getD q 0) % p := by rw [addL, (o.at hi).1]
 rw [this]
theorem A2T {R : List (List Int)} (o : RowsOk p h w R) {t c : Nat} (ht : t < h) (hc : c < w) (det : Int) (piv : List Int) :
   Goes (fun k => Aa0.l30 k p (h : Int) (w : Int) xs p (w : Int) det (t : Int) (c : Int) 0 e1 e2 e3 x18 p (h : Int) (w : Int) R.flatten piv)
     (fun k => Aa0.l30 k p (h : Int) (w : Int) xs p (w : Int) det (t : Int) (c : Int) (h : Int) e1 e2 e3 x18 p (h : Int) (w : Int) (A1G p t c R).flatten piv) := by
 have hlen := o.len;have hok : ∀ i, RowsOk p h w (mix h (A0P p t c R) (fun q => R.getD q []) i) := fun i => ⟨A2D _ _ _ _, fun r hr => by
   unfold mix at hr;obtain ⟨q, hq, rfl⟩ := List.mem_map.1 hr;have hq := List.mem_range.1 hq;have := o.at hq;unfold A0P;split
   . split
     . exact this
     . exact ⟨by rw [A0r]; exact this.1, A2A hp.1 _ _⟩
   . exact this⟩
 obtain ⟨s, hs, hg⟩ := Goes.loop (R := ((Int × Int × Int × List Int) × List Int × Int × Unit) × Unit) (fun k i (s : List (List Int)) => Aa0.l30 k p (h : Int) (w : Int) xs p (w : Int) det (t : Int) (c : Int) (i : Int) e1 e2 e3 x18 p (h : Int) (w : Int) s.flatten piv) h (fun i s => s = mix h (A0P p t c R) (fun q => R.getD q []) i) (fun i s hi h2 => ⟨_, rfl, by
   have os : RowsOk p h w s := by rw [h2]; exact hok i
   obtain ⟨i1, i2⟩ := A0a hh hw hi hc;have hsl := os.flatLen;have g1 : s.getD i [] = R.getD i [] := by rw [h2, A0g _ _ _ _ hi, if_neg (by omega)]
   have g2 : s.getD t [] = R.getD t [] := by
     rw [h2, A0g _ _ _ _ ht];split
     . exact A0i p t c R
     . rfl
   have hcell : s.flatten.getD (i * w + c) 0 = (R.getD i []).getD c 0 := by rw [os.flat hi hc, g1]
   have E : ∀ k, Aa0.l30 (k + 1) p (h : Int) (w : Int) xs p (w : Int) det (t : Int) (c : Int) (i : Int) e1 e2 e3 x18 p (h : Int) (w : Int) s.flatten piv = _ := fun k => by
     rw [Aa0.l30_eq, if_pos (ltI.2 hi), i1, if_pos (idxI.2 (by omega)), A0v (show i < 4611686018427387904 by omega), Int.toNat_natCast, hcell]
   by_cases e : i = t
   . subst e;rw [<- A1K h (f := A0P p i c R) (g := fun q => R.getD q []) (A0i p i c R)] at h2;refine Goes.succ fun k => ?_;rw [E, if_pos (by simp), h2]
   . by_cases z : (R.getD i []).getD c 0 = 0
     . rw [<- A1K h (f := A0P p t c R) (g := fun q => R.getD q []) (show A0P p t c R i = R.getD i [] from if_pos (.inr z))] at h2;refine Goes.succ fun k => ?_;rw [E, if_neg (by simp only [beq_iff_eq]; omega), if_pos (by rw [z]; decide), h2]
     . have ea : A0P p t c R i = addL p (p - (R.getD i []).getD c 0) (R.getD i []) (R.getD t []) := if_neg (by rintro (h | h) <;> contradiction);have hx := o.cell hi c hc;have hrow := A3v hp hh hw xs e1 e2 e3 x18 os ht hi e (c := c) ((R.getD i []).getD c 0) det hx piv;rw [g1, g2, <- ea, h2, A1A (A0P p t c R) (fun q => R.getD q []) hi, <- h2] at hrow;refine Goes.trans (Goes.succ fun k => ?_) hrow;rw [E, if_neg (by simp only [beq_iff_eq]; omega), if_neg (by rw [beq_iff_eq]; exact z)]⟩) 0 R (Nat.zero_le _) (by rw [A0n, <- hlen, A1X])
 have e : A1G p t c R = (List.range h).map (A0P p t c R) := by rw [A1G, hlen]
 rw [hs, A1k] at hg;rw [e]; exact hg
theorem A2n {R : List (List Int)} (o : RowsOk p h w R) {t a : Nat} (ht : t < h) (ha : a < h) (hne : t ≠ a) (c : Nat) (det : Int) (piv : List Int) :
   Goes (fun k => Aa0.l17 k p (h : Int) (w : Int) xs p (w : Int) det (t : Int) (c : Int) (a : Int) 0 e1 e2 e3 x18 p (h : Int) (w : Int) R.flatten piv)
     (fun k => Aa0.l17 k p (h : Int) (w : Int) xs p (w : Int) det (t : Int) (c : Int) (a : Int) (w : Int) e1 e2 e3 x18 p (h : Int) (w : Int) (A0W R t a).flatten piv) := by
 have _ := hp;have hlen := o.len;obtain ⟨s, hs, hg⟩ := Goes.loop (R := ((Int × Int × Int × List Int) × List Int × Int × Unit) × Unit) (fun k j (s : List (List Int)) => Aa0.l17 k p (h : Int) (w : Int) xs p (w : Int) det (t : Int) (c : Int) (a : Int) (j : Int) e1 e2 e3 x18 p (h : Int) (w : Int) s.flatten piv) w (fun j s => s = (R.set t (mix w (fun q => (R.getD a []).getD q 0) (fun q => (R.getD t []).getD q 0) j)).set a (mix w (fun q => (R.getD t []).getD q 0) (fun q => (R.getD a []).getD q 0) j)) (fun j s hj h2 => ⟨_, rfl, Goes.succ fun k => by
   have os : RowsOk p h w s := by rw [h2]; exact (o.set (A1p (fun q hq => o.cell ha q hq) (fun q hq => o.cell ht q hq) j) t).set (A1p (fun q hq => o.cell ht q hq) (fun q hq => o.cell ha q hq) j) a
   obtain ⟨i1, i2⟩ := A0a hh hw ht hj;obtain ⟨a1, a2⟩ := A0a hh hw ha hj;have hsl := os.flatLen;have st : s.getD t [] = mix w (fun q => (R.getD a []).getD q 0) (fun q => (R.getD t []).getD q 0) j := by rw [h2, A1l (Ne.symm hne), A1i (by omega)]
   have sa : s.getD a [] = mix w (fun q => (R.getD t []).getD q 0) (fun q => (R.getD a []).getD q 0) j := by rw [h2, A1i (by rw [List.length_set]; omega)]
   have g1 : s.flatten.getD (t * w + j) 0 = (R.getD t []).getD j 0 := by rw [os.flat ht hj, st, A0g _ _ _ _ hj, if_neg (by omega)]
   have g2 : s.flatten.getD (a * w + j) 0 = (R.getD a []).getD j 0 := by rw [os.flat ha hj, sa, A0g _ _ _ _ hj, if_neg (by omega)]
   have f1 : s.flatten.set (a * w + j) ((R.getD t []).getD j 0) = (s.set a (mix w (fun q => (R.getD t []).getD q 0) (fun q => (R.getD a []).getD q 0) (j + 1))).flatten := by rw [os.flatSet _ ha hj, sa, A1A (fun q => (R.getD t []).getD q 0) (fun q => (R.getD a []).getD q 0) hj]
   have os2 : RowsOk p h w (s.set a (mix w (fun q => (R.getD t []).getD q 0) (fun q => (R.getD a []).getD q 0) (j + 1))) := os.set (A1p (fun q hq => o.cell ht q hq) (fun q hq => o.cell ha q hq) (j + 1)) a;have f2 : (s.set a (mix w (fun q => (R.getD t []).getD q 0) (fun q => (R.getD a []).getD q 0) (j + 1))).flatten.set (t * w + j) ((R.getD a []).getD j 0) = ((R.set t (mix w (fun q => (R.getD a []).getD q 0) (fun q => (R.getD t []).getD q 0) (j + 1))).set a (mix w (fun q => (R.getD t []).getD q 0) (fun q => (R.getD a []).getD q 0) (j + 1))).flatten := by
     rw [os2.flatSet _ ht hj, A1l (Ne.symm hne), st, A1A (fun q => (R.getD a []).getD q 0) (fun q => (R.getD t []).getD q 0) hj, h2, List.set_set, List.set_comm _ _ (Ne.symm hne), List.set_set]
   have hl2 := os2.flatLen;rw [Aa0.l17_eq, if_pos (ltI.2 hj), i1, a1, if_pos (idxI.2 (by omega)), if_pos (idxI.2 (by omega)), if_pos (idxI.2 (by omega))];simp only [Int.toNat_natCast, g1, g2, f1];rw [if_pos (idxI.2 (by omega)), f2, A0v (by omega)]⟩) 0 R (Nat.zero_le _) (by rw [A0n, A0n, A0o o ht, A0o o ha, A1L (by omega), A1L (by omega)])
 rw [hs, A1k, A1k, A0o o ht, A0o o ha] at hg;exact hg
theorem A2l {R : List (List Int)} (o : RowsOk p h w R) {t c : Nat} (ht : t ≤ h) (hc : c < w) (det : Int) (piv : List Int) :
   Goes (fun k => Aa0.l11 k p (h : Int) (w : Int) xs p (w : Int) det (t : Int) (c : Int) (t : Int) e1 e2 e3 x18 p (h : Int) (w : Int) R.flatten piv)
     (fun k => Aa0.l11 k p (h : Int) (w : Int) xs p (w : Int) det (t : Int) (c : Int) ((pivA R t c : Nat) : Int) e1 e2 e3 x18 p (h : Int) (w : Int) R.flatten piv) := by
 have _ := hp;have hlen := o.len;obtain ⟨p1, p2, p3, -⟩ := A1t R t c (by omega);obtain ⟨s, hs, hg⟩ := Goes.loop (R := ((Int × Int × Int × List Int) × List Int × Int × Unit) × Unit) (fun k i (_ : Unit) => Aa0.l11 k p (h : Int) (w : Int) xs p (w : Int) det (t : Int) (c : Int) (i : Int) e1 e2 e3 x18 p (h : Int) (w : Int) R.flatten piv) (pivA R t c) (fun i _ => t ≤ i) (fun i s hi h2 => ⟨(), by omega, Goes.succ fun k => by
   obtain ⟨i1, i2⟩ := A0a hh hw (show i < h by omega) hc;have hsl := o.flatLen;rw [Aa0.l11_eq, if_pos (ltI.2 (by omega)), i1, if_pos (idxI.2 (by omega)), Int.toNat_natCast, o.flat (by omega) hc, p3 i h2 hi, if_pos (by decide), A0v (by omega)]⟩) t () p1 (Nat.le_refl _)
 exact hg
theorem A2m {R : List (List Int)} (o : RowsOk p h w R) {c : Nat} (hc : c < w) (det : Int) (piv : List Int) (hl : piv.length < h) :
   ∃ det', Goes (fun k => Aa0.l8 k p (h : Int) (w : Int) xs p (w : Int) det (piv.length : Int) (c : Int) e1 e2 e3 x18 p (h : Int) (w : Int) R.flatten piv)
     (fun k => Aa0.l8 k p (h : Int) (w : Int) xs p (w : Int) det' ((A0F p w c (R, piv)).2.length : Int) ((c + 1 : Nat) : Int) e1 e2 e3 x18 p (h : Int) (w : Int) (A0F p w c (R, piv)).1.flatten (A0F p w c (R, piv)).2) := by
 have hlen := o.len;obtain ⟨p1, p2, p3, p4⟩ := A1t R piv.length c (by omega);have start : Goes (fun k => Aa0.l8 k p (h : Int) (w : Int) xs p (w : Int) det (piv.length : Int) (c : Int) e1 e2 e3 x18 p (h : Int) (w : Int) R.flatten piv) (fun k => Aa0.l11 k p (h : Int) (w : Int) xs p (w : Int) det (piv.length : Int) (c : Int) ((pivA R piv.length c : Nat) : Int) e1 e2 e3 x18 p (h : Int) (w : Int) R.flatten piv) := Goes.trans (Goes.succ fun k => by
   rw [Aa0.l8_eq, if_pos (ltI.2 hc), if_pos (ltI.2 hl)]) (A2l hp hh hw xs e1 e2 e3 x18 o (Nat.le_of_lt hl) hc det piv)
 by_cases hpv : pivA R piv.length c < R.length
 . have hnz := p4 hpv;have ha : pivA R piv.length c < h := by omega
   have hs : A0F p w c (R, piv) = (A1G p piv.length c (A2y p w piv.length c (A0W R piv.length (pivA R piv.length c))), piv ++ [(c : Int)]) := if_pos hpv;have o2 := A2F o hl ha;have hx := o2.cell hl c hc;have hiv := A3w hp.1 (((A0W R piv.length (pivA R piv.length c)).getD piv.length []).getD c 0);have hin : Ae1.F (((A0W R piv.length (pivA R piv.length c)).getD piv.length []).getD c 0, p, ()) = some ((inv_ p (((A0W R piv.length (pivA R piv.length c)).getD piv.length []).getD c 0), ()), ()) := Ae1.val _ _ hp hx;have o3 := A1h (h := h) hp.1 o2 piv.length c;obtain ⟨c1, c2⟩ := A0a hh hw hl hc;have hfl := o2.flat hl hc;have hfll := o2.flatLen;have hfin : ∀ d : Int, Goes (fun k => Aa0.l26 k p (h : Int) (w : Int) xs p (w : Int) d (piv.length : Int) (c : Int) (inv_ p (((A0W R piv.length (pivA R piv.length c)).getD piv.length []).getD c 0)) 0 e1 e2 e3 x18 p (h : Int) (w : Int) (A0W R piv.length (pivA R piv.length c)).flatten piv)
       (fun k => Aa0.l8 k p (h : Int) (w : Int) xs p (w : Int) d ((A0F p w c (R, piv)).2.length : Int) ((c + 1 : Nat) : Int) e1 e2 e3 x18 p (h : Int) (w : Int) (A0F p w c (R, piv)).1.flatten (A0F p w c (R, piv)).2) := fun d => by
     refine (A2U hp hh hw xs e1 e2 e3 x18 o2 hl (c := c) _ d hiv piv).trans ((A2T hp hh hw xs e1 e2 e3 x18 o3 hl hc d piv).trans (Goes.succ fun k => ?_));rw [Aa0.l30_eq, if_neg (by simp), if_pos (by simp only [List.length_cons, List.length_nil, bigA]; omega), A0v (by omega), A0v (by omega), hs];simp only [List.length_append, List.length_cons, List.length_nil, Nat.zero_add]
   by_cases e : pivA R piv.length c = piv.length
   . have hsw : A0W R piv.length (pivA R piv.length c) = R := by rw [e]; exact A2v (by omega)
     rw [hsw] at hin hfin hfl hfll;refine ⟨(IntKind.i64.wrap (det * (R.getD piv.length []).getD c 0)).tmod p, start.trans (Goes.trans (Goes.succ fun k => ?_) (hfin _))⟩;rw [e] at hnz ⊢;rw [Aa0.l11_eq, if_pos (ltI.2 hl), c1, if_pos (idxI.2 (by omega)), Int.toNat_natCast, hfl, if_neg (by rw [beq_iff_eq]; exact hnz), if_neg (by simp only [beq_iff_eq]; omega), if_neg (by simp), if_pos (idxI.2 (by omega)), if_neg (by omega), hin];rfl
   . refine ⟨(IntKind.i64.wrap (IntKind.i64.wrap (p - det) * ((A0W R piv.length (pivA R piv.length c)).getD piv.length []).getD c 0)).tmod p, start.trans (Goes.trans (B := fun k => Aa0.l17 k p (h : Int) (w : Int) xs p (w : Int) (IntKind.i64.wrap (p - det)) (piv.length : Int) (c : Int) ((pivA R piv.length c : Nat) : Int) 0 e1 e2 e3 x18 p (h : Int) (w : Int) R.flatten piv) (Goes.succ fun k => ?_) ((A2n hp hh hw xs e1 e2 e3 x18 o hl ha (Ne.symm e) c (IntKind.i64.wrap (p - det)) piv).trans (Goes.trans (Goes.succ fun k => ?_) (hfin _))))⟩
     . obtain ⟨d1, d2⟩ := A0a hh hw ha hc;have hf0 := o.flat ha hc;have hfl0 := o.flatLen;rw [Aa0.l11_eq, if_pos (ltI.2 ha), d1, if_pos (idxI.2 (by omega)), Int.toNat_natCast, hf0, if_neg (by rw [beq_iff_eq]; exact hnz), if_neg (by simp only [beq_iff_eq]; omega), if_pos (by rw [bne_iff_ne]; omega)]
     . rw [Aa0.l17_eq, if_neg (by simp), c1, if_pos (idxI.2 (by omega)), if_neg (by omega), Int.toNat_natCast, hfl, hin];rfl
 . have hs : A0F p w c (R, piv) = (R, piv) := if_neg hpv;refine ⟨det, start.trans (Goes.succ fun k => ?_)⟩;rw [Aa0.l11_eq, if_neg (by simp only [decide_eq_true_eq]; omega), if_pos (by simp only [beq_iff_eq]; omega), A0v (by omega), hs]
end
theorem Aa0.val {p : Int} {h w : Nat} (hp : 2 ≤ p /\ p ≤ 251) (hh : h ≤ 4096) (hw : w ≤ 256) {R : List (List Int)} (o : RowsOk p h w R) : ∃ det, Aa0.F ((p, ((h : Int), ((w : Int), R.flatten))), ()) = some (((p, (h : Int), (w : Int), (gjN p w R w).1.flatten), (gjN p w R w).2, det, ()), ()) := by
 have hfl := o.flatLen;have h1 : h * w ≤ 4096 * 256 := Nat.mul_le_mul hh hw;have run : ∀ i, i ≤ w -> ∀ det, ∃ det', Goes (fun k => Aa0.l8 k p (h : Int) (w : Int) R.flatten p (w : Int) det ((gjN p w R (w - i)).2.length : Int) ((w - i : Nat) : Int) 0 0 0 [] p (h : Int) (w : Int) (gjN p w R (w - i)).1.flatten (gjN p w R (w - i)).2) (fun _ => some (((p, (h : Int), (w : Int), (gjN p w R w).1.flatten), (gjN p w R w).2, det', ()), ())) := by
   intro i;induction i with
   | zero =>
     intro _ det;refine ⟨det, Goes.succ fun k => ?_⟩;rw [Nat.sub_zero, Aa0.l8_eq, if_neg (by simp)]
   | succ i ih =>
     intro hi det;obtain ⟨o', hl'⟩ := A2d hp.1 o (w - (i + 1));have e : w - i = (w - (i + 1)) + 1 := by omega
     by_cases hfull : (gjN p w R (w - (i + 1))).2.length < h
     . obtain ⟨d1, g1⟩ := A2m hp hh hw R.flatten 0 0 0 [] o' (c := w - (i + 1)) (by omega) det _ hfull;obtain ⟨d2, g2⟩ := ih (by omega) d1;rw [e] at g2;exact ⟨d2, g1.trans g2⟩
     . have stay : ∀ j, gjN p w R (w - (i + 1) + j) = gjN p w R (w - (i + 1)) := by
         intro j;induction j with
         | zero => rfl
         | succ j ihj =>
           show A0F p w _ (gjN p w R (w - (i + 1) + j)) = _;rw [ihj];exact A2p (by rw [o'.len]; omega)
       have hw2 : gjN p w R w = gjN p w R (w - (i + 1)) := by have := stay (i + 1); rwa [show w - (i + 1) + (i + 1) = w by omega] at this
       refine ⟨det, Goes.succ fun k => ?_⟩;rw [Aa0.l8_eq, if_pos (ltI.2 (by omega)), if_neg (by simp only [decide_eq_true_eq]; omega), hw2]
 obtain ⟨det, g⟩ := run w (Nat.le_refl _) 1;rw [Nat.sub_self] at g;refine ⟨det, Aa0.of _ _ _ _ (Ev.of_eq (g _ (Ev.const _)) fun k => ?_)⟩;rw [Aa0.T, Ac2.val _ (by omega)];rfl
theorem Al3.val (xs : List Int) (h : xs.length ≤ 1048576) : Al3.F (xs, ()) = some ((xs, ()), ()) := by
 rw [Al3.eq, Al3.T];have hb : ([] : List Int).length + xs.length ≤ bigA := by simp only [List.length_nil, bigA]; omega
 by_cases h0 : 0 < xs.length
 . rw [if_pos h0, if_pos hb]; rfl
 . have : xs = [] := List.eq_nil_of_length_eq_zero (by omega);subst this;rw [if_neg h0];exact b2O rfl (by rw [if_pos hb]; rfl)
def A0d (R C : Nat) (g : Nat -> Nat -> Int) : List Int := (List.range R).flatMap fun i => (List.range C).map (g i)
theorem A1j (R C : Nat) (g : Nat -> Nat -> Int) : A0d (R + 1) C g = A0d R C g ++ (List.range C).map (g R) := by simp [A0d, List.range_succ]
theorem A0A (R C : Nat) (g : Nat -> Nat -> Int) : (A0d R C g).length = R * C := by
 induction R with
 | zero => simp [A0d]
 | succ R ih => rw [A1j, List.length_append, ih, List.length_map, List.length_range, Nat.add_mul, Nat.one_mul]
theorem A1T (R C : Nat) (g : Nat -> Nat -> Int) {i j : Nat} (hi : i < R) (hj : j < C) : (A0d R C g).getD (i * C + j) 0 = g i j := by
 induction R with
 | zero => omega
 | succ R ih =>
   rw [A1j];by_cases h : i < R
   . have hlt : i * C + j < (A0d R C g).length := by
       rw [A0A];have := Nat.mul_le_mul_right C (show i + 1 ≤ R by omega);rw [Nat.add_mul, Nat.one_mul] at this; omega
     rw [List.getD_eq_getElem?_getD, List.getElem?_append_left hlt, <- List.getD_eq_getElem?_getD];exact ih h
   . obtain rfl : i = R := by omega
     rw [List.getD_eq_getElem?_getD, List.getElem?_append_right (by rw [A0A]; omega), A0A, show i * C + j - i * C = j by omega, List.getElem?_map, List.getElem?_range hj];rfl
theorem A3z (R C : Nat) (g : Nat -> Nat -> Int) (hR : R ≤ 32) (hC : C ≤ 32) : (A0d R C g).length ≤ 1024 := by
 rw [A0A]; exact Nat.mul_le_mul hR hC
theorem Ac8.val (p : Int) (R C : Nat) (f : Int × Int × Unit -> Option (Int × Unit)) (g : Nat -> Nat -> Int) (hR : R ≤ 32) (hC : C ≤ 32) (hf : ∀ i j, i < R -> j < C -> f ((i : Int), (j : Int), ()) = some (g i j, ())) :
   Ac8.F (p, (R : Int), (C : Int), f, ()) = some (((p, (R : Int), (C : Int), A0d R C g), ()), ()) := by
 refine Ac8.of _ _ _ _ ?_;obtain ⟨s, hs, hg⟩ := Goes.loop (R := ((MatV × Unit) × Unit)) (fun k i (s : List Int) => Ac8.l3 k (C : Int) f (R : Int) (i : Int) 0 0 0 [] p (R : Int) (C : Int) s) R (fun i s => s = A0d i C g) (fun i s hi h2 => by
   refine ⟨_, rfl, (Goes.succ fun k => by rw [Ac8.l3_eq, if_pos (ltI.2 hi)]).trans ?_⟩;obtain ⟨s2, hs2, hg2⟩ := Goes.loop (R := ((MatV × Unit) × Unit)) (fun k j (x : List Int) => Ac8.l6 k (C : Int) f (i : Int) (R : Int) (i : Int) (C : Int) (j : Int) 0 0 0 [] p (R : Int) (C : Int) x) C (fun j x => x = A0d i C g ++ (List.range j).map (g i)) (fun j x hj h3 => ⟨_, rfl, Goes.succ fun k => by
     rw [Ac8.l6_eq, if_pos (ltI.2 hj), hf i j hi hj];simp only [Option.bind_some];have := A3z i C g (by omega) hC;rw [if_pos (by rw [h3]; simp only [List.length_append, List.length_map, List.length_range, List.length_cons, List.length_nil, bigA]; omega), A0v (by omega), h3, List.range_succ, List.map_append, List.append_assoc];rfl⟩) 0 s (Nat.zero_le _) (by simp [h2])
   refine hg2.trans (Goes.succ fun k => ?_);rw [Ac8.l6_eq, if_neg (by simp), A0v (by omega), hs2, A1j]) 0 [] (Nat.zero_le _) rfl
 refine Ev.of_eq (hg _ ((Ev.const _).succ fun k => ?_)) fun k => rfl;rw [Ac8.l3_eq, if_neg (by simp), hs]
def A1z (m : MatV) : MatV := (m.1, m.2.2.1, m.2.1, A0d m.2.2.1.toNat m.2.1.toNat fun i j => m.2.2.2.getD (j * m.2.2.1.toNat + i) 0)
theorem A1M {r c i j : Nat} (hr : r ≤ 32) (hc : c ≤ 32) (hi : i < r) (hj : j < c) : IntKind.i64.wrap (IntKind.i64.wrap ((i : Int) * (c : Int)) + (j : Int)) = ((i * c + j : Nat) : Int) /\ i * c + j < r * c := by
 have h1 : i * c ≤ 32 * 32 := Nat.mul_le_mul (by omega) hc;have e : (i : Int) * (c : Int) = ((i * c : Nat) : Int) := by simp
 have h2 := Nat.mul_le_mul_right c (show i + 1 ≤ r by omega);rw [Nat.add_mul, Nat.one_mul] at h2;refine ⟨?_, by omega⟩;rw [e, A0w (x := ((i * c : Nat) : Int)) (by omega) (by omega), A0w (by omega) (by omega)];omega
theorem Ak5.val (m : MatV) (h : MatOk m) : Ak5.F (m, ()) = some ((A1z m, ()), ()) := by
 obtain ⟨p, r, c, xs⟩ := m;obtain ⟨-, hr, hc, hl, -⟩ := h;obtain ⟨r, rfl⟩ := Int.eq_ofNat_of_zero_le hr.1;obtain ⟨c, rfl⟩ := Int.eq_ofNat_of_zero_le hc.1;have hl' : xs.length = r * c := by
   have e : (r : Int) * (c : Int) = ((r * c : Nat) : Int) := by simp
   have hl2 : (xs.length : Int) = (r : Int) * (c : Int) := hl;omega
 have hr' : r ≤ 32 := by have := hr.2; simp only [] at this; omega
 have hc' : c ≤ 32 := by have := hc.2; simp only [] at this; omega
 rw [Ak5.eq, Ak5.T, Ac8.val p c r _ (fun i j => xs.getD (j * c + i) 0) hc' hr' (fun i j hi hj => by
   show (Am8.F ((i : Int), (j : Int), (p, (r : Int), (c : Int), xs), ())).map (·.1) = _;obtain ⟨e1, e2⟩ := A1M hr' hc' hj hi;rw [Am8.eq, Am8.T, Ad3.eq, Ad3.T, e1, if_pos (by omega)];simp only [Option.bind_some, Int.toNat_natCast];rfl)]
 rfl
theorem A3j {m : MatV} (h : MatOk m) : MatOk (A1z m) := by
 obtain ⟨p, r, c, xs⟩ := m;obtain ⟨hp, hr, hc, hl, ha⟩ := h;obtain ⟨r, rfl⟩ := Int.eq_ofNat_of_zero_le hr.1;obtain ⟨c, rfl⟩ := Int.eq_ofNat_of_zero_le hc.1;refine ⟨hp, hc, hr, ?_, ?_⟩
 . show ((A0d c r _).length : Int) = (c : Int) * (r : Int);rw [A0A]; simp
 . intro a ham;simp only [A1z, A0d, List.mem_flatMap, List.mem_map, List.mem_range, Int.toNat_natCast] at ham;obtain ⟨i, hi, j, hj, rfl⟩ := ham;have hr' : r ≤ 32 := by have := hr.2; simp only [] at this; omega
   have hc' : c ≤ 32 := by have := hc.2; simp only [] at this; omega
   obtain ⟨-, e2⟩ := A1M hr' hc' hj hi;have hl2 : (xs.length : Int) = (r : Int) * (c : Int) := hl;have e : (r : Int) * (c : Int) = ((r * c : Nat) : Int) := by simp
   have hl3 : xs.length = r * c := by rw [e] at hl2; exact Int.ofNat_inj.1 hl2
   exact ha _ (A0x 0 (by rw [hl3]; exact e2))
theorem A2u {R C : Nat} {g : Nat -> Nat -> Int} {ys : List Int} (hl : ys.length = R * C) (h : ∀ i j, i < R -> j < C -> ys.getD (i * C + j) 0 = g i j) : ys = A0d R C g := by
 refine List.ext_getElem (by rw [hl, A0A]) fun n h1 h2 => ?_;rw [<- A0q (d := 0) h1, <- A0q (d := 0) h2];by_cases hC : C = 0
 . subst hC; rw [hl] at h1; omega
 have hn : n < R * C := by omega
 have hi : n / C < R := Nat.div_lt_of_lt_mul (by rw [Nat.mul_comm]; exact hn);have hj : n % C < C := Nat.mod_lt _ (by omega);have e : n / C * C + n % C = n := by rw [Nat.mul_comm]; exact Nat.div_add_mod n C
 rw [<- e, h _ _ hi hj, A1T _ _ _ hi hj]
theorem MatOk.nat {m : MatV} (h : MatOk m) : ∃ R C : Nat, m.2.1 = (R : Int) /\ m.2.2.1 = (C : Int) /\ R ≤ 32 /\ C ≤ 32 /\ m.2.2.2.length = R * C /\ (2 ≤ m.1 /\ m.1 ≤ 251) /\ A0N 0 (m.1 - 1) m.2.2.2 := by
 obtain ⟨p, r, c, xs⟩ := m;obtain ⟨hp, hr, hc, hl, ha⟩ := h;obtain ⟨r, rfl⟩ := Int.eq_ofNat_of_zero_le hr.1;obtain ⟨c, rfl⟩ := Int.eq_ofNat_of_zero_le hc.1;have hl2 : (xs.length : Int) = (r : Int) * (c : Int) := hl;have e : (r : Int) * (c : Int) = ((r * c : Nat) : Int) := by simp
 have hr2 : (r : Int) ≤ 32 := hr.2;have hc2 : (c : Int) ≤ 32 := hc.2;exact ⟨r, c, rfl, rfl, by omega, by omega, by rw [e] at hl2; exact Int.ofNat_inj.1 hl2, hp.1, ha⟩
def rowL (xs : List Int) (C i : Nat) : List Int := (xs.take ((i + 1) * C)).drop (i * C)
theorem A0c {xs : List Int} {R C i : Nat} (hl : xs.length = R * C) (hi : i < R) : (rowL xs C i).length = C := by
 have h2 := Nat.mul_le_mul_right C (show i + 1 ≤ R by omega);have e : (i + 1) * C = i * C + C := by rw [Nat.add_mul, Nat.one_mul]
 simp only [rowL, List.length_drop, List.length_take];omega
theorem A1N {xs : List Int} {C i k : Nat} (hk : k < C) : (rowL xs C i).getD k 0 = xs.getD (i * C + k) 0 := by
 have e : (i + 1) * C = i * C + C := by rw [Nat.add_mul, Nat.one_mul]
 simp only [rowL, List.getD_eq_getElem?_getD, List.getElem?_drop, List.getElem?_take];rw [if_pos (by omega)]
theorem A2O {xs : List Int} {C i : Nat} {x : Int} (h : x ∈ rowL xs C i) : x ∈ xs := List.mem_of_mem_take (List.mem_of_mem_drop h)
theorem A2i {R C i : Nat} (hR : R ≤ 4096) (hC : C ≤ 1024) (hi : i < R) : IntKind.i64.wrap ((i : Int) * (C : Int)) = ((i * C : Nat) : Int) /\ IntKind.i64.wrap ((IntKind.i64.wrap ((i : Int) + 1)) * (C : Int)) = (((i + 1) * C : Nat) : Int) /\ i * C ≤ (i + 1) * C /\ (i + 1) * C ≤ R * C := by
 have h1 : (i + 1) * C ≤ 4096 * 1024 := Nat.mul_le_mul (by omega) hC;have h0 : i * C ≤ (i + 1) * C := Nat.mul_le_mul_right C (by omega);have e : (i : Int) * (C : Int) = ((i * C : Nat) : Int) := by simp
 have e2 : ((i + 1 : Nat) : Int) * (C : Int) = (((i + 1) * C : Nat) : Int) := by simp
 refine ⟨?_, ?_, h0, Nat.mul_le_mul_right C (by omega)⟩
 . rw [e, A0w (by omega) (by omega)]
 . rw [A0v (by omega), e2, A0w (by omega) (by omega)]
theorem Ae5.val (p : Int) (R C : Nat) (xs : List Int) (hR : R ≤ 4096) (hC : C ≤ 1024) (hl : xs.length = R * C) (i : Nat) (hi : i < R) (r : Int) : Ae5.F ((p, r, (C : Int), xs), (i : Int), ()) = some ((rowL xs C i, ()), ()) := by
 obtain ⟨e1, e2, e3, e4⟩ := A2i hR hC hi;rw [Ae5.eq, Ae5.T, e1, e2, if_pos (by omega)];simp only [cutL, Int.toNat_natCast, rowL]
def A1u (xs : List Int) (R C : Nat) : List (List Int) := (List.range R).map (rowL xs C)
theorem Ad7.val (p : Int) (R C : Nat) (xs : List Int) (hR : R ≤ 4096) (hC : C ≤ 1024) (hl : xs.length = R * C) : Ad7.F ((p, (R : Int), (C : Int), xs), ()) = some ((A1u xs R C, ()), ()) := by
 refine Ad7.of _ _ _ _ ?_;obtain ⟨s, hs, hg⟩ := Goes.loop (R := ((List (List Int) × Unit) × Unit)) (fun k i (s : List (List Int)) => Ad7.l3 k (R : Int) (i : Int) p (R : Int) (C : Int) xs s) R (fun i s => s = (List.range i).map (rowL xs C)) (fun i s hi h2 => ⟨_, rfl, Goes.succ fun k => by
   have hrl := A0c hl hi;rw [Ad7.l3_eq, if_pos (ltI.2 hi), Ae5.val p R C xs hR hC hl i hi];simp only [Option.bind_some];rw [Al3.val _ (by omega)];simp only [Option.bind_some];rw [if_pos (by rw [h2]; simp only [List.length_map, List.length_range, List.length_cons, List.length_nil, bigA]; omega), A0v (by omega), h2, List.range_succ, List.map_append];rfl⟩) 0 [] (Nat.zero_le _) rfl
 refine Ev.of_eq (hg _ ((Ev.const _).succ fun k => ?_)) fun k => rfl;rw [Ad7.l3_eq, if_neg (by simp), hs]; rfl
theorem A1Y (xs : List Int) {R C i : Nat} (hi : i < R) : (A1u xs R C).getD i [] = rowL xs C i := by
 simp [A1u, List.getD_eq_getElem?_getD, hi]
theorem A1E (xs : List Int) (R C : Nat) : (A1u xs R C).length = R := by simp [A1u]
theorem A1O {w : Nat} {R : List (List Int)} (h : ∀ r ∈ R, r.length = w) {i : Nat} (hi : i < R.length) : rowL R.flatten w i = R.getD i [] := by
 have hl : R.flatten.length = R.length * w := by
   clear hi;induction R with
   | nil => simp
   | cons r R ih => rw [List.flatten_cons, List.length_append, ih fun x hx => h x (by simp [hx]), h r (by simp), List.length_cons, Nat.add_mul]; omega
 have h1 := A0c hl hi;have h2 := h _ (A0x [] hi);refine List.ext_getElem (by rw [h1, h2]) fun j hj hj' => ?_;have e1 := A1N (xs := R.flatten) (C := w) (i := i) (k := j) (by omega);rw [A1d h hi (by omega), A0q hj, A0q hj'] at e1;exact e1
theorem A2z {w : Nat} {R : List (List Int)} (h : ∀ r ∈ R, r.length = w) : A1u R.flatten R.length w = R := by
 refine List.ext_getElem (by rw [A1E]) fun i hi hi' => ?_;have e := A1Y R.flatten (R := R.length) (C := w) (i := i) hi';rw [A1O h hi', A0q hi, A0q hi'] at e;exact e
theorem A2c {w : Nat} : ∀ {R : List (List Int)}, (∀ r ∈ R, r.length ≤ w) -> R.flatten.length ≤ R.length * w
 | [], _ => by simp
 | r :: R, h => by
   have := A2c (R := R) fun x hx => h x (by simp [hx]);have := h r (by simp);rw [List.flatten_cons, List.length_append, List.length_cons, Nat.add_mul]; omega
theorem A0Q {w : Nat} {R : List (List Int)} (h : ∀ r ∈ R, r.length ≤ w) (i : Nat) : (R.take i).flatten.length ≤ R.length * w := by
 have := A2c (R := R.take i) fun x hx => h x (List.mem_of_mem_take hx);rw [List.length_take] at this;exact Nat.le_trans this (Nat.mul_le_mul_right w (Nat.min_le_right _ _))
theorem A0f {R : List (List Int)} {i : Nat} (hi : i < R.length) : (R.take (i + 1)).flatten = (R.take i).flatten ++ R.getD i [] := by
 rw [List.take_add_one, List.getElem?_eq_getElem hi, Option.toList_some, List.flatten_append, A0q hi]; simp
theorem Aa3.val {w : Nat} (R : List (List Int)) (hn : R.length ≤ 4096) (hw : w ≤ 256) (h : ∀ r ∈ R, r.length ≤ w) : Aa3.F (R, ()) = some ((R.flatten, ()), ()) := by
 have hb : R.length * w ≤ 4096 * 256 := Nat.mul_le_mul hn hw;refine Aa3.of _ ?_;obtain ⟨s, hs, hg⟩ := Goes.loop (R := ((List Int × Unit) × Unit)) (fun k i (s : Int) => Aa3.l3 k R s R (R.length : Int) (i : Int)) R.length (fun i s => s = (((R.take i).flatten.length : Nat) : Int)) (fun i s hi h2 => ⟨_, rfl, Goes.succ fun k => by
   have h3 := A0Q h i;have h4 := h _ (A0x [] hi);have e : s + ((R.getD i []).length : Int) = (((R.take (i + 1)).flatten.length : Nat) : Int) := by rw [A0f hi, List.length_append, h2]; simp
   have h5 := A0Q h (i + 1);rw [Aa3.l3_eq, if_pos (ltI.2 hi), if_pos (idxI.2 hi), Int.toNat_natCast, e, A0w (by omega) (by omega), if_neg (by simp only [decide_eq_true_eq]; omega), A0v (by omega)]⟩) 0 0 (Nat.zero_le _) (by simp)
 refine Ev.of_eq (hg _ ?_) fun k => by rw [Aa3.T]; rfl
 obtain ⟨t, ht, hg2⟩ := Goes.loop (R := ((List Int × Unit) × Unit)) (fun k i (s : List Int) => Aa3.l11 k R (R.length : Int) (i : Int) s) R.length (fun i s => s = (R.take i).flatten) (fun i s hi h2 => ⟨_, rfl, Goes.succ fun k => by
   have h3 := A0Q h (i + 1);rw [A0f hi, List.length_append] at h3;rw [Aa3.l11_eq, if_pos (ltI.2 hi), if_pos (idxI.2 hi), Int.toNat_natCast, h2, if_pos (by simp only [bigA]; omega), A0v (by omega), A0f hi]⟩) 0 [] (Nat.zero_le _) (by simp)
 refine Ev.succ (hg2 _ ((Ev.const _).succ fun k => ?_)) fun k => ?_
 . rw [Aa3.l11_eq, if_neg (by simp), ht, List.take_length]
 . have h3 := A0Q h R.length;rw [Aa3.l3_eq, if_neg (by simp), hs, if_pos (by simp only [bigN]; omega)]; rfl
theorem Ak4.gen {p : Int} {h w : Nat} (hp : 2 ≤ p /\ p ≤ 251) (hh : h ≤ 4096) (hw : w ≤ 256) {R : List (List Int)} (o : RowsOk p h w R) : Ak4.F ((p, (h : Int), (w : Int), R.flatten), ()) = some (((((gjN p w R w).2.length : Nat) : Int), ()), ()) := by
 obtain ⟨d1, e1⟩ := Ab9.val hp hh hw o;have e0 := Ad7.val p h w R.flatten (by omega) (by omega) (by have := o.flatLen; omega);have e2 := A2z fun r hr => (o.row r hr).1;rw [o.len] at e2;rw [e2] at e0;rw [Ak4.eq, Ak4.T, e0];simp only [Option.bind_some, e1];rw [Ab1.eq, Ab1.T]; rfl
theorem Ai4.val {p : Int} {w : Nat} (hw : w ≤ 256) {R : List (List Int)} (hn : R.length ≤ 4096) (h : ∀ r ∈ R, r.length ≤ w) : Ai4.F (p, (w : Int), R, ()) = some (((p, (R.length : Int), (w : Int), R.flatten), ()), ()) := by
 have hb : R.length * w ≤ 4096 * 256 := Nat.mul_le_mul hn hw;refine Ai4.of _ _ _ ?_;obtain ⟨t, ht, hg2⟩ := Goes.loop (R := (((Int × Int × Int × List Int) × Unit) × Unit)) (fun k i (s : List Int) => Ai4.l3 k R (i : Int) 0 0 0 [] p (R.length : Int) (w : Int) s) R.length (fun i s => s = (R.take i).flatten) (fun i s hi h2 => ⟨_, rfl, Goes.succ fun k => by
   have h3 := A0Q h (i + 1);rw [A0f hi, List.length_append] at h3;rw [Ai4.l3_eq, if_pos (ltI.2 hi), if_pos (idxI.2 hi), Int.toNat_natCast, h2, if_pos (by simp only [bigA]; omega), A0v (by omega), A0f hi]⟩) 0 [] (Nat.zero_le _) (by simp)
 refine Ev.of_eq (hg2 _ ((Ev.const _).succ fun k => ?_)) fun k => rfl;rw [Ai4.l3_eq, if_neg (by simp), ht, List.take_length]
theorem Ag3.val {p : Int} {h w : Nat} (hp : 2 ≤ p /\ p ≤ 251) (hh : h ≤ 4096) (hw : w ≤ 256) {R : List (List Int)} (o : RowsOk p h w R) : Ag3.F (p, (w : Int), R, ()) = some (((List.range (gjN p w R w).2.length).map fun i => (gjN p w R w).1.getD i [], ()), ()) := by
 obtain ⟨d2, e2⟩ := Aa0.val hp hh hw o;have e1 := Ai4.val (p := p) hw (R := R) (by rw [o.len]; exact hh) fun r hr => Nat.le_of_eq (o.row r hr).1;rw [o.len] at e1;obtain ⟨o2, hl⟩ := A2d hp.1 o w;have hfl := o2.flatLen;have hb : h * w ≤ 4096 * 256 := Nat.mul_le_mul hh hw;refine Ag3.of _ _ _ (Ev.of_eq (N := fun k => Ag3.l5 k (w : Int) (0 : Int) p (h : Int) (w : Int) (gjN p w R w).1.flatten (gjN p w R w).2 []) ?_ fun k => by rw [Ag3.T, e1]; simp only [Option.bind_some]; rw [e2]; simp only [Option.bind_some]);obtain ⟨t, ht, hg⟩ := Goes.loop (R := ((List (List Int) × Unit) × Unit)) (fun k i (s : List (List Int)) => Ag3.l5 k (w : Int) (i : Int) p (h : Int) (w : Int) (gjN p w R w).1.flatten (gjN p w R w).2 s) (gjN p w R w).2.length (fun i s => s = (List.range i).map fun i => (gjN p w R w).1.getD i []) (fun i s hi h2 => ⟨_, rfl, Goes.succ fun k => by
   obtain ⟨f1, f2, f3, f4⟩ := A2i (R := h) (C := w) (i := i) hh (by omega) (by omega);have hcut : cutL (gjN p w R w).1.flatten ((i * w : Nat) : Int) (((i + 1) * w : Nat) : Int) = (gjN p w R w).1.getD i [] := by
     have := A1O (R := (gjN p w R w).1) (w := w) (fun r hr => (o2.row r hr).1) (i := i) (by rw [o2.len]; omega);rw [<- this]; simp only [cutL, Int.toNat_natCast, rowL]
   have h3 := (o2.at (i := i) (by omega)).1;rw [Ag3.l5_eq, if_pos (ltI.2 hi), f1, f2, if_pos (by omega), hcut, Ac2.val _ (by omega)];simp only [Option.bind_some];rw [if_pos (by rw [h2]; simp only [List.length_map, List.length_range, List.length_cons, List.length_nil, bigA]; omega), A0v (by omega), h2, List.range_succ, List.map_append];rfl⟩) 0 [] (Nat.zero_le _) rfl
 refine hg _ ((Ev.const _).succ fun k => ?_);rw [Ag3.l5_eq, if_neg (by simp), ht]
def mulM (a b : MatV) : MatV := (a.1, a.2.1, b.2.2.1, A0d a.2.1.toNat b.2.2.1.toNat fun i j => sumN (fun k => a.2.2.2.getD (i * a.2.2.1.toNat + k) 0 * b.2.2.2.getD (k * b.2.2.1.toNat + j) 0) a.2.2.1.toNat % a.1)
theorem mulM_ok {a b : MatV} (ha : MatOk a) (hb : MatOk b) : MatOk (mulM a b) := by
 obtain ⟨R, C, h1, h2, h3, h4, h5, h6, h7⟩ := ha.nat;obtain ⟨R', C', k1, k2, k3, k4, k5, k6, k7⟩ := hb.nat;refine ⟨ha.1, ha.2.1, hb.2.2.1, ?_, fun x hx => ?_⟩
 . simp only [mulM, A0A, h1, k2, Int.toNat_natCast]; simp
 . simp only [mulM, A0d, List.mem_flatMap, List.mem_map] at hx;obtain ⟨i, _, j, _, rfl⟩ := hx;exact A1R h6.1
theorem Ak1.val (p : Int) (R C : Nat) (xs : List Int) (hm : MatOk (p, (R : Int), (C : Int), xs)) : Ak1.F ((p, (R : Int), (C : Int), xs), ()) = some ((A1u (A1z (p, (R : Int), (C : Int), xs)).2.2.2 C R, ()), ()) := by
 have hR : (R : Int) ≤ 32 := hm.2.1.2;have hC : (C : Int) ≤ 32 := hm.2.2.1.2;have ht := Ak5.val _ hm;rw [Ak1.eq, Ak1.T, ht];simp only [Option.bind_some];have := Ad7.val p C R (A1z (p, (R : Int), (C : Int), xs)).2.2.2 (by omega) (by omega) (by simp only [A1z, A0A, Int.toNat_natCast]);rw [show A1z (p, (R : Int), (C : Int), xs) = (p, (C : Int), (R : Int), (A1z (p, (R : Int), (C : Int), xs)).2.2.2) from rfl, this];rfl
theorem A2s (p : Int) (R C : Nat) (xs : List Int) {i j : Nat} (hi : i < C) (hj : j < R) : (A1z (p, (R : Int), (C : Int), xs)).2.2.2.getD (i * R + j) 0 = xs.getD (j * C + i) 0 := by
 simp only [A1z, Int.toNat_natCast];rw [A1T _ _ _ hi hj]
theorem Ah8.val (a b : MatV) (ha : MatOk a) (hb : MatOk b) (hp : a.1 = b.1) (hs : a.2.2.1 = b.2.1) : Ah8.F (a, b, ()) = some ((mulM a b, ()), ()) := by
 obtain ⟨R, C, h1, h2, h3, h4, h5, h6, h7⟩ := ha.nat;obtain ⟨R', C', k1, k2, k3, k4, k5, k6, k7⟩ := hb.nat;obtain ⟨p, r, c, xs⟩ := a;obtain ⟨q, r', c', ys⟩ := b;simp only [] at h1 h2 h5 h6 h7 k1 k2 k5 k6 k7 hp hs;subst h1 h2 k1 k2 hp;obtain rfl : C = R' := by omega
 have htk := A3j hb;have hal : A0N 0 (p - 1) (A1z (p, (C : Int), (C' : Int), ys)).2.2.2 := htk.2.2.2.2;rw [Ah8.eq, Ah8.T, Ak1.val p C C' ys hb];simp only [Option.bind_some];rw [Ac8.val p R C' _ (fun i j => sumN (fun k => xs.getD (i * C + k) 0 * ys.getD (k * C' + j) 0) C % p) h3 k4 (fun i j hi hj => by
   show (Am7.F ((i : Int), (j : Int), (p, (R : Int), (C : Int), xs), A1u (A1z (p, (C : Int), (C' : Int), ys)).2.2.2 C' C, ())).map (·.1) = _;have l1 := A0c h5 hi;have l2 : (rowL (A1z (p, (C : Int), (C' : Int), ys)).2.2.2 C j).length = C := A0c (R := C') (by simp only [A1z, A0A, Int.toNat_natCast]) hj;rw [Am7.eq, Am7.T, Ae5.val p R C xs (by omega) (by omega) h5 i hi];simp only [Option.bind_some, Int.toNat_natCast];rw [if_pos (by rw [A1E]; omega), A1Y _ hj, Ah6.val _ _ p h6 (fun x hx => h7 x (A2O hx)) (fun x hx => hal x (A2O hx)) (by omega) (by omega)];simp only [Option.bind_some, Option.map_some, l1];congr 3;refine A2V fun k hk => ?_;rw [dotE, A1N hk, A1N hk, A2s p C C' ys hj hk])]
 simp only [Option.bind_some, mulM, Int.toNat_natCast]
theorem Al5.val (p : Int) (R C : Nat) (hR : R ≤ 1024) (hC : C ≤ 1024) : Al5.F (p, (R : Int), (C : Int), ()) = some (((p, (R : Int), (C : Int), List.replicate (R * C) 0), ()), ()) := by
 have h1 : R * C ≤ 1024 * 1024 := Nat.mul_le_mul hR hC;have e : (R : Int) * (C : Int) = ((R * C : Nat) : Int) := by simp
 rw [Al5.eq, Al5.T, e, A0w (by omega) (by omega), if_pos (by simp only [bigN]; omega)];simp only [Int.toNat_natCast]
theorem Ac5.val (a b : MatV) (ha : MatOk a) (hb : MatOk b) (hp : a.1 = b.1) (hs : a.2.2.1 = b.2.1) : Ac5.F (a, b, ()) = some ((mulM a b, ()), ()) := by
 obtain ⟨R, C, h1, h2, h3, h4, h5, h6, h7⟩ := ha.nat;obtain ⟨R', C', k1, k2, k3, k4, k5, k6, k7⟩ := hb.nat;obtain ⟨p, r, c, xs⟩ := a;obtain ⟨q, r', c', ys⟩ := b;simp only [] at h1 h2 h5 h6 h7 k1 k2 k5 k6 k7 hp hs;subst h1 h2 k1 k2 hp;obtain rfl : C = R' := by omega
 obtain ⟨f, hf⟩ : ∃ f : Nat -> Nat -> Nat -> Int, f = fun i j k => xs.getD (i * C + k) 0 * ys.getD (k * C' + j) 0 := ⟨_, rfl⟩;have hfb : ∀ i j k, i < R -> j < C' -> k < C -> 0 ≤ f i j k /\ f i j k ≤ ((62500 : Nat) : Int) := fun i j k hi hj hk => by
   rw [hf];have e1 := rowLt hi hk;have e2 := rowLt hk hj;exact A1S h6 (A0D h7 (by omega)) (A0D k7 (by omega))
 have hsb : ∀ i j n, i < R -> j < C' -> n ≤ C -> 0 ≤ sumN (f i j) n /\ sumN (f i j) n ≤ 2000000 := fun i j n hi hj hn => by
   have := sumN_bd (f := f i j) (n := n) fun k hk => hfb i j k hi hj (by omega);omega
 obtain ⟨y, hy1, hy2, -, hg⟩ := Goes.fillSet (R := ((MatV × Unit) × Unit)) (fun k i x => Ac5.l3 k p (R : Int) (C : Int) xs p (C : Int) (C' : Int) ys (i : Int) 0 0 0 [] p (R : Int) (C' : Int) x)
   (fun k i j x => Ac5.l6 k p (R : Int) (C : Int) xs p (C : Int) (C' : Int) ys (i : Int) (j : Int) 0 0 0 [] p (R : Int) (C' : Int) x) R C' (R * C') (fun i j => sumN (f i j) C % p) (fun i j => i * C' + j)
   (fun i j hi hj => rowLt hi hj) (fun i j i' j' _ hj _ hj' he => rowInj _ _ _ _ hj hj' he)
   (fun i x hi hx => Goes.succ fun k => by rw [Ac5.l3_eq, if_pos (ltI.2 hi)]; rfl)
   (fun i j x hi hj hx => by
     refine (Goes.succ fun k => by rw [Ac5.l6_eq, if_pos (ltI.2 hj)]).trans ?_;obtain ⟨s, hs, hg⟩ := Goes.loop (R := ((MatV × Unit) × Unit)) (fun n k (s : Int) => Ac5.l10 n p (R : Int) (C : Int) xs p (C : Int) (C' : Int) ys (i : Int) (j : Int) s (k : Int) 0 0 0 [] p (R : Int) (C' : Int) x) C (fun k s => s = sumN (f i j) k) (fun k s hk h8 => ⟨_, rfl, Goes.succ fun n => by
       obtain ⟨e1, e2⟩ := A1M h3 h4 hi hk;obtain ⟨e3, e4⟩ := A1M h4 k4 hk hj;have b1 := hfb i j k hi hj hk;have b2 := hsb i j k hi hj (by omega);rw [Ac5.l10_eq, if_pos (ltI.2 hk), e1, if_pos (by omega), e3, if_pos (by omega), A0v (by omega), h8];simp only [Int.toNat_natCast];have ef : xs.getD (i * C + k) 0 * ys.getD (k * C' + j) 0 = f i j k := by rw [hf]
       rw [ef, A0w (x := f i j k) (by omega) (by omega), A0w (by omega) (by omega)];rfl⟩) 0 0 (Nat.zero_le _) rfl
     refine hg.trans (Goes.succ fun n => ?_);obtain ⟨e5, e6⟩ := A1M h3 k4 hi hj;have b2 := hsb i j C hi hj (Nat.le_refl _);rw [Ac5.l10_eq, if_neg (by simp), if_neg (by omega), e5, if_pos (by omega), A0v (by omega), hs, A2j b2.1];simp only [Int.toNat_natCast])
   (fun i x hi hx => Goes.succ fun k => by rw [Ac5.l6_eq, if_neg (by simp), A0v (by omega)]) (List.replicate (R * C') 0) (by simp)
 have hy : y = A0d R C' fun i j => sumN (fun k => xs.getD (i * C + k) 0 * ys.getD (k * C' + j) 0) C % p := A2u hy1 fun i j hi hj => by rw [hy2 i j hi hj, hf]
 refine Ac5.of _ _ _ _ _ _ _ _ (Ev.of_eq (hg _ ((Ev.const _).succ fun k => ?_)) fun k => ?_)
 . rw [Ac5.l3_eq, if_neg (by simp), hy]; simp only [mulM, Int.toNat_natCast]
 . rw [Ac5.T, Al5.val p R C' (by omega) (by omega)]; rfl
def lexc : List Int -> List Int -> Int
 | [], [] => 0
 | [], _ :: _ => -1
 | _ :: _, [] => 1
 | a :: u, b :: v => if cmpI a b ≠ 0 then cmpI a b else lexc u v
theorem A0k (x y : Int) : (x < y /\ cmpI x y = -1) ∨ (x = y /\ cmpI x y = 0) ∨ (y < x /\ cmpI x y = 1) := by
 unfold cmpI;by_cases h : x < y
 . exact .inl ⟨h, if_pos h⟩
 . by_cases h2 : x > y
   . exact .inr (.inr ⟨h2, by rw [if_neg h, if_pos h2]⟩)
   . exact .inr (.inl ⟨by omega, by rw [if_neg h, if_neg h2]⟩)
theorem A1o : ∀ (a b : List Int), lexc a b = 0 ↔ a = b
 | [], [] => by simp [lexc]
 | [], _ :: _ => by simp [lexc]
 | _ :: _, [] => by simp [lexc]
 | a :: u, b :: v => by
   rcases A0k a b with ⟨h, e⟩ | ⟨h, e⟩ | ⟨h, e⟩
   . simp [lexc, e]; intro h'; omega
   . subst h; simp [lexc, e, A1o u v]
   . simp [lexc, e]; intro h'; omega
theorem A1U : ∀ (a b c : List Int), lexc a b < 0 -> lexc b c < 0 -> lexc a c < 0
 | [], [], c, h1, _ => by simp [lexc] at h1
 | [], _ :: _, [], _, h2 => by simp [lexc] at h2
 | [], _ :: _, _ :: _, _, _ => by simp [lexc]
 | _ :: _, [], c, h1, _ => by simp [lexc] at h1
 | _ :: _, _ :: _, [], _, h2 => by simp [lexc] at h2
 | a :: u, b :: v, c :: w, h1, h2 => by
   have ih := A1U u v w;simp only [lexc] at h1 h2 ⊢;rcases A0k a b with ⟨g1, e1⟩ | ⟨g1, e1⟩ | ⟨g1, e1⟩ <;> rcases A0k b c with ⟨g2, e2⟩ | ⟨g2, e2⟩ | ⟨g2, e2⟩ <;> rcases A0k a c with ⟨g3, e3⟩ | ⟨g3, e3⟩ | ⟨g3, e3⟩ <;> simp [e1, e2, e3] at h1 h2 ⊢ <;> first | omega | exact ih h1 h2
def cmpS (a b : List Int) : Int := if cmpI a.length b.length ≠ 0 then cmpI a.length b.length else lexc a b
theorem A0O (a b : List Int) : cmpS a b = 0 ↔ a = b := by
 unfold cmpS;rcases A0k a.length b.length with ⟨h, e⟩ | ⟨h, e⟩ | ⟨h, e⟩
 . simp [e]; intro h'; rw [h'] at h; omega
 . simp [e, A1o]
 . simp [e]; intro h'; rw [h'] at h; omega
theorem A0h (a b c : List Int) (h1 : cmpS a b < 0) (h2 : cmpS b c < 0) : cmpS a c < 0 := by
 unfold cmpS at *;rcases A0k a.length b.length with ⟨g1, e1⟩ | ⟨g1, e1⟩ | ⟨g1, e1⟩ <;> rcases A0k b.length c.length with ⟨g2, e2⟩ | ⟨g2, e2⟩ | ⟨g2, e2⟩ <;> rcases A0k a.length c.length with ⟨g3, e3⟩ | ⟨g3, e3⟩ | ⟨g3, e3⟩ <;> simp [e1, e2, e3] at h1 h2 ⊢ <;> first | omega | exact A1U a b c h1 h2
theorem A2R {a b : List Int} (h : a.length < b.length) : cmpS a b < 0 := by
 unfold cmpS;rcases A0k a.length b.length with ⟨g, e⟩ | ⟨g, e⟩ | ⟨g, e⟩
 . simp [e]
 . omega
 . omega
theorem Aj0.val (x y : Int) : Aj0.F (x, y, ()) = some ((cmpI x y, ()), ()) := by
 rw [Aj0.eq, Aj0.T, Aj2.eq, Aj2.T, Aj2.eq, Aj2.T];simp only [Option.bind_some, bne_self_eq_false, Bool.false_eq_true, if_false, decide_eq_true_eq, cmpI]
 repeat' split
 all_goals rfl
theorem A1n {a b : List Int} {i : Nat} (ha : i < a.length) (hb : i < b.length) : lexc (a.drop i) (b.drop i) = if cmpI (a.getD i 0) (b.getD i 0) ≠ 0 then cmpI (a.getD i 0) (b.getD i 0) else lexc (a.drop (i + 1)) (b.drop (i + 1)) := by
 rw [List.drop_eq_getElem_cons ha, List.drop_eq_getElem_cons hb, A0q ha, A0q hb]; rfl
theorem Ah2.val (a b : List Int) (ha : a.length ≤ 1048576) (hb : b.length ≤ 1048576) : Ah2.F (a, b, ()) = some ((lexc a b, ()), ()) := by
 obtain ⟨r, hr, hq⟩ := Ev.loop (σ := Unit) (R := (Int × Unit) × Unit) (fun k i _ => Ah2.l2 k a b a a.length (i : Int)) a.length (fun i _ => i ≤ b.length /\ lexc a b = lexc (a.drop i) (b.drop i)) (fun r => r = ((lexc a b, ()), ()))
   (fun i s hi ⟨h1, h2⟩ => by
     have E := fun k => Ah2.l2_eq k a b a a.length (i : Int);simp only [if_pos (ltI.2 hi), if_pos (idxI.2 hi), Int.toNat_natCast, A0v (show i < 4611686018427387904 by omega)] at E;by_cases hib : i < b.length
     . simp only [if_neg (show ¬ decide ((i : Int) ≥ (b.length : Int)) = true by simp; omega), if_pos (idxI.2 hib), Aj1.val, Option.bind_some] at E;have hd := A1n hi hib;obtain ⟨cc, hcc⟩ : ∃ cc, cmpI (a.getD i 0) (b.getD i 0) = cc := ⟨_, rfl⟩;rw [hcc] at hd;simp only [hcc] at E;by_cases hc : cc = 0
       . refine .inr ⟨(), ⟨by omega, by rw [h2, hd, if_neg (by simp [hc])]⟩, Goes.succ fun k => by rw [E, if_neg (by simp [hc])]⟩
       . exact .inl ⟨_, (Ev.const _).succ fun k => by rw [E, if_pos (by simp [hc])], by rw [h2, hd, if_pos hc]⟩
     . refine .inl ⟨_, (Ev.const _).succ fun k => by rw [E, if_pos (by simp; omega)], ?_⟩;rw [h2, List.drop_eq_getElem_cons hi, List.drop_of_length_le (show b.length ≤ i by omega)]; rfl)
   (fun s ⟨h1, h2⟩ => by
     by_cases hl : a.length < b.length
     . refine ⟨_, (Ev.const _).succ fun k => by rw [Ah2.l2_eq, if_neg (by simp), if_pos (by simp; omega)], ?_⟩;rw [h2, List.drop_of_length_le (Nat.le_refl _), List.drop_eq_getElem_cons hl]; rfl
     . refine ⟨_, (Ev.const _).succ fun k => by rw [Ah2.l2_eq, if_neg (by simp), if_neg (by simp; omega)], ?_⟩;rw [h2, List.drop_of_length_le (Nat.le_refl _), List.drop_of_length_le (by omega)]; rfl) 0 () (Nat.zero_le _) ⟨Nat.zero_le _, rfl⟩
 subst hq;exact Ah2.of _ _ (hr.of_eq fun k => rfl)
theorem Ac7.val (a b : List Int) (ha : a.length ≤ 1048576) (hb : b.length ≤ 1048576) : Ac7.F (a, b, ()) = some ((cmpS a b, ()), ()) := by
 rw [Ac7.eq, Ac7.T, Aj0.val, Ah2.val a b ha hb];simp only [Option.bind_some, Af8.val2, cmpS]
theorem Af5.val (a b : List Int) (ha : a.length ≤ 1048576) : Af5.F (a, b, ()) = some ((decide (cmpS a b < 0), ()), ()) := by
 by_cases hl : a.length = b.length
 . obtain ⟨r, hr, hq⟩ := Ev.loop (σ := Unit) (R := (Bool × Unit) × Unit) (fun k i _ => Af5.l4 k a b (i : Int)) a.length (fun i _ => lexc a b = lexc (a.drop i) (b.drop i)) (fun r => r = ((decide (lexc a b < 0), ()), ()))
     (fun i s hi h2 => by
       have hib : i < b.length := by omega
       have E := fun k => Af5.l4_eq k a b (i : Int);simp only [if_pos (ltI.2 hi), if_pos (idxI.2 hi), if_pos (idxI.2 hib), Int.toNat_natCast, A0v (show i < 4611686018427387904 by omega)] at E;have hd := A1n hi hib;obtain ⟨ai, hai⟩ : ∃ ai, a.getD i 0 = ai := ⟨_, rfl⟩;obtain ⟨bi, hbi⟩ : ∃ bi, b.getD i 0 = bi := ⟨_, rfl⟩;rw [hai, hbi] at hd;simp only [hai, hbi] at E;rcases A0k ai bi with ⟨g, e⟩ | ⟨g, e⟩ | ⟨g, e⟩
       . refine .inl ⟨_, (Ev.const _).succ fun k => by rw [E, if_pos (by simp; omega)], ?_⟩;rw [h2, hd, if_pos (by rw [e]; omega), e]; simp [g]
       . exact .inr ⟨(), by rw [h2, hd, if_neg (by rw [e]; simp)], Goes.succ fun k => by rw [E, if_neg (by simp [g])]⟩
       . refine .inl ⟨_, (Ev.const _).succ fun k => by rw [E, if_pos (by simp; omega)], ?_⟩;rw [h2, hd, if_pos (by rw [e]; omega), e]; simp; omega)
     (fun s h2 => ⟨_, (Ev.const _).succ fun k => by rw [Af5.l4_eq, if_neg (by simp)], by rw [h2, List.drop_of_length_le (Nat.le_refl _), List.drop_of_length_le (by omega)]; rfl⟩) 0 () (Nat.zero_le _) rfl
   subst hq;refine Af5.of _ _ (hr.of_eq fun k => ?_) |>.trans ?_
   . rw [Af5.T, if_neg (by simp [hl])]; rfl
   . have : cmpS a b = lexc a b := by
       unfold cmpS;rcases A0k a.length b.length with ⟨g, e⟩ | ⟨g, e⟩ | ⟨g, e⟩
       . omega
       . simp [e]
       . omega
     rw [this]
 . have : decide (cmpS a b < 0) = decide ((a.length : Int) < (b.length : Int)) := by
     unfold cmpS;rcases A0k a.length b.length with ⟨g, e⟩ | ⟨g, e⟩ | ⟨g, e⟩
     . simp [e]; omega
     . omega
     . simp [e]; omega
   rw [this];exact Af5.of _ _ ((Ev.const _).of_eq fun k => by rw [Af5.T, if_pos (by simp; omega)])
def A0e (xs : List (List Int)) : Prop := ∀ i j, i < j -> j < xs.length -> cmpS (xs.getD i []) (xs.getD j []) < 0
theorem A1Z {xs : List (List Int)} (h : ∀ i, 0 < i -> i < xs.length -> cmpS (xs.getD (i - 1) []) (xs.getD i []) < 0) : A0e xs := by
 intro i j;induction j with
 | zero => intro h1; omega
 | succ j ih =>
   intro h1 h2;have h3 := h (j + 1) (by omega) h2;simp only [Nat.add_sub_cancel] at h3;by_cases hij : i = j
   . rw [hij]; exact h3
   . exact A0h _ _ _ (ih (by omega) (by omega)) h3
theorem wrapU {x : Int} (h1 : 0 ≤ x) (h2 : x < 18446744073709551616) : IntKind.u64.wrap x = x := by
 have e : (2 : Int) ^ (IntKind.u64).bits = 18446744073709551616 := by decide
 unfold IntKind.wrap;simp only [e, show IntKind.u64.signed = false from rfl, Bool.false_and, Bool.false_eq_true, if_false];omega
theorem midI {i j : Nat} (h : i + j < 4611686018427387904) : IntKind.i64.wrap ((IntKind.u64.wrap (IntKind.i64.wrap ((i : Int) + (j : Int)))).fdiv (2 ^ (min (1 : Int).toNat IntKind.u64.bits))) = (((i + j) / 2 : Nat) : Int) := by
 rw [A0w (x := (i : Int) + (j : Int)) (by omega) (by omega), wrapU (by omega) (by omega)];have e : (2 : Int) ^ (min (1 : Int).toNat IntKind.u64.bits) = ((2 : Nat) : Int) := by decide
 rw [e, show (i : Int) + (j : Int) = ((i + j : Nat) : Int) by omega, <- Int.ofNat_fdiv, A0w (by omega) (by omega)]
theorem binSearch.val (xs : List (List Int)) (t : List Int) (hs : A0e xs) (h1 : SmL xs) (h2 : t.length ≤ 1048576) :
   ∃ r : Int, ∃ b : Bool, Al2.F (xs, t, Ac7.cloG (()), ()) = some ((r, (b, ())), ()) /\ 0 ≤ r /\ (b = true ↔ t ∈ xs) /\ (b = true -> r.toNat < xs.length /\ xs.getD r.toNat [] = t) := by
 have hn := h1.1;have hcmp : ∀ i, i < xs.length -> Ac7.cloG (()) (xs.getD i [], t, ()) = some (cmpS (xs.getD i []) t, ()) := fun i hi => by
   show (Ac7.F (xs.getD i [], t, ())).map (·.1) = _;rw [Ac7.val _ _ (h1.2 _ (A0x _ hi)) h2]; rfl
 have key : ∀ d i j : Nat, j - i ≤ d -> i ≤ j -> j ≤ xs.length -> (∀ m, m < i -> cmpS (xs.getD m []) t < 0) -> (∀ m, j ≤ m -> m < xs.length -> ¬ cmpS (xs.getD m []) t < 0) →
     ∃ r : Int, ∃ b : Bool, Ev (fun k => Al2.l3 k xs t (Ac7.cloG (())) xs.length (i : Int) (j : Int)) ((r, (b, ())), ()) /\ 0 ≤ r /\ (b = true ↔ t ∈ xs) /\ (b = true -> r.toNat < xs.length /\ xs.getD r.toNat [] = t) := by
   intro d;induction d with
   | zero =>
     intro i j hd hij hj hlo hhi;obtain rfl : i = j := by omega
     have E := fun k => Al2.l3_eq k xs t (Ac7.cloG (())) xs.length (i : Int) (i : Int);simp only [if_neg (show ¬ decide ((i : Int) < (i : Int)) = true by simp)] at E;by_cases hi : i < xs.length
     . simp only [if_pos (ltI.2 hi), if_pos (idxI.2 hi), Int.toNat_natCast, hcmp i hi, Option.bind_some] at E;refine ⟨_, _, (Ev.const _).succ E, by omega, ?_, fun hb => ?_⟩
       rotate_left
       . simp only [beq_iff_eq, A0O] at hb;rw [Int.toNat_natCast]; exact ⟨hi, hb⟩
       simp only [beq_iff_eq, A0O];refine ⟨fun h => h ▸ A0x [] hi, fun h => ?_⟩;obtain ⟨m, hm, e⟩ := List.getElem_of_mem h;have e' : xs.getD m [] = t := by rw [A0q hm]; exact e
       rcases Nat.lt_trichotomy m i with h3 | h3 | h3
       . have := hlo m h3;rw [e', (A0O t t).2 rfl] at this; omega
       . rw [<- h3]; exact e'
       . have := hs i m h3 hm;rw [e'] at this;exact absurd this (hhi i (Nat.le_refl _) hi)
     . simp only [if_neg (show ¬ decide ((i : Int) < (xs.length : Int)) = true by simp; omega)] at E;refine ⟨_, _, (Ev.const _).succ E, by omega, ?_, fun hb => by cases hb⟩;simp only [Bool.false_eq_true, false_iff];intro h;obtain ⟨m, hm, e⟩ := List.getElem_of_mem h;have e' : xs.getD m [] = t := by rw [A0q hm]; exact e
       have := hlo m (by omega);rw [e', (A0O t t).2 rfl] at this; omega
   | succ d ih =>
     intro i j hd hij hj hlo hhi;by_cases he : i = j
     . exact ih i j (by omega) hij hj hlo hhi
     have E := fun k => Al2.l3_eq k xs t (Ac7.cloG (())) xs.length (i : Int) (j : Int);have hm : (i + j) / 2 < xs.length := by omega
     simp only [if_pos (show decide ((i : Int) < (j : Int)) = true by simp; omega), if_neg (show ¬ (1 : Int) < 0 by omega), midI (show i + j < 4611686018427387904 by omega), if_pos (idxI.2 hm), Int.toNat_natCast, hcmp _ hm, Option.bind_some, A0v (show (i + j) / 2 < 4611686018427387904 by omega)] at E;by_cases hc : cmpS (xs.getD ((i + j) / 2) []) t < 0
     . obtain ⟨r, b, hr, h⟩ := ih ((i + j) / 2 + 1) j (by omega) (by omega) hj (fun m hm2 => by
         by_cases h3 : m = (i + j) / 2
         . rw [h3]; exact hc
         . exact A0h _ _ _ (hs m ((i + j) / 2) (by omega) hm) hc) hhi
       exact ⟨r, b, hr.succ fun k => by rw [E, if_pos (by simpa using hc)], h⟩
     . obtain ⟨r, b, hr, h⟩ := ih i ((i + j) / 2) (by omega) (by omega) (by omega) hlo (fun m hm2 hm3 h4 => by
         by_cases h3 : m = (i + j) / 2
         . rw [h3] at h4; exact hc h4
         . exact hc (A0h _ _ _ (hs ((i + j) / 2) m (by omega) hm3) h4))
       exact ⟨r, b, hr.succ fun k => by rw [E, if_neg (by simpa using hc)], h⟩
 obtain ⟨r, b, hr, h⟩ := key xs.length 0 xs.length (by omega) (Nat.zero_le _) (Nat.le_refl _) (fun m hm => by omega) (fun m h3 h4 => by omega);exact ⟨r, b, Al2.of _ _ _ (hr.of_eq fun k => rfl), h⟩
theorem Ac9.val (xs : List (List Int)) (t : List Int) (hs : A0e xs) (h1 : SmL xs) (h2 : t.length ≤ 1048576) : ∃ r : Int, Ac9.F (xs, t, ()) = some ((r, ()), ()) /\ (r < 0 ↔ t ∉ xs) := by
 obtain ⟨r, b, hr, h3, h4, -⟩ := binSearch.val xs t hs h1 h2;rw [Ac9.eq, Ac9.T, hr];simp only [Option.bind_some];cases b with
 | true => exact ⟨r, by rw [if_neg (by simp)], by simp [h4.1 rfl]; omega⟩
 | false => exact ⟨-1, by rw [if_pos (by simp)], by simp; intro h; exact absurd (h4.2 h) (by simp)⟩
theorem A1a {xs : List (List Int)} (hs : A0e xs) {i j : Nat} (hi : i < xs.length) (hj : j < xs.length) (h : xs.getD i [] = xs.getD j []) : i = j := by
 rcases Nat.lt_trichotomy i j with h1 | h1 | h1
 . have := hs i j h1 hj;rw [h, (A0O _ _).2 rfl] at this; omega
 . exact h1
 . have := hs j i h1 hi;rw [h, (A0O _ _).2 rfl] at this; omega
theorem Ac9.val2 (xs : List (List Int)) (j : Nat) (hj : j < xs.length) (hs : A0e xs) (h1 : SmL xs) : Ac9.F (xs, xs.getD j [], ()) = some (((j : Int), ()), ()) := by
 obtain ⟨r, b, hr, h3, h4, h5⟩ := binSearch.val xs (xs.getD j []) hs h1 (h1.2 _ (A0x _ hj));have hb : b = true := h4.2 (A0x _ hj);obtain ⟨h6, h7⟩ := h5 hb;have := A1a hs h6 hj h7;rw [Ac9.eq, Ac9.T, hr, hb];simp only [Option.bind_some, Bool.not_true, Bool.false_eq_true, if_false];rw [show r = (j : Int) by omega]
theorem Ac3.same (xs ys : List Int) (h : Sm xs) : ∃ b, Ac3.F (xs, ys, ()) = some ((b, ()), ()) /\ (b = true ↔ xs = ys) := by
 have hn : xs.length ≤ 1048576 := h;by_cases hl : xs.length = ys.length
 . obtain ⟨b, hb, hb'⟩ := A0U (fun k i => Ac3.l4 k xs ys (i : Int)) xs ys 0 hl (fun i hi => ⟨xs.getD i 0 == ys.getD i 0, by simp, fun k => by
     rw [Ac3.l4_eq, if_pos (ltI.2 hi), if_pos (idxI.2 hi), if_pos (idx2 (hl ▸ hi))]; simp only [Int.toNat_natCast]; rw [A0v (by omega)]; rfl⟩) (fun k => by rw [Ac3.l4_eq, if_neg (by simp)])
   exact ⟨b, Ac3.of _ _ (hb.of_eq fun k => by rw [Ac3.T, if_neg (by simp [hl])]; rfl), hb'⟩
 . exact ⟨false, Ac3.of _ _ ((Ev.const _).of_eq fun k => by rw [Ac3.T, if_pos (by simp; omega)]), by simp; intro e; exact hl (by rw [e])⟩
def A0B (s : List Int) (k : Nat) : List Int := s.take k ++ s.drop (k + 1)
theorem A0b {s : List Int} {k : Nat} (h : k < s.length) : (A0B s k).length = s.length - 1 := by simp [A0B]; omega
def A1D (s : List Int) : Prop := (1 ≤ s.length /\ s.length ≤ 4) /\ A0N 0 9 s /\ A2Y s
def CplxOk (c : List (List Int)) : Prop := c.length ≤ 48 /\ ∀ i, i < c.length -> A1D (c.getD i []) /\ (0 < i -> cmpS (c.getD (i - 1) []) (c.getD i []) < 0) /\ (1 < (c.getD i []).length -> ∀ k, k < (c.getD i []).length -> A0B (c.getD i []) k ∈ c)
theorem CplxOk.sorted {c : List (List Int)} (h : CplxOk c) : A0e c := A1Z fun i h0 hi => (h.2 i hi).2.1 h0
theorem CplxOk.small {c : List (List Int)} (h : CplxOk c) : SmL c := ⟨by have := h.1; omega, fun x hx => by
 obtain ⟨j, hj, rfl⟩ := List.getElem_of_mem hx;have := (h.2 j hj).1.1.2;rw [A0q hj] at this;unfold Sm; omega⟩
theorem Ab4.val (c : List (List Int)) (s : List Int) (h : SmL c) : ∃ r : Int, Ab4.F (c, s, ()) = some ((r, ()), ()) /\ (r < 0 ↔ s ∉ c) := by
 have hn := h.1;obtain ⟨v, hv, r, hv', hr⟩ := Ev.loop (σ := Unit) (R := (Int × Unit) × Unit) (fun k i _ => Ab4.l2 k c s (i : Int)) c.length (fun i _ => ∀ j, j < i -> c.getD j [] ≠ s) (fun v => ∃ r : Int, v = ((r, ()), ()) /\ (r < 0 ↔ s ∉ c))
   (fun i _ hi hI => by
     have E := fun k => Ab4.l2_eq k c s (i : Int);obtain ⟨b, hb, hb'⟩ := Ac3.same (c.getD i []) s (h.2 _ (A0x _ hi));simp only [if_pos (ltI.2 hi), if_pos (idxI.2 hi), Int.toNat_natCast, hb, Option.bind_some, A0v (show i < 4611686018427387904 by omega)] at E;cases b with
     | true =>
       have hm : s ∈ c := hb'.1 rfl ▸ A0x [] hi;exact .inl ⟨_, (Ev.const _).succ fun k => by rw [E, if_pos rfl], _, rfl, by simp [hm]⟩
     | false =>
       refine .inr ⟨(), fun j hj => ?_, Goes.succ fun k => by rw [E, if_neg (by simp)]⟩;by_cases hji : j = i
       . rw [hji]; exact fun e => absurd (hb'.2 e) (by simp)
       . exact hI j (by omega))
   (fun _ hI => ⟨_, (Ev.const _).succ fun k => by rw [Ab4.l2_eq, if_neg (by simp)], _, rfl, by
     have : s ∉ c := fun hm => by
       obtain ⟨j, hj, e⟩ := List.getElem_of_mem hm;exact hI j hj (by rw [A0q hj]; exact e)
     simp [this]⟩) 0 () (Nat.zero_le _) (by intro j hj; omega)
 subst hv';exact ⟨r, Ab4.of _ _ (hv.of_eq fun k => rfl), hr⟩
theorem Ab4.val2 (c : List (List Int)) (n : Nat) (hn : n < c.length) (hs : A0e c) (h : SmL c) : Ab4.F (c, c.getD n [], ()) = some (((n : Int), ()), ()) := by
 have hl := h.1;obtain ⟨v, hv, hv'⟩ := Ev.loop (σ := Unit) (R := (Int × Unit) × Unit) (fun k i _ => Ab4.l2 k c (c.getD n []) (i : Int)) c.length (fun i _ => i ≤ n) (fun v => v = (((n : Int), ()), ()))
   (fun i _ hi hI => by
     have E := fun k => Ab4.l2_eq k c (c.getD n []) (i : Int);obtain ⟨b, hb, hb'⟩ := Ac3.same (c.getD i []) (c.getD n []) (h.2 _ (A0x _ hi));simp only [if_pos (ltI.2 hi), if_pos (idxI.2 hi), Int.toNat_natCast, hb, Option.bind_some, A0v (show i < 4611686018427387904 by omega)] at E;cases b with
     | true =>
       have := A1a hs hi hn (hb'.1 rfl);exact .inl ⟨_, (Ev.const _).succ fun k => by rw [E, if_pos rfl], by rw [this]⟩
     | false =>
       refine .inr ⟨(), ?_, Goes.succ fun k => by rw [E, if_neg (by simp)]⟩;have : i ≠ n := fun e => absurd (hb'.2 (by rw [e])) (by simp);omega)
   (fun _ hI => by omega) 0 () (Nat.zero_le _) (Nat.zero_le _)
 subst hv';exact Ab4.of _ _ (hv.of_eq fun k => rfl)
theorem cutA (s : List Int) (k : Nat) : cutL s (0 : Int) (k : Int) = s.take k := by simp [cutL]
theorem cutB (s : List Int) (k : Nat) : cutL s ((k : Nat) : Int) (s.length : Int) = s.drop k := by simp [cutL]
theorem Ae2.val (s : List Int) (k : Nat) (hk : k < s.length) (hs : s.length ≤ 1048576) : Ae2.F (s, (k : Int), ()) = some ((A0B s k, ()), ()) := by
 rw [Ae2.eq, Ae2.T, if_pos (by omega), cutA, Ac2.eq, Ac2.T, if_pos (by simp only [List.length_nil, List.length_take, bigA]; omega)];simp only [Option.bind_some];rw [A0v (by omega), if_pos (by omega), cutB, if_pos (by simp only [List.nil_append, List.length_take, List.length_drop, bigA]; omega)];rfl
theorem Aa3.val2 (a b : List Int) (ha : a.length ≤ 1048576) (hb : b.length ≤ 1048576) : Aa3.F ([a, b], ()) = some ((a ++ b, ()), ()) := by
 have w1 : IntKind.i64.wrap (0 + (a.length : Int)) = (a.length : Int) := by rw [A0w (by omega) (by omega)]; omega
 have w2 : IntKind.i64.wrap ((a.length : Int) + (b.length : Int)) = (a.length : Int) + (b.length : Int) := A0w (by omega) (by omega);have w3 : IntKind.i64.wrap ((0 : Int) + 1) = 1 := A0w (by omega) (by omega);have w4 : IntKind.i64.wrap ((1 : Int) + 1) = 2 := A0w (by omega) (by omega);refine Aa3.of _ ⟨6, fun k hk => ?_⟩;obtain ⟨k, rfl⟩ : ∃ j, k = j + 1 + 1 + 1 + 1 + 1 + 1 := ⟨k - 6, by omega⟩;show Aa3.T (k + 1 + 1 + 1 + 1 + 1 + 1) [a, b] = _;have e0 : ((([a, b] : List (List Int)).length : Nat) : Int) = 2 := rfl;rw [Aa3.T, e0, Aa3.l3_eq, if_pos (by decide), if_pos (by rw [e0]; decide)];simp only [Int.toNat_zero, List.getD_cons_zero, w1, w3];rw [if_neg (by simp only [decide_eq_true_eq]; omega), Aa3.l3_eq, if_pos (by decide), if_pos (by rw [e0]; decide)];simp only [show (1 : Int).toNat = 1 from rfl, List.getD_cons_succ, List.getD_cons_zero, w2, w4];rw [if_neg (by simp only [decide_eq_true_eq]; omega), Aa3.l3_eq, if_neg (by decide), if_pos (by simp only [bigN]; omega), e0, Aa3.l11_eq, if_pos (by decide), if_pos (by rw [e0]; decide)];simp only [Int.toNat_zero, List.getD_cons_zero, w3];rw [if_pos (by simp only [List.length_nil, bigA]; omega), Aa3.l11_eq, if_pos (by decide), if_pos (by rw [e0]; decide)];simp only [show (1 : Int).toNat = 1 from rfl, List.getD_cons_succ, List.getD_cons_zero, w4, List.nil_append];rw [if_pos (by simp only [bigA]; omega), Aa3.l11_eq, if_neg (by decide)]
def A0G (s : List Int) : List (List Int) := if 1 < s.length then (List.range s.length).map (A0B s) else []
theorem Ac0.val (s : List Int) (hs : s.length ≤ 1048576) : Ac0.F (s, ()) = some ((A0G s, ()), ()) := by
 by_cases h1 : 1 < s.length
 . obtain ⟨r, hr, hg⟩ := Goes.loop (R := (List (List Int) × Unit) × Unit) (fun k i (x : List (List Int)) => Ac0.l3 k s s.length (i : Int) x) s.length (fun i x => x = (List.range i).map (A0B s)) (fun i x hi hx => ⟨_, rfl, Goes.succ fun k => by
     rw [Ac0.l3_eq, if_pos (ltI.2 hi), if_pos (by simp; omega), if_pos (by omega), A0v (by omega), if_pos (by omega), cutA, cutB, Aa3.val2 _ _ (by simp; omega) (by simp; omega)];simp only [Option.bind_some];rw [if_pos (by rw [hx]; simp only [List.length_map, List.length_range, List.length_cons, List.length_nil, bigA]; omega), hx, List.range_succ, List.map_append];rfl⟩) 0 [] (Nat.zero_le _) rfl
   have : A0G s = r := by rw [A0G, if_pos h1, hr]
   rw [this];exact Ac0.of _ ((hg _ ((Ev.const _).succ fun k => by rw [Ac0.l3_eq, if_neg (by simp)])).of_eq fun k => rfl)
 . obtain ⟨r, hr, hg⟩ := Goes.loop (R := (List (List Int) × Unit) × Unit) (fun k i (x : List (List Int)) => Ac0.l3 k s s.length (i : Int) x) s.length (fun i x => x = []) (fun i x hi hx => ⟨_, hx, Goes.succ fun k => by
     rw [Ac0.l3_eq, if_pos (ltI.2 hi), if_neg (by simp; omega), A0v (by omega)]⟩) 0 [] (Nat.zero_le _) rfl
   have : A0G s = r := by rw [A0G, if_neg h1, hr]
   rw [this];exact Ac0.of _ ((hg _ ((Ev.const _).succ fun k => by rw [Ac0.l3_eq, if_neg (by simp)])).of_eq fun k => rfl)
theorem Aj8.val (s : List Int) (hs : s.length ≤ 1048576) : ∃ v, Aj8.F (s, ()) = some ((v, ()), ()) /\ (v = true ↔ A1D s) := by
 obtain ⟨v1, h1, h1'⟩ := Ae9.val s (by omega);have h2 := Ad1.val s (Al8.cloG (())) (fun a => !decide (0 ≤ a /\ a ≤ 9)) (fun a _ => by
   show (Al8.F (a, ())).map (·.1) = _;rw [Al8.eq, Al8.T, Am6.eq, Am6.T, Aa6.val]; rfl) (by omega)
 rw [Aj8.eq, Aj8.T, h1, h2];simp only [Option.bind_some];unfold A1D;by_cases g1 : 1 ≤ s.length
 . by_cases g2 : s.length ≤ 4
   . rw [if_pos (by simp; omega), if_pos (by simp; omega)];cases v1 with
     | true =>
       refine ⟨_, by rw [if_pos rfl], ?_⟩;have hr := h1'.1 rfl;simp only [Bool.not_eq_true', List.any_eq_false, Bool.not_eq_eq_eq_not, Bool.not_true, A0N, g1, g2, hr, and_self, and_true, true_and];simp
     | false => exact ⟨false, by rw [if_neg (by simp)], by simp; intro _ _ _ hr; exact absurd (h1'.2 hr) (by simp)⟩
   . exact ⟨false, by rw [if_pos (by simp; omega), if_neg (by simp; omega)], by simp; intro _ h; omega⟩
 . exact ⟨false, by rw [if_neg (by simp; omega)], by simp; intro h; omega⟩
theorem Al6.val (s : List Int) (hs : s.length ≤ 1048576) : ∃ v, Al6.F (s, ()) = some ((v, ()), ()) /\ (v = true ↔ A1D s) := by
 obtain ⟨v1, h1, h1'⟩ := Ai3.val s 0 9 (by omega);rw [Al6.eq, Al6.T, h1, Aa4.val];simp only [Option.bind_some];unfold A1D;by_cases g : 1 ≤ (s.length : Int) /\ (s.length : Int) ≤ 4
 . rw [if_pos (by simp only [decide_eq_true_eq]; exact g)];exact ⟨v1, rfl, h1'.trans ⟨fun h => ⟨by omega, h⟩, fun h => h.2⟩⟩
 . exact ⟨false, by rw [if_neg (by simp only [decide_eq_true_eq]; exact g)], by simp; intro a b; omega⟩
theorem Ab0.val (c : List (List Int)) (h : SmL c) : ∃ v, Ab0.F (c, ()) = some ((v, ()), ()) /\ (v = true ↔ CplxOk c) := by
 by_cases hn : c.length ≤ 48
 . obtain ⟨v, hv, hv'⟩ := Ev.loop (σ := Unit) (R := (Bool × Unit) × Unit) (fun k i _ => Ab0.l4 k c (i : Int)) c.length (fun i _ => ∀ j, j < i -> A1D (c.getD j []) /\ (0 < j -> cmpS (c.getD (j - 1) []) (c.getD j []) < 0) /\ (1 < (c.getD j []).length -> ∀ k, k < (c.getD j []).length -> A0B (c.getD j []) k ∈ c)) (fun r => ∃ v, r = ((v, ()), ()) /\ (v = true ↔ CplxOk c))
     (fun i _ hi hI => by
       have hsm : (c.getD i []).length ≤ 1048576 := h.2 _ (A0x _ hi);obtain ⟨s, hs⟩ : ∃ s, c.getD i [] = s := ⟨_, rfl⟩;have E := fun k => Ab0.l4_eq k c (i : Int);obtain ⟨b, hb, hb'⟩ := Al6.val s (hs ▸ hsm);rw [hs] at hsm;simp only [if_pos (ltI.2 hi), if_pos (idxI.2 hi), Int.toNat_natCast, hs, hb, Option.bind_some] at E;have bad : (¬ (A1D s /\ (0 < i -> cmpS (c.getD (i - 1) []) s < 0) /\ (1 < s.length -> ∀ k, k < s.length -> A0B s k ∈ c))) -> ∃ v, (((false, ()), ()) : (Bool × Unit) × Unit) = ((v, ()), ()) /\ (v = true ↔ CplxOk c) := fun hno => ⟨false, rfl, by simp; intro hc; exact hno (by have := hc.2 i hi; rw [hs] at this; exact this)⟩;cases b with
       | false => exact .inl ⟨_, (Ev.const _).succ fun k => by rw [E]; rfl, bad fun hc => absurd (hb'.2 hc.1) (by simp)⟩
       | true =>
         have hsimp := hb'.1 rfl;simp only [Bool.not_true, Bool.false_eq_true, if_false] at E;have inner : (∃ r, Ev (fun k => Ab0.l10 k c (i : Int) s ((0 : Nat) : Int)) r /\ r = ((false, ()), ()) /\ ¬ (1 < s.length -> ∀ k, k < s.length -> A0B s k ∈ c)) ∨ ((1 < s.length -> ∀ k, k < s.length -> A0B s k ∈ c) /\ Goes (fun k => Ab0.l10 k c (i : Int) s ((0 : Nat) : Int)) (fun k => Ab0.l4 k c ((i + 1 : Nat) : Int))) := by
           by_cases h1 : 1 < s.length
           . by_cases hall : ∀ k, k < s.length -> A0B s k ∈ c
             . refine .inr ⟨fun _ => hall, ?_⟩;obtain ⟨_, _, hg⟩ := Goes.loop (σ := Unit) (R := (Bool × Unit) × Unit) (fun k j _ => Ab0.l10 k c (i : Int) s (j : Int)) s.length (fun _ _ => True) (fun j _ hj _ => ⟨(), trivial, Goes.succ fun k => by
                 obtain ⟨r, hr, hr'⟩ := Ab4.val c (A0B s j) h;rw [Ab0.l10_eq, if_pos (ltI.2 hj), if_pos (by simp; omega), Ae2.val s j hj hsm];simp only [Option.bind_some, hr];rw [if_neg (by simp only [decide_eq_true_eq, hr']; exact fun hh => hh (hall j hj)), A0v (by omega)]⟩) 0 () (Nat.zero_le _) trivial
               exact hg.trans (Goes.succ fun k => by rw [Ab0.l10_eq, if_neg (by simp), A0v (by omega)])
             . left;obtain ⟨v, hv, hv'⟩ := Ev.loop (σ := Unit) (R := (Bool × Unit) × Unit) (fun k j _ => Ab0.l10 k c (i : Int) s (j : Int)) s.length (fun j _ => ∀ k, k < j -> A0B s k ∈ c) (fun r => r = ((false, ()), ())) (fun j _ hj hJ => by
                 obtain ⟨r, hr, hr'⟩ := Ab4.val c (A0B s j) h;have E2 := fun k => Ab0.l10_eq k c (i : Int) s (j : Int);simp only [if_pos (ltI.2 hj), if_pos (show decide ((s.length : Int) > 1) = true by simp; omega), Ae2.val s j hj hsm, Option.bind_some, hr, A0v (show j < 4611686018427387904 by omega)] at E2;by_cases hd : A0B s j ∈ c
                 . refine .inr ⟨(), fun k hk => ?_, Goes.succ fun k => by rw [E2, if_neg (by simp only [decide_eq_true_eq, hr']; exact fun hh => hh hd)]⟩;by_cases hkj : k = j
                   . rw [hkj]; exact hd
                   . exact hJ k (by omega)
                 . exact .inl ⟨_, (Ev.const _).succ fun k => by rw [E2, if_pos (by simp only [decide_eq_true_eq, hr']; exact hd)], rfl⟩) (fun _ hJ => absurd hJ hall) 0 () (Nat.zero_le _) (by intro k hk; omega)
               exact ⟨v, hv, hv', fun hh => hall (hh h1)⟩
           . refine .inr ⟨fun hh => absurd hh h1, Goes.succ fun k => ?_⟩;rw [Ab0.l10_eq];by_cases h0 : (0 : Nat) < s.length
             . rw [if_pos (ltI.2 h0), if_neg (by simp; omega), A0v (by omega)]
             . rw [if_neg (by simp only [decide_eq_true_eq]; omega), A0v (by omega)]
         have pre : ((0 < i -> cmpS (c.getD (i - 1) []) s < 0) /\ ∀ k, Ab0.l4 (k + 1) c (i : Int) = Ab0.l10 k c (i : Int) s ((0 : Nat) : Int)) ∨ ((∀ k, Ab0.l4 (k + 1) c (i : Int) = some ((false, ()), ())) /\ ¬ (0 < i -> cmpS (c.getD (i - 1) []) s < 0)) := by
           by_cases h0 : 0 < i
           . have h1 : i - 1 < c.length := by omega
             simp only [if_pos (show decide ((i : Int) > 0) = true by simp; omega), A2X h0 (show i < 4611686018427387904 by omega), if_pos (idxI.2 h1), Int.toNat_natCast, Af5.val _ s (h.2 _ (A0x _ h1)), Option.bind_some] at E;by_cases hlt : cmpS (c.getD (i - 1) []) s < 0
             . exact .inl ⟨fun _ => hlt, fun k => by rw [E, if_neg (by simp only [decide_eq_true hlt]; simp)]; rfl⟩
             . exact .inr ⟨fun k => by rw [E, if_pos (by simp only [decide_eq_false hlt]; rfl)], fun hh => hlt (hh h0)⟩
           . simp only [if_neg (show ¬ decide ((i : Int) > 0) = true by simp; omega)] at E;exact .inl ⟨fun h => absurd h h0, fun k => by rw [E]; rfl⟩
         rcases pre with ⟨hlt, E3⟩ | ⟨E4, hno⟩
         . rcases inner with ⟨r, hr, rfl, hno⟩ | ⟨hyes, hg⟩
           . exact .inl ⟨_, hr.succ E3, bad fun hc => hno hc.2.2⟩
           . refine .inr ⟨(), fun j hj => ?_, (Goes.succ E3).trans hg⟩;by_cases hji : j = i
             . rw [hji, hs]; exact ⟨hsimp, hlt, hyes⟩
             . exact hI j (by omega)
         . exact .inl ⟨_, (Ev.const _).succ E4, bad fun hc => hno hc.2.1⟩)
     (fun _ hI => ⟨_, (Ev.const _).succ fun k => by rw [Ab0.l4_eq, if_neg (by simp)], true, rfl, by simp; exact ⟨hn, hI⟩⟩) 0 () (Nat.zero_le _) (by intro j hj; omega)
   obtain ⟨b, rfl, hb⟩ := hv';exact ⟨b, Ab0.of _ (hv.of_eq fun k => by rw [Ab0.T, if_neg (by simp; omega)]; rfl), hb⟩
 . exact ⟨false, Ab0.of _ ((Ev.const _).of_eq fun k => by rw [Ab0.T, if_pos (by simp; omega)]), by simp; intro hc; exact hn hc.1⟩
theorem mem_faces {s f : List Int} : f ∈ A0G s ↔ 1 < s.length /\ ∃ k, k < s.length /\ A0B s k = f := by
 unfold A0G;by_cases h : 1 < s.length
 . rw [if_pos h]; simp [h]
 . rw [if_neg h]; simp [h]
theorem A1P {c : List (List Int)} {i m : Nat} (h : m < i) : (c.take i).getD m [] = c.getD m [] := by
 simp only [List.getD_eq_getElem?_getD, List.getElem?_take, h, if_true]
theorem A2C {c : List (List Int)} {i m : Nat} (h : m < i) (hm : m < c.length) : c.getD m [] ∈ c.take i := by
 rw [<- A1P h];exact A0x [] (by simp; omega)
def OkAt (c : List (List Int)) (j : Nat) : Prop := A1D (c.getD j []) /\ (0 < j -> cmpS (c.getD (j - 1) []) (c.getD j []) < 0) /\ ∀ f ∈ A0G (c.getD j []), f ∈ c.take j
theorem A1f (c : List (List Int)) : (c.length ≤ 48 /\ ∀ j, j < c.length -> OkAt c j) ↔ CplxOk c := by
 constructor
 . rintro ⟨h1, h2⟩;refine ⟨h1, fun i hi => ⟨(h2 i hi).1, (h2 i hi).2.1, fun hl k hk => List.mem_of_mem_take ((h2 i hi).2.2 _ (mem_faces.2 ⟨hl, k, hk, rfl⟩))⟩⟩
 . intro h;refine ⟨h.1, fun j hj => ⟨(h.2 j hj).1, (h.2 j hj).2.1, fun f hf => ?_⟩⟩;obtain ⟨hl, k, hk, rfl⟩ := mem_faces.1 hf;have hm := (h.2 j hj).2.2 hl k hk;obtain ⟨m, hm1, e⟩ := List.getElem_of_mem hm;have e' : c.getD m [] = A0B (c.getD j []) k := by rw [A0q hm1]; exact e
   have hlen := A0b hk;have hshort : cmpS (A0B (c.getD j []) k) (c.getD j []) < 0 := A2R (by omega);by_cases hmj : m < j
   . rw [<- e']; exact A2C hmj hm1
   . exfalso;by_cases hmj2 : m = j
     . rw [hmj2] at e';rw [<- e', (A0O _ _).2 rfl] at hshort; omega
     . have h3 := h.sorted j m (by omega) hm1;rw [e'] at h3;have := A0h _ _ _ hshort h3;rw [(A0O _ _).2 rfl] at this; omega
theorem Ae6.val (c : List (List Int)) (h : SmL c) : ∃ v, Ae6.F (c, ()) = some ((v, ()), ()) /\ (v = true ↔ CplxOk c) := by
 have hn := h.1;obtain ⟨v, hv, hv'⟩ := Ev.loop (σ := Unit) (R := (Bool × Unit) × Unit) (fun k i _ => Ae6.l2 k c c.length (i : Int) c) c.length (fun i _ => ∀ j, j < i -> OkAt c j) (fun r => ∃ v, r = ((v, ()), ()) /\ (v = true ↔ c.length ≤ 48 /\ ∀ j, j < c.length -> OkAt c j))
   (fun i _ hi hI => by
     have hsm : (c.getD i []).length ≤ 1048576 := h.2 _ (A0x _ hi);have hsorted : A0e (c.take i) := A1Z fun m h0 hm => by
       have hm' : m < i := by simp at hm; omega
       rw [A1P (by omega), A1P hm'];exact (hI m hm').2.1 h0
     have hsmall : SmL (c.take i) := ⟨by simp; omega, fun x hx => h.2 x (List.mem_of_mem_take hx)⟩;have hclo : ∀ f : List Int, f.length ≤ 1048576 -> Aj6.cloG (c, (i : Int), ()) (f, ()) = some (decide (f ∉ c.take i), ()) := fun f hf => by
       show (Aj6.F (f, c, (i : Int), ())).map (·.1) = _;obtain ⟨r, hr, hr'⟩ := Ac9.val (c.take i) f hsorted hsmall hf;rw [Aj6.eq, Aj6.T, if_pos (by omega)];have : cutL c (0 : Int) (i : Int) = c.take i := by simp [cutL]
       rw [this, hr];simp only [Option.bind_some, Option.map_some, hr']
     obtain ⟨s, hs⟩ : ∃ s, c.getD i [] = s := ⟨_, rfl⟩;have E := fun k => Ae6.l2_eq k c c.length (i : Int) c;obtain ⟨b, hb, hb'⟩ := Aj8.val s (hs ▸ hsm);rw [hs] at hsm;have hfl : ∀ f ∈ A0G s, f.length ≤ 1048576 := fun f hf => by
       obtain ⟨_, k, hk, rfl⟩ := mem_faces.1 hf;have := A0b hk; omega
     have hcf := Ai9.val (A0G s) (Aj6.cloG (c, (i : Int), ())) (fun f => decide (f ∉ c.take i)) (fun f hf => hclo f (hfl f hf)) (by
       unfold A0G; split
       . simp; omega
       . simp)
     simp only [if_pos (ltI.2 hi), if_pos (idxI.2 hi), Int.toNat_natCast, hs, hb, Option.bind_some, Ac0.val s hsm, hcf, A0v (show i < 4611686018427387904 by omega)] at E;have bad : ¬ OkAt c i -> ∃ v, (((false, ()), ()) : (Bool × Unit) × Unit) = ((v, ()), ()) /\ (v = true ↔ c.length ≤ 48 /\ ∀ j, j < c.length -> OkAt c j) := fun hno => ⟨false, rfl, by simp only [Bool.false_eq_true, false_iff]; exact fun hc => hno (hc.2 i hi)⟩;cases b with
     | false => exact .inl ⟨_, (Ev.const _).succ fun k => by rw [E]; rfl, bad fun hc => absurd (hb'.2 (hs ▸ hc.1)) (by simp)⟩
     | true =>
       have hsimp := hb'.1 rfl;simp only [Bool.not_true, Bool.false_eq_true, if_false] at E;have pre : ((0 < i -> cmpS (c.getD (i - 1) []) s < 0) /\ ∀ k, Ae6.l2 (k + 1) c c.length (i : Int) c = if ((A0G s).any fun f => decide (f ∉ c.take i)) = true then some ((false, ()), ()) else Ae6.l2 k c c.length ((i + 1 : Nat) : Int) c) ∨ ((∀ k, Ae6.l2 (k + 1) c c.length (i : Int) c = some ((false, ()), ())) /\ ¬ (0 < i -> cmpS (c.getD (i - 1) []) s < 0)) := by
         by_cases h0 : 0 < i
         . have h1 : i - 1 < c.length := by omega
           simp only [if_pos (show decide ((i : Int) > 0) = true by simp; omega), A2X h0 (show i < 4611686018427387904 by omega), if_pos (idxI.2 h1), Int.toNat_natCast, Ac7.val _ s (h.2 _ (A0x _ h1)) hsm, Option.bind_some] at E;by_cases hlt : cmpS (c.getD (i - 1) []) s < 0
           . exact .inl ⟨fun _ => hlt, fun k => by rw [E, if_neg (by simp only [decide_eq_true_eq]; omega)]⟩
           . exact .inr ⟨fun k => by rw [E, if_pos (by simp only [decide_eq_true_eq]; omega)], fun hh => hlt (hh h0)⟩
         . simp only [if_neg (show ¬ decide ((i : Int) > 0) = true by simp; omega)] at E;exact .inl ⟨fun h => absurd h h0, fun k => by rw [E]⟩
       rcases pre with ⟨hlt, E3⟩ | ⟨E4, hno⟩
       . by_cases hf : ∀ f ∈ A0G s, f ∈ c.take i
         . refine .inr ⟨(), fun j hj => ?_, Goes.succ fun k => by rw [E3, if_neg (by simp only [List.any_eq_true, decide_eq_true_eq, not_exists, not_and, Classical.not_not]; exact hf)]⟩;by_cases hji : j = i
           . rw [hji]; exact ⟨hs ▸ hsimp, fun h0 => by rw [hs]; exact hlt h0, fun f hff => hf f (hs ▸ hff)⟩
           . exact hI j (by omega)
         . refine .inl ⟨_, (Ev.const _).succ fun k => by rw [E3, if_pos (by simp only [List.any_eq_true, decide_eq_true_eq]; simpa using hf)], bad fun hc => hf fun f hff => hc.2.2 f (hs ▸ hff)⟩
       . exact .inl ⟨_, (Ev.const _).succ E4, bad fun hc => hno (by have := hc.2.1; rw [hs] at this; exact this)⟩)
   (fun _ hI => ⟨_, (Ev.const _).succ fun k => by rw [Ae6.l2_eq, if_neg (by simp)], _, rfl, by simp only [decide_eq_true_eq]; exact ⟨fun h1 => ⟨by omega, hI⟩, fun h1 => by omega⟩⟩) 0 () (Nat.zero_le _) (by intro j hj; omega)
 obtain ⟨b, rfl, hb⟩ := hv';exact ⟨b, Ae6.of _ (hv.of_eq fun k => rfl), hb.trans (A1f c)⟩
def A1H (c : List (List Int)) (f : List Int) : Nat := c.findIdx fun x => decide (x = f)
theorem A0m {c : List (List Int)} {f : List Int} (h : f ∈ c) : A1H c f < c.length /\ c.getD (A1H c f) [] = f := by
 have h1 : A1H c f < c.length := List.findIdx_lt_length_of_exists ⟨f, h, by simp⟩;refine ⟨h1, ?_⟩;rw [A0q h1];have := List.findIdx_getElem (p := fun x => decide (x = f)) (xs := c) (w := h1);exact of_decide_eq_true this
def fcs (c : List (List Int)) (i : Nat) : List Int := (A0G (c.getD i [])).map fun f => ((A1H c f : Nat) : Int)
theorem A0L (c : List (List Int)) (i : Nat) : (fcs c i).length = if 1 < (c.getD i []).length then (c.getD i []).length else 0 := by
 unfold fcs A0G;split <;> simp
theorem A2b {c : List (List Int)} (h : CplxOk c) {i : Nat} (hi : i < c.length) {x : Int} (hx : x ∈ fcs c i) : ∃ j : Nat, x = j /\ j < c.length := by
 simp only [fcs, List.mem_map] at hx;obtain ⟨f, hf, rfl⟩ := hx;have := ((A1f c).2 h).2 i hi;exact ⟨_, rfl, (A0m (List.mem_of_mem_take (this.2.2 f hf))).1⟩
theorem A1c {c : List (List Int)} (h : CplxOk c) {i : Nat} (hi : i < c.length) {f : List Int} (hf : f ∈ A0G (c.getD i [])) : f ∈ c :=
 List.mem_of_mem_take ((((A1f c).2 h).2 i hi).2.2 f hf)
theorem A3y {c : List (List Int)} (h : CplxOk c) {f : List Int} (hf : f ∈ c) : Ab4.F (c, f, ()) = some ((((A1H c f : Nat) : Int), ()), ()) := by
 obtain ⟨h1, h2⟩ := A0m hf;have := Ab4.val2 c (A1H c f) h1 h.sorted h.small
 rwa [h2] at this
theorem A2S {c : List (List Int)} (h : CplxOk c) {f : List Int} (hf : f ∈ c) : Ac9.F (c, f, ()) = some ((((A1H c f : Nat) : Int), ()), ()) := by
 obtain ⟨h1, h2⟩ := A0m hf;have := Ac9.val2 c (A1H c f) h1 h.sorted h.small
 rwa [h2] at this
theorem Ab3.val (c : List (List Int)) (h : CplxOk c) (i : Nat) (hi : i < c.length) : Ab3.F (c, (i : Int), ()) = some ((fcs c i, ()), ()) := by
 have h4 := (h.2 i hi).1.1.2;obtain ⟨s, hs⟩ : ∃ s, c.getD i [] = s := ⟨_, rfl⟩;rw [hs] at h4;have hmem : ∀ f ∈ A0G s, f ∈ c := fun f hf => A1c h hi (hs ▸ hf);have hfc : fcs c i = (A0G s).map fun f => ((A1H c f : Nat) : Int) := by rw [fcs, hs]
 refine Ab3.of _ _ (Ev.of_eq (N := fun k => Ab3.l4 k c s ((0 : Nat) : Int) []) ?_ fun k => by rw [Ab3.T, if_pos (by omega)]; simp only [Int.toNat_natCast, hs]; rfl);by_cases h1 : 1 < s.length
 . have hf : A0G s = (List.range s.length).map (A0B s) := by rw [A0G, if_pos h1]
   obtain ⟨x, hx, hg⟩ := Goes.loop (R := ((List Int × Unit) × Unit)) (fun k j (x : List Int) => Ab3.l4 k c s (j : Int) x) s.length (fun j x => x = ((List.range j).map (A0B s)).map fun f => ((A1H c f : Nat) : Int)) (fun j x hj h2 => ⟨_, rfl, Goes.succ fun k => by
     have hm : A0B s j ∈ c := hmem _ (by rw [hf]; exact List.mem_map.2 ⟨j, List.mem_range.2 hj, rfl⟩);rw [Ab3.l4_eq, if_pos (ltI.2 hj), if_pos (by simp only [decide_eq_true_eq]; omega), Ae2.val s j hj (by omega)];simp only [Option.bind_some, A3y h hm];rw [if_pos (by rw [h2]; simp only [List.length_map, List.length_range, List.length_cons, List.length_nil, bigA]; omega), A0v (by omega), h2, List.range_succ, List.map_append, List.map_append];rfl⟩) 0 [] (Nat.zero_le _) rfl
   rw [hfc, hf];refine hg _ ((Ev.const _).succ fun k => ?_);rw [Ab3.l4_eq, if_neg (by simp), hx]
 . have hf : A0G s = [] := by rw [A0G, if_neg h1]
   rw [hfc, hf];refine (Ev.const _).succ fun k => ?_;rw [Ab3.l4_eq];by_cases h0 : (0 : Nat) < s.length
   . rw [if_pos (ltI.2 h0), if_neg (by simp only [decide_eq_true_eq]; omega)]; rfl
   . rw [if_neg (by simp only [decide_eq_true_eq]; omega)]; rfl
theorem A0l {c : List (List Int)} (h : CplxOk c) {i : Nat} (hi : i < c.length) : (A0G (c.getD i [])).length ≤ 4 := by
 have h4 := (h.2 i hi).1.1.2;unfold A0G; split
 . simpa using h4
 . simp
theorem Ac1.val (c : List (List Int)) (h : CplxOk c) (i : Nat) (hi : i < c.length) : Ac1.F (c, (i : Int), ()) = some ((fcs c i, ()), ()) := by
 have h4 := (h.2 i hi).1.1.2;have h5 := A0l h hi;obtain ⟨fs, hfs⟩ : ∃ fs, A0G (c.getD i []) = fs := ⟨_, rfl⟩;have hmem : ∀ f ∈ fs, f ∈ c := fun f hf => A1c h hi (hfs ▸ hf);have hfc : fcs c i = fs.map fun f => ((A1H c f : Nat) : Int) := by rw [fcs, hfs]
 rw [hfs] at h5;refine Ac1.of _ _ (Ev.of_eq (N := fun k => Ac1.l3 k (fs.length : Int) ((0 : Nat) : Int) c [] fs) ?_ fun k => by rw [Ac1.T, if_pos (by omega)]; simp only [Int.toNat_natCast]; rw [Ac0.val _ (by omega), hfs]; rfl);obtain ⟨x, hx, hg⟩ := Goes.loop (R := ((List Int × Unit) × Unit)) (fun k j (x : List Int) => Ac1.l3 k (fs.length : Int) (j : Int) c x fs) fs.length (fun j x => x = (fs.take j).map fun f => ((A1H c f : Nat) : Int)) (fun j x hj h2 => ⟨_, rfl, Goes.succ fun k => by
   rw [Ac1.l3_eq, if_pos (ltI.2 hj), if_pos (idxI.2 hj)];simp only [Int.toNat_natCast, A2S h (hmem _ (A0x [] hj)), Option.bind_some];rw [if_pos (by rw [h2]; simp only [List.length_map, List.length_take, List.length_cons, List.length_nil, bigA]; omega), A0v (by omega), h2, List.take_add_one, List.getElem?_eq_getElem hj, Option.toList_some, List.map_append, A0q hj];rfl⟩) 0 [] (Nat.zero_le _) rfl
 rw [List.take_of_length_le (Nat.le_refl _)] at hx;rw [hfc];refine hg _ ((Ev.const _).succ fun k => ?_);rw [Ac1.l3_eq, if_neg (by simp), hx]
def off (c : List (List Int)) : Nat -> Nat
 | 0 => 0
 | s + 1 => off c s + (fcs c s).length
def A2Z (c : List (List Int)) (s : Nat) : List A2Q := (List.range (fcs c s).length).map fun (j : Nat) => ((s : Int), (j : Int), (fcs c s).getD j 0)
def arr (c : List (List Int)) (n : Nat) : List A2Q := (List.range n).flatMap (A2Z c)
theorem A1I (c : List (List Int)) (n : Nat) : arr c (n + 1) = arr c n ++ A2Z c n := by simp [arr, List.range_succ]
theorem A0T (c : List (List Int)) (n : Nat) : (arr c n).length = off c n := by
 induction n with
 | zero => rfl
 | succ n ih => rw [A1I, List.length_append, ih, A2Z, List.length_map, List.length_range, off]
theorem A0p {c : List (List Int)} (h : CplxOk c) {n : Nat} (hn : n ≤ c.length) : off c n ≤ 4 * n := by
 induction n with
 | zero => exact Nat.le_refl _
 | succ n ih =>
   have h5 := A0l h (show n < c.length by omega);have := ih (by omega);have e : (fcs c n).length = (A0G (c.getD n [])).length := by simp [fcs]
   rw [off, e]; omega
theorem A1b (c : List (List Int)) {n s j : Nat} (hs : s < n) (hj : j < (fcs c s).length) : (arr c n).getD (off c s + j) (0, 0, 0) = ((s : Int), (j : Int), (fcs c s).getD j 0) := by
 induction n with
 | zero => omega
 | succ n ih =>
   rw [A1I, List.getD_eq_getElem?_getD];by_cases h : s < n
   . have hmono : ∀ a b, a ≤ b -> off c a ≤ off c b := fun a b hab => by
       induction hab with
       | refl => exact Nat.le_refl _
       | step _ ih => exact Nat.le_trans ih (Nat.le_add_right _ _)
     have h1 := hmono (s + 1) n (by omega);rw [off] at h1;rw [List.getElem?_append_left (by rw [A0T]; omega), <- List.getD_eq_getElem?_getD];exact ih h
   . obtain rfl : s = n := by omega
     rw [List.getElem?_append_right (by rw [A0T]; omega), A0T, show off c s + j - off c s = j by omega, A2Z, List.getElem?_map, List.getElem?_range hj];rfl
theorem Ab8.val (c : List (List Int)) (h : CplxOk c) : Ab8.F (c, ()) = some ((arr c c.length, ()), ()) := by
 have hn := h.1;refine Ab8.of _ (Ev.of_eq (N := fun k => Ab8.l3 k (c.length : Int) ((0 : Nat) : Int) c []) ?_ fun k => by rw [Ab8.T, Ag9.eq, Ag9.T]; rfl);obtain ⟨x, hx, hg⟩ := Goes.loop (R := ((List A2Q × Unit) × Unit)) (fun k i (x : List A2Q) => Ab8.l3 k (c.length : Int) (i : Int) c x) c.length (fun i x => x = arr c i) (fun i x hi h2 => by
   have hoff := A0p h (show i ≤ c.length by omega);have h5 := A0l h hi;have e5 : (fcs c i).length = (A0G (c.getD i [])).length := by simp [fcs]
   refine ⟨_, rfl, (Goes.succ fun k => by rw [Ab8.l3_eq, if_pos (ltI.2 hi), Ac1.val c h i hi]).trans ?_⟩;obtain ⟨y, hy, hg2⟩ := Goes.loop (R := ((List A2Q × Unit) × Unit)) (fun k j (y : List A2Q) => Ab8.l6 k (i : Int) (c.length : Int) (i : Int) ((fcs c i).length : Int) (j : Int) c y (fcs c i)) (fcs c i).length (fun j y => y = arr c i ++ (List.range j).map fun (j : Nat) => ((i : Int), (j : Int), (fcs c i).getD j 0)) (fun j y hj h3 => ⟨_, rfl, Goes.succ fun k => by
     rw [Ab8.l6_eq, if_pos (ltI.2 hj), if_pos (idxI.2 hj), if_pos (by rw [h3]; simp only [List.length_append, List.length_map, List.length_range, List.length_cons, List.length_nil, A0T, bigA]; omega), A0v (by omega), h3, List.range_succ, List.map_append, List.append_assoc];simp only [Int.toNat_natCast];rfl⟩) 0 x (Nat.zero_le _) (by simp [h2])
   refine hg2.trans (Goes.succ fun k => ?_);rw [Ab8.l6_eq, if_neg (by simp), A0v (by omega), hy, A1I];rfl) 0 [] (Nat.zero_le _) rfl
 refine hg _ ((Ev.const _).succ fun k => ?_);rw [Ab8.l3_eq, if_neg (by simp), hx]
theorem Ab7.val (c : List (List Int)) (h : CplxOk c) (s : Nat) (hs : s ≤ c.length) (j : Nat) (hj : j ≤ 1000) : Ab7.F (c, (s : Int), (j : Int), ()) = some ((((off c s + j : Nat) : Int), ()), ()) := by
 have hn := h.1;have hos := A0p h hs;refine Ab7.of _ _ _ (Ev.of_eq (N := fun k => Ab7.l3 k c (s : Int) (j : Int) 0 ((0 : Nat) : Int)) ?_ fun k => rfl);obtain ⟨x, hx, hg⟩ := Goes.loop (R := ((Int × Unit) × Unit)) (fun k i (x : Int) => Ab7.l3 k c (s : Int) (j : Int) x (i : Int)) s (fun i x => x = (off c i : Int)) (fun i x hi h2 => ⟨_, rfl, Goes.succ fun k => by
   have hic : i < c.length := by omega
   have hoff := A0p h (show i ≤ c.length by omega);have h4 := (h.2 i hic).1.1.2;rw [Ab7.l3_eq, if_pos (ltI.2 hi), if_pos (idxI.2 hic)];simp only [Int.toNat_natCast];rw [off, A0L];by_cases h1 : 1 < (c.getD i []).length
   . rw [if_pos (by simp only [decide_eq_true_eq]; omega), if_pos (idxI.2 hic), if_pos h1, A0w (by omega) (by omega), A0v (by omega), h2];congr 1
   . rw [if_neg (by simp only [decide_eq_true_eq]; omega), if_neg h1, A0v (by omega), h2];rfl⟩) 0 0 (Nat.zero_le _) rfl
 refine hg _ ((Ev.const _).succ fun k => ?_);rw [Ab7.l3_eq, if_neg (by simp), hx, A0w (by omega) (by omega)];congr 3
def A0M (c : List (List Int)) (d : Int) (i : Nat) : List Int := ((List.range i).filter fun j => ((c.getD j []).length : Int) == d + 1).map fun (j : Nat) => (j : Int)
theorem A1V (c : List (List Int)) (d : Int) (i : Nat) : A0M c d (i + 1) = if ((c.getD i []).length : Int) == d + 1 then A0M c d i ++ [(i : Int)] else A0M c d i := by
 simp only [A0M, List.range_succ, List.filter_append, List.map_append];split
 . rename_i h; rw [List.filter_cons_of_pos (by exact h)]; simp
 . rename_i h; rw [List.filter_cons_of_neg (by exact h)]; simp
theorem A0X (c : List (List Int)) (d : Int) (i : Nat) : (A0M c d i).length ≤ i := by
 simp only [A0M, List.length_map];exact Nat.le_trans (List.length_filter_le _ _) (by simp)
theorem A1r {c : List (List Int)} {d : Int} {i : Nat} {x : Int} (h : x ∈ A0M c d i) : ∃ j : Nat, x = j /\ j < i := by
 simp only [A0M, List.mem_map, List.mem_filter, List.mem_range] at h;obtain ⟨j, ⟨h1, -⟩, rfl⟩ := h;exact ⟨j, rfl, h1⟩
theorem Ai5.val (c : List (List Int)) (d : Int) (hd : -1 ≤ d /\ d ≤ 1000) (hn : c.length ≤ 1048576) : Ai5.F (c, d, ()) = some ((A0M c d c.length, ()), ()) := by
 refine Ai5.of _ _ ?_;obtain ⟨s, hs, hg⟩ := Goes.loop (R := ((List Int × Unit) × Unit)) (fun k i (x : List Int) => Ai5.l3 k c d (i : Int) x) c.length (fun i x => x = A0M c d i) (fun i x hi h2 => ⟨_, rfl, Goes.succ fun k => by
   have hl := A0X c d i;rw [Ai5.l3_eq, if_pos (ltI.2 hi), if_pos (idxI.2 hi), A0w (x := d + 1) (by omega) (by omega), A1V];simp only [Int.toNat_natCast];by_cases h : (((c.getD i []).length : Int) == d + 1) = true
   . rw [if_pos h, if_pos h, if_pos (by rw [h2]; simp only [List.length_cons, List.length_nil, bigA]; omega), A0v (by omega), h2]
   . rw [if_neg h, if_neg h, A0v (by omega), h2]⟩) 0 [] (Nat.zero_le _) rfl
 refine Ev.of_eq (hg _ ((Ev.const _).succ fun k => ?_)) fun k => rfl;rw [Ai5.l3_eq, if_neg (by simp), hs]
theorem Ah9.val (c : List (List Int)) (d : Int) (hd : -1 ≤ d /\ d ≤ 1000) (hn : c.length ≤ 1048576) : Ah9.F (c, d, ()) = some ((A0M c d c.length, ()), ()) := by
 refine Ah9.of _ _ ?_;obtain ⟨s, hs, hg⟩ := Goes.loop (R := ((List Int × Unit) × Unit)) (fun k i (x : List Int) => Ah9.l3 k d c (c.length : Int) (i : Int) x) c.length (fun i x => x = A0M c d i) (fun i x hi h2 => ⟨_, rfl, Goes.succ fun k => by
   have hl := A0X c d i;rw [Ah9.l3_eq, if_pos (ltI.2 hi), if_pos (idxI.2 hi), A0w (x := d + 1) (by omega) (by omega), A1V, Ab1.eq, Ab1.T];simp only [Int.toNat_natCast, Option.bind_some];by_cases h : (((c.getD i []).length : Int) == d + 1) = true
   . rw [if_pos h, if_pos h, if_pos (by rw [h2]; simp only [List.length_cons, List.length_nil, bigA]; omega), A0v (by omega), h2]
   . rw [if_neg h, if_neg h, A0v (by omega), h2]⟩) 0 [] (Nat.zero_le _) rfl
 refine Ev.of_eq (hg _ ((Ev.const _).succ fun k => ?_)) fun k => rfl;rw [Ah9.l3_eq, if_neg (by simp), hs]
def sumL (st : List Int) (js : List Int) : Int := js.foldl (fun acc j => IntKind.i64.wrap (acc + st.getD j.toNat 0)) 0
theorem Ag4.val (c : List (List Int)) (st : List Int) (d : Int) (hd : -1 ≤ d /\ d ≤ 1000) (hn : c.length ≤ 1048576) (hs : st.length = c.length) : Ag4.F (c, st, d, ()) = some ((sumL st (A0M c d c.length), ()), ()) := by
 have hl := A0X c d c.length;refine Ag4.of _ _ _ (Ev.of_eq (N := fun k => Ag4.l4 k st 0 ((0 : Nat) : Int) (A0M c d c.length)) ?_ fun k => by rw [Ag4.T, Ai5.val c d hd hn]; rfl);refine Goes.foldl (L := fun k i s => Ag4.l4 k st s (i : Int) (A0M c d c.length)) (A0M c d c.length) 0 (fun acc j => IntKind.i64.wrap (acc + st.getD j.toNat 0)) (fun k i s hi => ?_) 0 _ ((Ev.const _).succ fun k => by rw [Ag4.l4_eq, if_neg (by simp)]; rfl);obtain ⟨j, hj, hjc⟩ := A1r (A0x (0 : Int) hi);rw [Ag4.l4_eq, if_pos (ltI.2 hi), if_pos (idxI.2 hi)];simp only [Int.toNat_natCast];rw [if_pos (by rw [hj]; omega), A0v (by omega)]
theorem Ag0.val (c : List (List Int)) (p : Int) (st : List Int) (ms : List MatV) (d : Int) (hd : -1 ≤ d /\ d ≤ 1000) (hn : c.length ≤ 1048576) (hs : st.length = c.length) : Ag0.F ((c, (p, (st, ms))), d, ()) = some ((sumL st (A0M c d c.length), ()), ()) := by
 have hl := A0X c d c.length;refine Ag0.of _ _ _ _ _ (Ev.of_eq (N := fun k => Ag0.l3 k 0 (A0M c d c.length).length ((0 : Nat) : Int) c p st ms (A0M c d c.length)) ?_ fun k => by rw [Ag0.T, Ah9.val c d hd hn]; rfl);refine Goes.foldl (L := fun k i s => Ag0.l3 k s (A0M c d c.length).length (i : Int) c p st ms (A0M c d c.length)) (A0M c d c.length) 0 (fun acc j => IntKind.i64.wrap (acc + st.getD j.toNat 0)) (fun k i s hi => ?_) 0 _ ((Ev.const _).succ fun k => by rw [Ag0.l3_eq, if_neg (by simp)]; rfl);obtain ⟨j, hj, hjc⟩ := A1r (A0x (0 : Int) hi);rw [Ag0.l3_eq, if_pos (ltI.2 hi), if_pos (idxI.2 hi)];simp only [Int.toNat_natCast];rw [if_pos (by rw [hj]; omega), A0v (by omega)]
def A2k (c : List (List Int)) (st : List Int) : Prop := st.length = c.length /\ A0N 0 3 st /\ ∀ k : Nat, k < 4 -> sumL st (A0M c k c.length) ≤ 32
theorem Af7.val (c : List (List Int)) (st : List Int) (hn : c.length ≤ 1048576) (hs : st.length ≤ 1048576) : ∃ v, Af7.F (c, st, ()) = some ((v, ()), ()) /\ (v = true ↔ A2k c st) := by
 obtain ⟨v1, h1, h1'⟩ := Ad9.val st (c.length : Int) 4 (by omega);rw [A0w (x := (4 : Int) - 1) (by omega) (by omega)] at h1';cases v1 with
 | false => exact ⟨false, Af7.of _ _ ((Ev.const _).of_eq fun k => by rw [Af7.T, h1]; rfl), by simp only [Bool.false_eq_true, false_iff]; exact fun h => absurd (h1'.2 ⟨by have := h.1; omega, h.2.1⟩) (by simp)⟩
 | true =>
   obtain ⟨hl, ha⟩ := h1'.1 rfl;obtain ⟨v, hv, hv'⟩ := Ev.allP (L := fun k i => Af7.l4 k c st (i : Int)) (a := ()) (b := ()) (n := 4) (fun i => sumL st (A0M c i c.length) ≤ 32) true (fun i hi => by
     have E := fun k => Af7.l4_eq k c st (i : Int);simp only [if_pos (show decide ((i : Int) ≤ 3) = true by simp; omega), Ag4.val c st (i : Int) (by omega) hn (by omega), Option.bind_some, A0v (show i < 4611686018427387904 by omega)] at E;by_cases h : sumL st (A0M c i c.length) ≤ 32
     . exact .inl ⟨h, fun k => by rw [E, if_neg (by simp only [decide_eq_true_eq]; omega)]⟩
     . exact .inr ⟨h, fun k => by rw [E, if_pos (by simp only [decide_eq_true_eq]; omega)]⟩) ((Ev.const _).succ fun k => by rw [Af7.l4_eq, if_neg (by simp)]) 0 (Nat.zero_le _)
   exact ⟨v, Af7.of _ _ (hv.of_eq fun k => by rw [Af7.T, h1]; rfl), hv'.trans ⟨fun ⟨_, h⟩ => ⟨by omega, ha, fun k hk => h k (Nat.zero_le _) hk⟩, fun h => ⟨rfl, fun k _ hk => h.2.2 k hk⟩⟩⟩
theorem Ad6.val (c : List (List Int)) (st : List Int) (hn : c.length ≤ 1048576) (hs : st.length ≤ 1048576) : ∃ v, Ad6.F (c, st, ()) = some ((v, ()), ()) /\ (v = true ↔ A2k c st) := by
 by_cases hl : st.length = c.length
 . have hcf := Ad1.val st (Al9.cloG (())) (fun a => !decide (0 ≤ a /\ a ≤ 3)) (fun a _ => by
     show (Al9.F (a, ())).map (·.1) = _;rw [Al9.eq, Al9.T, Aa6.val]; rfl) (by omega)
   by_cases ha : A0N 0 3 st
   . have hany : (st.any fun a => !decide (0 ≤ a /\ a ≤ 3)) = false := by
       simp only [List.any_eq_false]; intro x hx; simp only [Bool.not_eq_true', decide_eq_false_iff_not, Classical.not_not]; exact ha x hx
     obtain ⟨v, hv, hv'⟩ := Ev.allP (L := fun k i => Ad6.l4 k st (i : Int) c) (a := ()) (b := ()) (n := 4) (fun i => sumL st (A0M c i c.length) ≤ 32) true (fun i hi => by
       have E := fun k => Ad6.l4_eq k st (i : Int) c;simp only [if_pos (show decide ((i : Int) < 4) = true by simp; omega), Ag0.val c 0 st [] (i : Int) (by omega) hn (by omega), Option.bind_some, A0v (show i < 4611686018427387904 by omega)] at E;by_cases h : sumL st (A0M c i c.length) ≤ 32
       . exact .inl ⟨h, fun k => by rw [E, if_neg (by simp only [decide_eq_true_eq]; omega)]⟩
       . exact .inr ⟨h, fun k => by rw [E, if_pos (by simp only [decide_eq_true_eq]; omega)]⟩) ((Ev.const _).succ fun k => by rw [Ad6.l4_eq, if_neg (by simp)]) 0 (Nat.zero_le _)
     exact ⟨v, Ad6.of _ _ (hv.of_eq fun k => by rw [Ad6.T, if_neg (by simp [hl]), hcf, hany]; rfl), hv'.trans ⟨fun ⟨_, h⟩ => ⟨hl, ha, fun k hk => h k (Nat.zero_le _) hk⟩, fun h => ⟨rfl, fun k _ hk => h.2.2 k hk⟩⟩⟩
   . have hany : (st.any fun a => !decide (0 ≤ a /\ a ≤ 3)) = true := by
       refine Classical.byContradiction fun hc => ha fun x hx => ?_;simp only [Bool.not_eq_true, List.any_eq_false, Bool.not_eq_true', decide_eq_false_iff_not, Classical.not_not] at hc;exact hc x hx
     exact ⟨false, Ad6.of _ _ ((Ev.const _).of_eq fun k => by rw [Ad6.T, if_neg (by simp [hl]), hcf, hany]; rfl), by simp only [Bool.false_eq_true, false_iff]; exact fun h => ha h.2.1⟩
 . exact ⟨false, Ad6.of _ _ ((Ev.const _).of_eq fun k => by rw [Ad6.T, if_pos (by simp; omega)]), by simp only [Bool.false_eq_true, false_iff]; exact fun h => hl h.1⟩
def A2w (c : List (List Int)) (p : Int) (st : List Int) (m : MatV) (i j : Nat) : Prop := MatOk m /\ m.1 = p /\ m.2.1 = st.getD i 0 /\ m.2.2.1 = st.getD ((fcs c i).getD j 0).toNat 0
def A2G (s : ShfV) (i : Nat) : Prop := ∀ j, j < (fcs s.1 i).length -> A2w s.1 s.2.1 s.2.2.1 (s.2.2.2.getD (off s.1 i + j) (0, 0, 0, [])) i j
def A0I (s : ShfV) : Prop := CplxOk s.1 /\ A1v s.2.1 /\ A2k s.1 s.2.2.1 /\ s.2.2.2.length = off s.1 s.1.length /\ ∀ i, i < s.1.length -> A2G s i
theorem A3x (c : List (List Int)) {a b : Nat} (h : a ≤ b) : off c a ≤ off c b := by
 induction h with
 | refl => exact Nat.le_refl _
 | step _ ih => exact Nat.le_trans ih (Nat.le_add_right _ _)
theorem A2N {c : List (List Int)} {i j : Nat} (hi : i < c.length) (hj : j < (fcs c i).length) : off c i + j < off c c.length := by
 have := A3x c (show i + 1 ≤ c.length by omega);rw [off] at this; omega
theorem Al7.val (c : List (List Int)) (p : Int) (st : List Int) (ms : List MatV) (m : MatV) (h : CplxOk c) (hst : st.length = c.length) (hm : m.2.2.2.length < 4611686018427387904) (i j : Nat) (hi : i < c.length) (hj : j < (fcs c i).length) :
   ∃ v, Al7.F ((c, (p, (st, ms))), (i : Int), (j : Int), m, ()) = some ((v, ()), ()) /\ (v = true ↔ A2w c p st m i j) := by
 obtain ⟨q, r, cc, xs⟩ := m;obtain ⟨v1, h1, h1'⟩ := Al4.val (q, r, cc, xs) hm;obtain ⟨x, hx, hxc⟩ := A2b h hi (A0x (0 : Int) hj);rw [Al7.eq, Al7.T, Ab3.val c h i hi];simp only [Option.bind_some];rw [if_pos (by omega), h1];simp only [Option.bind_some, Int.toNat_natCast];unfold A2w;cases v1 with
 | false => exact ⟨false, by rw [if_neg (by simp)], by simp only [Bool.false_eq_true, false_iff]; exact fun hh => absurd (h1'.2 hh.1) (by simp)⟩
 | true =>
   have hmat := h1'.1 rfl;rw [if_pos rfl];by_cases e1 : q = p
   . rw [if_pos (by simp [e1]), if_pos (by omega)];by_cases e2 : r = st.getD i 0
     . rw [if_pos (by simp only [beq_iff_eq]; exact e2), if_pos (by rw [hx]; omega)];exact ⟨_, rfl, by simp only [beq_iff_eq]; exact ⟨fun e3 => ⟨hmat, e1, e2, e3⟩, fun hh => hh.2.2.2⟩⟩
     . exact ⟨false, by rw [if_neg (by simp only [beq_iff_eq]; exact e2)], by simp only [Bool.false_eq_true, false_iff]; exact fun hh => e2 hh.2.2.1⟩
   . exact ⟨false, by rw [if_neg (by simp only [beq_iff_eq]; exact e1)], by simp only [Bool.false_eq_true, false_iff]; exact fun hh => e1 hh.2.1⟩
theorem Aa5.val (s : ShfV) (hsm : SmSh s) : ∃ v, Aa5.F (s, ()) = some ((v, ()), ()) /\ (v = true ↔ A0I s) := by
 obtain ⟨c, p, st, ms⟩ := s;obtain ⟨hc, hst, hms⟩ := hsm;have hc : SmL c := hc;have hst : st.length ≤ 1048576 := hst;have hms : SmMs ms := hms;unfold A0I;simp only [];obtain ⟨v1, h1, h1'⟩ := Ab0.val c hc;obtain ⟨v2, h2, h2'⟩ := Af4.val p;obtain ⟨v3, h3, h3'⟩ := Af7.val c st hc.1 hst;have h2p : Ag2.F (p, ()) = some ((v2, ()), ()) := by rw [Ag2.eq, Ag2.T, h2]; rfl
 cases v1 with
 | false => exact ⟨false, Aa5.of _ _ _ _ ((Ev.const _).of_eq fun k => by rw [Aa5.T, h1]; rfl), by simp only [Bool.false_eq_true, false_iff]; exact fun hh => absurd (h1'.2 hh.1) (by simp)⟩
 | true =>
 cases v2 with
 | false => exact ⟨false, Aa5.of _ _ _ _ ((Ev.const _).of_eq fun k => by rw [Aa5.T, h1, h2p]; rfl), by simp only [Bool.false_eq_true, false_iff]; exact fun hh => absurd (h2'.2 hh.2.1) (by simp)⟩
 | true =>
 cases v3 with
 | false => exact ⟨false, Aa5.of _ _ _ _ ((Ev.const _).of_eq fun k => by rw [Aa5.T, h1, h2p, h3]; rfl), by simp only [Bool.false_eq_true, false_iff]; exact fun hh => absurd (h3'.2 hh.2.2.1) (by simp)⟩
 | true =>
 have hcx := h1'.1 rfl;have hstalk := h3'.1 rfl;have hcl := hcx.1;have hoff := A0p hcx (Nat.le_refl c.length);have h4 : Am3.F (c, ()) = some ((((off c c.length : Nat) : Int), ()), ()) := by
   have := Ab7.val c hcx c.length (Nat.le_refl _) 0 (by omega);rw [Am3.eq, Am3.T, show (0 : Int) = ((0 : Nat) : Int) from rfl, this]; rfl
 by_cases hlen : ms.length = off c c.length
 . obtain ⟨v, hv, b, rfl, hb⟩ := Ev.loop (σ := Unit) (R := (Bool × Unit) × Unit) (fun k i _ => Aa5.l4 k c p st ms (i : Int)) c.length (fun i _ => ∀ n, n < i -> A2G (c, p, st, ms) n) (fun r => ∃ b, r = ((b, ()), ()) /\ (b = true ↔ ∀ n, n < c.length -> A2G (c, p, st, ms) n))
     (fun i _ hi hI => by
       have E4 : ∀ k, Aa5.l4 (k + 1) c p st ms (i : Int) = Aa5.l7 k c p st ms (i : Int) ((0 : Nat) : Int) := fun k => by rw [Aa5.l4_eq, if_pos (ltI.2 hi)]; rfl
       have hlc := (hcx.2 i hi).1.1;have step : ∀ j, j < (fcs c i).length -> ∃ v, (v = true ↔ A2w c p st (ms.getD (off c i + j) (0, 0, 0, [])) i j) /\ ∀ k, Aa5.l7 (k + 1) c p st ms (i : Int) (j : Int) = if (!v) = true then some ((false, ()), ()) else Aa5.l7 k c p st ms (i : Int) ((j + 1 : Nat) : Int) := fun j hj => by
         have hlt := A2N hi hj;have hj2 := hj;rw [A0L] at hj2;have h1l : 1 < (c.getD i []).length := by
           by_cases hh : 1 < (c.getD i []).length
           . exact hh
           . rw [if_neg hh] at hj2; omega
         rw [if_pos h1l] at hj2;have hml : (ms.getD (off c i + j) (0, 0, 0, [])).2.2.2.length < 4611686018427387904 := by
           have : (ms.getD (off c i + j) (0, 0, 0, [])).2.2.2.length ≤ 1048576 := hms.2 _ (A0x _ (by omega));omega
         obtain ⟨v, hv, hv'⟩ := Al7.val c p st ms (ms.getD (off c i + j) (0, 0, 0, [])) hcx hstalk.1 hml i j hi hj;refine ⟨v, hv', fun k => ?_⟩;rw [Aa5.l7_eq, if_pos (idxI.2 hi)];simp only [Int.toNat_natCast];rw [if_pos (by simp only [decide_eq_true_eq]; omega), if_pos (idxI.2 hi), if_pos (by simp only [decide_eq_true_eq]; omega), Ab7.val c hcx i (by omega) j (by omega)];simp only [Option.bind_some, Int.toNat_natCast];rw [if_pos (by omega), hv];simp only [Option.bind_some];rw [A0v (by omega)]
       have stop : ∀ k, Aa5.l7 (k + 1) c p st ms (i : Int) (((fcs c i).length : Nat) : Int) = Aa5.l4 k c p st ms ((i + 1 : Nat) : Int) := fun k => by
         rw [Aa5.l7_eq, if_pos (idxI.2 hi), A0L];simp only [Int.toNat_natCast];by_cases h1l : 1 < (c.getD i []).length
         . rw [if_pos h1l, if_neg (by simp), A0v (by omega)]
         . rw [if_neg h1l, if_pos (by simp only [decide_eq_true_eq]; omega), if_pos (idxI.2 hi), if_neg (by simp only [decide_eq_true_eq]; omega), A0v (by omega)]
       by_cases hP : A2G (c, p, st, ms) i
       . refine .inr ⟨(), fun n hn => ?_, (Goes.succ E4).trans ?_⟩
         . by_cases hni : n = i
           . rw [hni]; exact hP
           . exact hI n (by omega)
         . obtain ⟨_, _, hg⟩ := Goes.loop (σ := Unit) (R := (Bool × Unit) × Unit) (fun k j _ => Aa5.l7 k c p st ms (i : Int) (j : Int)) (fcs c i).length (fun _ _ => True) (fun j _ hj _ => ⟨(), trivial, by
             obtain ⟨v, hv, hv2⟩ := step j hj;have : v = true := hv.2 (hP j hj);subst this;exact Goes.succ fun k => by rw [hv2]; rfl⟩) 0 () (Nat.zero_le _) trivial
           exact hg.trans (Goes.succ stop)
       . left;obtain ⟨v, hv, hv'⟩ := Ev.loop (σ := Unit) (R := (Bool × Unit) × Unit) (fun k j _ => Aa5.l7 k c p st ms (i : Int) (j : Int)) (fcs c i).length (fun j _ => ∀ n, n < j -> A2w c p st (ms.getD (off c i + n) (0, 0, 0, [])) i n) (fun r => r = ((false, ()), ())) (fun j _ hj hJ => by
           obtain ⟨v, hv, hv2⟩ := step j hj;cases v with
           | false => exact .inl ⟨_, (Ev.const _).succ fun k => by rw [hv2]; rfl, rfl⟩
           | true =>
             refine .inr ⟨(), fun n hn => ?_, Goes.succ fun k => by rw [hv2]; rfl⟩;by_cases hnj : n = j
             . rw [hnj]; exact hv.1 rfl
             . exact hJ n (by omega)) (fun _ hJ => absurd (fun j hj => hJ j hj) hP) 0 () (Nat.zero_le _) (by intro n hn; omega)
         subst hv';exact ⟨_, hv.succ E4, false, rfl, by simp only [Bool.false_eq_true, false_iff]; exact fun hh => hP (hh i hi)⟩)
     (fun _ hI => ⟨_, (Ev.const _).succ fun k => by rw [Aa5.l4_eq, if_neg (by simp)], true, rfl, by simp only [true_iff]; exact hI⟩) 0 () (Nat.zero_le _) (by intro n hn; omega)
   refine ⟨b, Aa5.of _ _ _ _ (hv.of_eq fun k => ?_), hb.trans ⟨fun hh => ⟨hcx, h2'.1 rfl, hstalk, hlen, hh⟩, fun hh => hh.2.2.2.2⟩⟩;rw [Aa5.T, h1, h2p, h3, h4];simp only [Option.bind_some, Bool.not_true, Bool.false_eq_true, if_false];rw [if_neg (by simp [hlen])]; rfl
 . refine ⟨false, Aa5.of _ _ _ _ ((Ev.const _).of_eq fun k => ?_), by simp only [Bool.false_eq_true, false_iff]; exact fun hh => hlen hh.2.2.2.1⟩;rw [Aa5.T, h1, h2p, h3, h4];simp only [Option.bind_some, Bool.not_true, Bool.false_eq_true, if_false];rw [if_pos (by simp; omega)]
theorem Ab6.same (xs ys : List Int) (h : Sm xs) : ∃ b, Ab6.F (xs, ys, ()) = some ((b, ()), ()) /\ (b = true ↔ xs = ys) := by
 have hn : xs.length ≤ 1048576 := h;by_cases hl : xs.length = ys.length
 . obtain ⟨b, hb, hb'⟩ := A0U (fun k i => Ab6.l4 k xs ys xs.length (i : Int)) xs ys 0 hl (fun i hi => ⟨xs.getD i 0 == ys.getD i 0, by simp, fun k => by
     rw [Ab6.l4_eq, if_pos (ltI.2 hi), if_pos (idxI.2 hi), if_pos (idx2 (hl ▸ hi))]; simp only [Int.toNat_natCast]; rw [A0v (by omega)]; rfl⟩) (fun k => by rw [Ab6.l4_eq, if_neg (by simp)])
   exact ⟨b, Ab6.of _ _ (hb.of_eq fun k => by rw [Ab6.T, if_neg (by simp [hl])]; rfl), hb'⟩
 . exact ⟨false, Ab6.of _ _ ((Ev.const _).of_eq fun k => by rw [Ab6.T, if_pos (by simp; omega)]), by simp; intro e; exact hl (by rw [e])⟩
theorem Ac4.same (m n : MatV) (h : SmM m) : ∃ b, Ac4.F (m, n, ()) = some ((b, ()), ()) /\ (b = true ↔ m = n) := by
 obtain ⟨a, b, c, xs⟩ := m;obtain ⟨a', b', c', ys⟩ := n;have hn : xs.length ≤ 1048576 := h;simp only [Prod.mk.injEq];by_cases h1 : a = a'
 . by_cases h2 : b = b'
   . by_cases h3 : c = c'
     . by_cases hl : xs.length = ys.length
       . obtain ⟨e, he, he'⟩ := A0U (fun k i => Ac4.l4 k a b c xs a' b' c' ys (i : Int)) xs ys 0 hl (fun i hi => ⟨xs.getD i 0 == ys.getD i 0, by simp, fun k => by
           rw [Ac4.l4_eq, if_pos (ltI.2 hi), if_pos (idxI.2 hi), if_pos (idx2 (hl ▸ hi))]; simp only [Int.toNat_natCast]; rw [A0v (by omega)]; rfl⟩) (fun k => by rw [Ac4.l4_eq, if_neg (by simp)])
         exact ⟨e, Ac4.of _ _ _ _ _ _ _ _ (he.of_eq fun k => by rw [Ac4.T, if_neg (by simp [h1]), if_neg (by simp [h2]), if_neg (by simp [h3]), if_neg (by simp [hl])]; rfl), by simp [h1, h2, h3, he']⟩
       . exact ⟨false, Ac4.of _ _ _ _ _ _ _ _ ((Ev.const _).of_eq fun k => by rw [Ac4.T, if_neg (by simp [h1]), if_neg (by simp [h2]), if_neg (by simp [h3]), if_pos (by simp; omega)]), by simp [h1, h2, h3]; intro e; exact hl (by rw [e])⟩
     . exact ⟨false, Ac4.of _ _ _ _ _ _ _ _ ((Ev.const _).of_eq fun k => by rw [Ac4.T, if_neg (by simp [h1]), if_neg (by simp [h2]), if_pos (by simp [h3])]), by simp [h3]⟩
   . exact ⟨false, Ac4.of _ _ _ _ _ _ _ _ ((Ev.const _).of_eq fun k => by rw [Ac4.T, if_neg (by simp [h1]), if_pos (by simp [h2])]), by simp [h2]⟩
 . exact ⟨false, Ac4.of _ _ _ _ _ _ _ _ ((Ev.const _).of_eq fun k => by rw [Ac4.T, if_pos (by simp [h1])]), by simp [h1]⟩
theorem Aj5.same (m n : MatV) (h : SmM m) : ∃ b, Aj5.F (m, n, ()) = some ((b, ()), ()) /\ (b = true ↔ m = n) := by
 obtain ⟨a, b, c, xs⟩ := m;obtain ⟨a', b', c', ys⟩ := n;obtain ⟨e, he, he'⟩ := Ab6.same xs ys h;rw [Aj5.eq, Aj5.T, he];simp only [Option.bind_some, Prod.mk.injEq];by_cases h1 : a = a'
 . by_cases h2 : b = b'
   . by_cases h3 : c = c'
     . exact ⟨e, by rw [if_pos (by simp [h1]), if_pos (by simp [h2]), if_pos (by simp [h3])], by simp [h1, h2, h3, he']⟩
     . exact ⟨false, by rw [if_pos (by simp [h1]), if_pos (by simp [h2]), if_neg (by simp [h3])], by simp [h3]⟩
   . exact ⟨false, by rw [if_pos (by simp [h1]), if_neg (by simp [h2])], by simp [h2]⟩
 . exact ⟨false, by rw [if_neg (by simp [h1])], by simp [h1]⟩
theorem Goes.find {R T : Type} {L : Nat -> Nat -> Option R} {M : Nat -> Option R} {n : Nat} (i0 : Nat) (f : Nat -> Option T) (res : T -> R)
   (hstep : ∀ i, i0 ≤ i -> i < n -> (f i = none /\ Goes (fun k => L k i) (fun k => L k (i + 1))) ∨ (∃ t, f i = some t /\ Ev (fun k => L k i) (res t)))
   (hend : Goes (fun k => L k n) M) (i : Nat) (h0 : i0 ≤ i) (hi : i ≤ n) :
   ((List.range' i (n - i)).findSome? f = none /\ Goes (fun k => L k i) M) ∨ (∃ t, (List.range' i (n - i)).findSome? f = some t /\ Ev (fun k => L k i) (res t)) := by
 have key : ∀ m i, i0 ≤ i -> i + m = n -> ((List.range' i m).findSome? f = none /\ Goes (fun k => L k i) M) ∨ (∃ t, (List.range' i m).findSome? f = some t /\ Ev (fun k => L k i) (res t)) := by
   intro m;induction m with
   | zero => intro i h0 hi; obtain rfl : i = n := by omega
             exact .inl ⟨rfl, hend⟩
   | succ m ih =>
     intro i h0 hi;rw [List.range'_succ, List.findSome?_cons];rcases hstep i h0 (by omega) with ⟨h1, h2⟩ | ⟨t, h1, h2⟩
     . rw [h1];rcases ih (i + 1) (by omega) (by omega) with ⟨h3, h4⟩ | ⟨t, h3, h4⟩
       . exact .inl ⟨h3, h2.trans h4⟩
       . exact .inr ⟨t, h3, h2 _ h4⟩
     . rw [h1]; exact .inr ⟨t, rfl, h2⟩
 exact key (n - i) i h0 (by omega)
def A0z (s : ShfV) (i j : Nat) : MatV := s.2.2.2.getD (off s.1 i + j) (0, 0, 0, [])
theorem A2B {c : List (List Int)} (h : CplxOk c) {k i : Nat} (hk : k < c.length) (hi : i < (fcs c k).length) : ∃ f : Nat, (fcs c k).getD i 0 = (f : Int) /\ f < c.length /\ c.getD f [] = A0B (c.getD k []) i /\ i < (c.getD k []).length /\ 1 < (c.getD k []).length := by
 rw [A0L] at hi;have h1 : 1 < (c.getD k []).length := by
   by_cases h1 : 1 < (c.getD k []).length
   . exact h1
   . rw [if_neg h1] at hi; omega
 rw [if_pos h1] at hi;have hf : (A0G (c.getD k [])) = (List.range (c.getD k []).length).map (A0B (c.getD k [])) := by rw [A0G, if_pos h1]
 have hm : A0B (c.getD k []) i ∈ A0G (c.getD k []) := by rw [hf]; exact List.mem_map.2 ⟨i, List.mem_range.2 hi, rfl⟩
 obtain ⟨h2, h3⟩ := A0m (A1c h hk hm);refine ⟨_, ?_, h2, h3, hi, h1⟩;rw [fcs, hf];obtain ⟨s, hs⟩ : ∃ s, c.getD k [] = s := ⟨_, rfl⟩;rw [hs] at hi ⊢;simp only [List.getD_eq_getElem?_getD, List.getElem?_map, List.getElem?_range hi, Option.map_some, Option.getD_some]
theorem Ae8.val (s : ShfV) (h : CplxOk s.1) (n : Nat) (hn : n ≤ s.1.length) : Ae8.F (s, (n : Int), ()) = some ((((off s.1 n : Nat) : Int), ()), ()) := by
 obtain ⟨c, p, st, ms⟩ := s;have h : CplxOk c := h;have hn : n ≤ c.length := hn;have hcl := h.1;have hos := A0p h hn;have hcut : cutL c (0 : Int) (n : Int) = c.take n := by simp [cutL]
 have hlen : (c.take n).length = n := by simp; omega
 refine Ae8.of _ _ _ _ _ (Ev.of_eq (N := fun k => Ae8.l3 k 0 (c.take n) (n : Int) ((0 : Nat) : Int)) ?_ fun k => by rw [Ae8.T, if_pos (by omega), hcut, hlen]; rfl);obtain ⟨x, hx, hg⟩ := Goes.loop (R := ((Int × Unit) × Unit)) (fun k i (x : Int) => Ae8.l3 k x (c.take n) (n : Int) (i : Int)) n (fun i x => x = (off c i : Int)) (fun i x hi h2 => ⟨_, rfl, Goes.succ fun k => by
   have hic : i < c.length := by omega
   have hoff := A0p h (show i ≤ c.length by omega);have h4 := (h.2 i hic).1.1.2;have ht : (c.take n).getD i [] = c.getD i [] := by simp only [List.getD_eq_getElem?_getD, List.getElem?_take, hi, if_true]
   rw [Ae8.l3_eq, if_pos (ltI.2 hi), if_pos (by rw [hlen]; omega)];simp only [Int.toNat_natCast, ht];rw [off, A0L];by_cases h1 : 1 < (c.getD i []).length
   . rw [if_pos (by simp only [decide_eq_true_eq]; omega), Ab1.eq, Ab1.T, if_pos h1];simp only [Option.bind_some];rw [A0w (by omega) (by omega), A0v (by omega), h2];congr 1
   . rw [if_neg (by simp only [decide_eq_true_eq]; omega), if_neg h1, A0v (by omega), h2];rfl⟩) 0 0 (Nat.zero_le _) rfl
 refine hg _ ((Ev.const _).succ fun k => ?_);rw [Ae8.l3_eq, if_neg (by simp), hx]
theorem Ad4.val (s : ShfV) (h : A0I s) (i j : Nat) (hi : i < s.1.length) (hj : j < (fcs s.1 i).length) : Ad4.F (s, (i : Int), (j : Int), ()) = some ((A0z s i j, ()), ()) := by
 have h1 := Ae8.val s h.1 i (by omega);have h2 := A2N hi hj;have h3 := h.2.2.2.1;have h4 := A0p h.1 (Nat.le_refl s.1.length);have h5 := h.1.1;have hT : Ad4.F (s, (i : Int), (j : Int), ()) = Ad4.T s.1 s.2.1 s.2.2.1 s.2.2.2 (i : Int) (j : Int) := Ad4.eq _ _ _ _ _ _;have hw : IntKind.i64.wrap (((off s.1 i : Nat) : Int) + (j : Int)) = ((off s.1 i + j : Nat) : Int) := by rw [A0w (by omega) (by omega)]; omega
 have h1 : Ae8.F ((s.1, (s.2.1, (s.2.2.1, s.2.2.2))), (i : Int), ()) = _ := h1;rw [hT, Ad4.T, h1];simp only [Option.bind_some, hw];rw [if_pos (by omega)];simp only [Int.toNat_natCast];rfl
theorem Aa7.val (s : ShfV) (h : A0I s) (i j : Nat) (hi : i < s.1.length) (hj : j < (fcs s.1 i).length) : Aa7.F (s, (i : Int), (j : Int), ()) = some ((A0z s i j, ()), ()) := by
 have h2 := A2N hi hj;have h3 := h.2.2.2.1;have h4 := A0p h.1 (Nat.le_refl s.1.length);have h5 := h.1.1;have h1 := Ab7.val s.1 h.1 i (by omega) j (by omega);have hT : Aa7.F (s, (i : Int), (j : Int), ()) = Aa7.T s.1 s.2.1 s.2.2.1 s.2.2.2 (i : Int) (j : Int) := Aa7.eq _ _ _ _ _ _;rw [hT, Aa7.T, h1];simp only [Option.bind_some];rw [if_pos (by omega)];simp only [Int.toNat_natCast];rfl
def fc (c : List (List Int)) (k i : Nat) : Nat := ((fcs c k).getD i 0).toNat
def sqA (s : ShfV) (k i j : Nat) : MatV := mulM (A0z s k i) (A0z s (fc s.1 k i) (j - 1))
def sqB (s : ShfV) (k i j : Nat) : MatV := mulM (A0z s k j) (A0z s (fc s.1 k j) i)
theorem A1J {s : ShfV} (h : A0I s) {i j : Nat} (hi : i < s.1.length) (hj : j < (fcs s.1 i).length) : A2w s.1 s.2.1 s.2.2.1 (A0z s i j) i j := h.2.2.2.2 i hi j hj
structure SqFit (s : ShfV) (k i j : Nat) (f : Nat) : Prop where
 at_ : (fcs s.1 k).getD i 0 = (f : Int)
 fc_ : fc s.1 k i = f
 lt : f < s.1.length
 jlt : j < (fcs s.1 f).length
 ilt : i < (fcs s.1 k).length
 dir : Ah8.F (A0z s k i, A0z s f j, ()) = some ((mulM (A0z s k i) (A0z s f j), ()), ())
 tim : Ac5.F (A0z s k i, A0z s f j, ()) = some ((mulM (A0z s k i) (A0z s f j), ()), ())
 ok : MatOk (mulM (A0z s k i) (A0z s f j))
theorem A2o {s : ShfV} (h : A0I s) {k i j : Nat} (hk : k < s.1.length) (h3 : 2 < (s.1.getD k []).length) (hi : i < (s.1.getD k []).length) (hj : j + 1 < (s.1.getD k []).length) : ∃ f, SqFit s k i j f := by
 have hil : i < (fcs s.1 k).length := by rw [A0L, if_pos (by omega)]; exact hi
 obtain ⟨f, h1, h2, h4, h5, h6⟩ := A2B h.1 hk hil;have hfl : (s.1.getD f []).length = (s.1.getD k []).length - 1 := by rw [h4]; exact A0b hi
 have hjl : j < (fcs s.1 f).length := by rw [A0L, if_pos (by omega)]; omega
 have m1 := A1J h hk hil;have m2 := A1J h h2 hjl;have hp : (A0z s k i).1 = (A0z s f j).1 := by rw [m1.2.1, m2.2.1]
 have hs : (A0z s k i).2.2.1 = (A0z s f j).2.1 := by rw [m1.2.2.2, m2.2.2.1, h1]; rfl
 exact ⟨f, h1, by rw [fc, h1, Int.toNat_natCast], h2, hjl, hil, Ah8.val _ _ m1.1 m2.1 hp hs, Ac5.val _ _ m1.1 m2.1 hp hs, mulM_ok m1.1 m2.1⟩
theorem MatOk.small {m : MatV} (h : MatOk m) : SmM m := by
 have := mul32 h.2.1 h.2.2.1;have := h.2.2.2.1;unfold SmM Sm;omega
noncomputable def A1Q (s : ShfV) (k i j : Nat) : Option (Nat × Nat × Nat) := @ite _ (sqA s k i j = sqB s k i j) (Classical.propDecidable _) none (some (k, i, j))
noncomputable def A2q (s : ShfV) (k n i : Nat) : Option (Nat × Nat × Nat) := (List.range' (i + 1) (n - (i + 1))).findSome? (A1Q s k i)
noncomputable def A1y (s : ShfV) (k : Nat) : Option (Nat × Nat × Nat) := if (s.1.getD k []).length < 3 then none else (List.range' 0 ((s.1.getD k []).length - 0)).findSome? (A2q s k (s.1.getD k []).length)
noncomputable def A1x (s : ShfV) : Option (Nat × Nat × Nat) := (List.range' 0 (s.1.length - 0)).findSome? (A1y s)
theorem Aa9.val (s : ShfV) (h : A0I s) : Aa9.F (s, ()) = some ((match A1x s with | none => (0, 0, false, ()) | some (k, i, j) => ((k : Int), (fcs s.1 (fc s.1 k i)).getD (j - 1) 0, true, ())), ()) := by
 have hcl := h.1.1;have hT : ∀ r, Ev (fun k => Aa9.T k s.1 s.2.1 s.2.2.1 s.2.2.2) r -> Aa9.F (s, ()) = some r := fun r hr => Aa9.of _ _ _ _ hr;have res : ∀ t : Nat × Nat × Nat, ((Int × Int × Bool × Unit) × Unit) := fun t => (((t.1 : Int), (fcs s.1 (fc s.1 t.1 t.2.1)).getD (t.2.2 - 1) 0, true, ()), ());have main := Goes.find (R := ((Int × Int × Bool × Unit) × Unit)) (L := fun n k => Aa9.l2 n s.1 (s.1.length : Int) (k : Int) s.1 s.2.1 s.2.2.1 s.2.2.2) (M := fun _ => some ((0, 0, false, ()), ())) (n := s.1.length) 0 (A1y s) (fun t : Nat × Nat × Nat => (((t.1 : Int), (fcs s.1 (fc s.1 t.1 t.2.1)).getD (t.2.2 - 1) 0, true, ()), ())) (fun k _ hk => by
   have E := fun n => Aa9.l2_eq n s.1 (s.1.length : Int) (k : Int) s.1 s.2.1 s.2.2.1 s.2.2.2;simp only [if_pos (ltI.2 hk), if_pos (idxI.2 hk), Int.toNat_natCast, A0v (show k < 4611686018427387904 by omega), Ac1.val s.1 h.1 k hk, Option.bind_some] at E;by_cases h3 : (s.1.getD k []).length < 3
   . exact .inl ⟨by rw [A1y, if_pos h3], Goes.succ fun n => by rw [E, if_pos (by simp only [decide_eq_true_eq]; omega)]⟩
   obtain ⟨t, ht⟩ : ∃ t, s.1.getD k [] = t := ⟨_, rfl⟩;have h4 := (h.1.2 k hk).1.1.2;rw [ht] at h4 h3;have hw : A1y s k = (List.range' 0 (t.length - 0)).findSome? (A2q s k t.length) := by rw [A1y, ht, if_neg h3]
   rw [hw];simp only [ht] at E;have e0 : Goes (fun n => Aa9.l2 n s.1 (s.1.length : Int) (k : Int) s.1 s.2.1 s.2.2.1 s.2.2.2) (fun n => Aa9.l8 n t (k : Int) s.1 (s.1.length : Int) (k : Int) (t.length : Int) ((0 : Nat) : Int) s.1 s.2.1 s.2.2.1 s.2.2.2 (fcs s.1 k)) := Goes.succ fun n => by rw [E, if_neg (by simp only [decide_eq_true_eq]; omega)]; rfl
   have inner := Goes.find (R := ((Int × Int × Bool × Unit) × Unit)) (L := fun n i => Aa9.l8 n t (k : Int) s.1 (s.1.length : Int) (k : Int) (t.length : Int) (i : Int) s.1 s.2.1 s.2.2.1 s.2.2.2 (fcs s.1 k)) (M := fun n => Aa9.l2 n s.1 (s.1.length : Int) ((k + 1 : Nat) : Int) s.1 s.2.1 s.2.2.1 s.2.2.2) (n := t.length) 0 (A2q s k t.length) (fun t : Nat × Nat × Nat => (((t.1 : Int), (fcs s.1 (fc s.1 t.1 t.2.1)).getD (t.2.2 - 1) 0, true, ()), ())) (fun i _ hi => by
     have e1 : Goes (fun n => Aa9.l8 n t (k : Int) s.1 (s.1.length : Int) (k : Int) (t.length : Int) (i : Int) s.1 s.2.1 s.2.2.1 s.2.2.2 (fcs s.1 k)) (fun n => Aa9.l11 n t (k : Int) (i : Int) ((i + 1 : Nat) : Int) s.1 (s.1.length : Int) (k : Int) (t.length : Int) (i : Int) s.1 s.2.1 s.2.2.1 s.2.2.2 (fcs s.1 k)) := Goes.succ fun n => by rw [Aa9.l8_eq, if_pos (ltI.2 hi), A0v (by omega)]
     have deep := Goes.find (R := ((Int × Int × Bool × Unit) × Unit)) (L := fun n j => Aa9.l11 n t (k : Int) (i : Int) (j : Int) s.1 (s.1.length : Int) (k : Int) (t.length : Int) (i : Int) s.1 s.2.1 s.2.2.1 s.2.2.2 (fcs s.1 k)) (M := fun n => Aa9.l8 n t (k : Int) s.1 (s.1.length : Int) (k : Int) (t.length : Int) ((i + 1 : Nat) : Int) s.1 s.2.1 s.2.2.1 s.2.2.2 (fcs s.1 k)) (n := t.length) (i + 1) (A1Q s k i) (fun t : Nat × Nat × Nat => (((t.1 : Int), (fcs s.1 (fc s.1 t.1 t.2.1)).getD (t.2.2 - 1) 0, true, ()), ())) (fun j hij hj => by
       obtain ⟨f, F⟩ := A2o h hk (by rw [ht]; omega) (show i < _ by rw [ht]; omega) (show j - 1 + 1 < _ by rw [ht]; omega);obtain ⟨g, G⟩ := A2o h hk (by rw [ht]; omega) (show j < _ by rw [ht]; omega) (show i + 1 < _ by rw [ht]; omega);have hA : sqA s k i j = mulM (A0z s k i) (A0z s f (j - 1)) := by rw [sqA, F.fc_]
       have hB : sqB s k i j = mulM (A0z s k j) (A0z s g i) := by rw [sqB, G.fc_]
       obtain ⟨b, hb, hb'⟩ := Aj5.same (mulM (A0z s k i) (A0z s f (j - 1))) (mulM (A0z s k j) (A0z s g i)) F.ok.small;have E2 := fun n => Aa9.l11_eq n t (k : Int) (i : Int) (j : Int) s.1 (s.1.length : Int) (k : Int) (t.length : Int) (i : Int) s.1 s.2.1 s.2.2.1 s.2.2.2 (fcs s.1 k);simp only [if_pos (ltI.2 hj), Ad4.val s h k i hk F.ilt, Ad4.val s h k j hk G.ilt, A2X (show 0 < j by omega) (show j < 4611686018427387904 by omega), Option.bind_some, if_pos (idxI.2 F.ilt), if_pos (idxI.2 G.ilt), Int.toNat_natCast, F.at_, G.at_, Ad4.val s h f (j - 1) F.lt F.jlt, Ad4.val s h g i G.lt G.jlt, F.dir, G.dir, hb, Ac1.val s.1 h.1 f F.lt, if_pos (idxI.2 F.jlt), A0v (show j < 4611686018427387904 by omega)] at E2;cases b with
       | true => exact .inl ⟨by rw [A1Q, if_pos (by rw [hA, hB]; exact hb'.1 rfl)], Goes.succ fun n => by rw [E2, if_neg (by simp)]⟩
       | false => exact .inr ⟨(k, i, j), by rw [A1Q, if_neg (by rw [hA, hB]; exact fun e => absurd (hb'.2 e) (by simp))], (Ev.const _).succ fun n => by rw [E2, if_pos (by simp)]; simp only [F.fc_]⟩) (Goes.succ fun n => by rw [Aa9.l11_eq, if_neg (by simp), A0v (by omega)]) (i + 1) (Nat.le_refl _) (by omega)
     rcases deep with ⟨d1, d2⟩ | ⟨r, d1, d2⟩
     . exact .inl ⟨d1, e1.trans d2⟩
     . exact .inr ⟨r, d1, e1 _ d2⟩) (Goes.succ fun n => by rw [Aa9.l8_eq, if_neg (by simp), A0v (by omega)]) 0 (Nat.le_refl _) (Nat.zero_le _)
   rcases inner with ⟨d1, d2⟩ | ⟨r, d1, d2⟩
   . exact .inl ⟨d1, e0.trans d2⟩
   . exact .inr ⟨r, d1, e0 _ d2⟩) (Goes.succ fun n => by rw [Aa9.l2_eq, if_neg (by simp)]) 0 (Nat.le_refl _) (Nat.zero_le _)
 rcases main with ⟨d1, d2⟩ | ⟨⟨k, i, j⟩, d1, d2⟩
 . rw [A1x, d1];exact hT _ ((d2 _ (Ev.const _)).of_eq fun n => rfl)
 . rw [A1x, d1];exact hT _ (d2.of_eq fun n => rfl)
theorem Ak2.val (m : MatV) (p a b : Int) (hm : m.2.2.2.length < 4611686018427387904) : ∃ v, Ak2.F (m, p, a, b, ()) = some ((v, ()), ()) /\ (v = true ↔ MatOk m /\ m.1 = p /\ m.2.1 = b /\ m.2.2.1 = a) := by
 obtain ⟨q, r, cc, xs⟩ := m;obtain ⟨v1, h1, h1'⟩ := Aj7.val (q, r, cc, xs) hm;rw [Ak2.eq, Ak2.T, h1];simp only [Option.bind_some];cases v1 with
 | false => exact ⟨false, by rw [if_neg (by simp)], by simp only [Bool.false_eq_true, false_iff]; exact fun hh => absurd (h1'.2 hh.1) (by simp)⟩
 | true =>
   have hmat := h1'.1 rfl;rw [if_pos rfl];by_cases e1 : q = p
   . rw [if_pos (by simp only [beq_iff_eq]; exact e1)];by_cases e2 : r = b
     . rw [if_pos (by simp only [beq_iff_eq]; exact e2)];exact ⟨_, rfl, by simp only [beq_iff_eq]; exact ⟨fun e3 => ⟨hmat, e1, e2, e3⟩, fun hh => hh.2.2.2⟩⟩
     . exact ⟨false, by rw [if_neg (by simp only [beq_iff_eq]; exact e2)], by simp only [Bool.false_eq_true, false_iff]; exact fun hh => e2 hh.2.2.1⟩
   . exact ⟨false, by rw [if_neg (by simp only [beq_iff_eq]; exact e1)], by simp only [Bool.false_eq_true, false_iff]; exact fun hh => e1 hh.2.1⟩
theorem A1s {c : List (List Int)} : ∀ {n q : Nat}, q < off c n -> ∃ s, s < n /\ ∃ j, j < (fcs c s).length /\ q = off c s + j := by
 intro n;induction n with
 | zero => intro q h; simp [off] at h
 | succ n ih =>
   intro q h;by_cases hq : q < off c n
   . obtain ⟨s, hs, j, hj, e⟩ := ih hq;exact ⟨s, by omega, j, hj, e⟩
   . rw [off] at h;exact ⟨n, by omega, q - off c n, by omega, by omega⟩
theorem Ac6.val (s : ShfV) (hsm : SmSh s) : ∃ v, Ac6.F (s, ()) = some ((v, ()), ()) /\ (v = true ↔ A0I s) := by
 obtain ⟨c, p, st, ms⟩ := s;obtain ⟨hc, hst, hms⟩ := hsm;have hc : SmL c := hc;have hst : st.length ≤ 1048576 := hst;have hms : SmMs ms := hms;unfold A0I;simp only [];obtain ⟨v1, h1, h1'⟩ := Ae6.val c hc;obtain ⟨v2, h2, h2'⟩ := Ad2.val p;obtain ⟨v3, h3, h3'⟩ := Ad6.val c st hc.1 hst;cases v1 with
 | false => exact ⟨false, Ac6.of _ _ _ _ ((Ev.const _).of_eq fun k => by rw [Ac6.T, h1]; rfl), by simp only [Bool.false_eq_true, false_iff]; exact fun hh => absurd (h1'.2 hh.1) (by simp)⟩
 | true =>
 cases v2 with
 | false => exact ⟨false, Ac6.of _ _ _ _ ((Ev.const _).of_eq fun k => by rw [Ac6.T, h1, h2]; rfl), by simp only [Bool.false_eq_true, false_iff]; exact fun hh => absurd (h2'.2 hh.2.1) (by simp)⟩
 | true =>
 cases v3 with
 | false => exact ⟨false, Ac6.of _ _ _ _ ((Ev.const _).of_eq fun k => by rw [Ac6.T, h1, h2, h3]; rfl), by simp only [Bool.false_eq_true, false_iff]; exact fun hh => absurd (h3'.2 hh.2.2.1) (by simp)⟩
 | true =>
 have hcx := h1'.1 rfl;have hstalk := h3'.1 rfl;have hcl := hcx.1;have hoff := A0p hcx (Nat.le_refl c.length);have hal := A0T c c.length;obtain ⟨A, hA⟩ : ∃ A, arr c c.length = A := ⟨_, rfl⟩;rw [hA] at hal;obtain ⟨b, hb, hb'⟩ := Ev.allP (L := fun k q => Ac6.l5 k (A.length : Int) (q : Int) c p st ms A) (a := ()) (b := ()) (n := A.length) (fun q => q < ms.length /\ ∀ i j, i < c.length -> j < (fcs c i).length -> q = off c i + j -> A2w c p st (ms.getD q (0, 0, 0, [])) i j) ((A.length : Int) == (ms.length : Int)) (fun q hq => by
   obtain ⟨i, hi, j, hj, e⟩ := A1s (show q < off c c.length by omega);have hg := A1b c hi hj;rw [<- e, hA] at hg;obtain ⟨x, hx, hxc⟩ := A2b hcx hi (A0x (0 : Int) hj);have E := fun k => Ac6.l5_eq k (A.length : Int) (q : Int) c p st ms A;simp only [if_pos (ltI.2 hq), if_pos (idxI.2 hq), Int.toNat_natCast, hg, A0v (show q < 4611686018427387904 by omega)] at E;have huniq : ∀ i' j', i' < c.length -> j' < (fcs c i').length -> q = off c i' + j' -> i' = i /\ j' = j := fun i' j' hi' hj' e' => by
     have g2 := A1b c hi' hj';rw [<- e', hA, hg] at g2;simp only [Prod.mk.injEq, Int.ofNat_inj] at g2;exact ⟨g2.1.symm, g2.2.1.symm⟩
   by_cases hqm : q < ms.length
   . have hml : (ms.getD q (0, 0, 0, [])).2.2.2.length < 4611686018427387904 := by
       have : (ms.getD q (0, 0, 0, [])).2.2.2.length ≤ 1048576 := hms.2 _ (A0x _ hqm);omega
     obtain ⟨v, hv, hv'⟩ := Ak2.val (ms.getD q (0, 0, 0, [])) p (st.getD ((fcs c i).getD j 0).toNat 0) (st.getD i 0) hml;have hst2 := hstalk.1;simp only [if_neg (show ¬ decide ((q : Int) ≥ (ms.length : Int)) = true by simp only [decide_eq_true_eq]; omega), if_pos (idxI.2 hqm), if_pos (show 0 ≤ (fcs c i).getD j 0 /\ (fcs c i).getD j 0 < (st.length : Int) by rw [hx]; omega), if_pos (show 0 ≤ (i : Int) /\ (i : Int) < (st.length : Int) by omega), hv, Option.bind_some] at E;cases v with
     | true => exact .inl ⟨⟨hqm, fun i' j' hi' hj' e' => by obtain ⟨rfl, rfl⟩ := huniq i' j' hi' hj' e'; exact hv'.1 rfl⟩, fun k => by rw [E]; rfl⟩
     | false => exact .inr ⟨fun hh => absurd (hv'.2 (hh.2 i j hi hj e)) (by simp), fun k => by rw [E]; rfl⟩
   . exact .inr ⟨fun hh => hqm hh.1, fun k => by rw [E, if_pos (by simp only [decide_eq_true_eq]; omega)]⟩) ((Ev.const _).succ fun k => by rw [Ac6.l5_eq, if_neg (by simp)]) 0 (Nat.zero_le _)
 refine ⟨b, Ac6.of _ _ _ _ (hb.of_eq fun k => ?_), hb'.trans ?_⟩
 . rw [Ac6.T, h1, h2, h3, Ab8.val c hcx, hA]; rfl
 . simp only [beq_iff_eq, Int.ofNat_inj];constructor
   . rintro ⟨e, hall⟩;refine ⟨hcx, h2'.1 rfl, hstalk, by omega, fun i hi j hj => ?_⟩;have := A2N hi hj;exact (hall (off c i + j) (Nat.zero_le _) (by omega)).2 i j hi hj rfl
   . rintro ⟨-, -, -, e, hall⟩;exact ⟨by omega, fun q _ hq => ⟨by omega, fun i j hi hj e' => e' ▸ hall i hi j hj⟩⟩
theorem Ae4.val (s : ShfV) (h : A0I s) {k i j : Nat} (hk : k < s.1.length) (h3 : 2 < (s.1.getD k []).length) (hi : i < (s.1.getD k []).length) (hj : j < (s.1.getD k []).length) (hij : i ≠ j) :
   Ae4.F (s, (k : Int), (i : Int), (j : Int), ()) = some ((mulM (A0z s k i) (A0z s (fc s.1 k i) (if i < j then j - 1 else j)), ()), ()) := by
 have hT : Ae4.F (s, (k : Int), (i : Int), (j : Int), ()) = Ae4.T s.1 s.2.1 s.2.2.1 s.2.2.2 (k : Int) (i : Int) (j : Int) := Ae4.eq _ _ _ _ _ _ _;have h4 := (h.1.2 k hk).1.1.2;have hcl := h.1.1;rw [hT, Ae4.T, Ab3.val s.1 h.1 k hk];simp only [Option.bind_some];by_cases hlt : i < j
 . obtain ⟨f, F⟩ := A2o h hk h3 hi (show j - 1 + 1 < _ by omega);have g1 : Aa7.F ((s.1, (s.2.1, (s.2.2.1, s.2.2.2))), (k : Int), (i : Int), ()) = _ := Aa7.val s h k i hk F.ilt;have g2 : Aa7.F ((s.1, (s.2.1, (s.2.2.1, s.2.2.2))), (f : Int), ((j - 1 : Nat) : Int), ()) = _ := Aa7.val s h f (j - 1) F.lt F.jlt;rw [if_pos (idxI.2 F.ilt), if_pos (by simp only [decide_eq_true_eq]; omega), g1, A2X (by omega) (by omega)];simp only [Option.bind_some, Int.toNat_natCast, F.at_, g2, F.tim];rw [if_pos hlt, F.fc_]
 . obtain ⟨f, F⟩ := A2o h hk h3 hi (show j + 1 < _ by omega);have g1 : Aa7.F ((s.1, (s.2.1, (s.2.2.1, s.2.2.2))), (k : Int), (i : Int), ()) = _ := Aa7.val s h k i hk F.ilt;have g2 : Aa7.F ((s.1, (s.2.1, (s.2.2.1, s.2.2.2))), (f : Int), (j : Int), ()) = _ := Aa7.val s h f j F.lt F.jlt;rw [if_pos (idxI.2 F.ilt), if_neg (by simp only [decide_eq_true_eq]; omega), g1];simp only [Option.bind_some, Int.toNat_natCast, F.at_, g2, F.tim];rw [if_neg hlt, F.fc_]
theorem Aa8.val (s : ShfV) (h : A0I s) : Aa8.F (s, ()) = some ((match A1x s with | none => (-1, 0, 0, ()) | some (k, i, j) => ((k : Int), (i : Int), (j : Int), ())), ()) := by
 have hcl := h.1.1;have hT : ∀ r, Ev (fun k => Aa8.T k s.1 s.2.1 s.2.2.1 s.2.2.2) r -> Aa8.F (s, ()) = some r := fun r hr => Aa8.of _ _ _ _ hr;have main := Goes.find (R := ((Int × Int × Int × Unit) × Unit)) (L := fun n k => Aa8.l2 n s.1 s.2.1 s.2.2.1 s.2.2.2 (k : Int)) (M := fun _ => some ((-1, 0, 0, ()), ())) (n := s.1.length) 0 (A1y s) (fun t : Nat × Nat × Nat => (((t.1 : Int), (t.2.1 : Int), (t.2.2 : Int), ()), ())) (fun k _ hk => by
   obtain ⟨t, ht⟩ : ∃ t, s.1.getD k [] = t := ⟨_, rfl⟩;have h4 := (h.1.2 k hk).1.1;rw [ht] at h4;have e0 : Goes (fun n => Aa8.l2 n s.1 s.2.1 s.2.2.1 s.2.2.2 (k : Int)) (fun n => Aa8.l6 n s.1 s.2.1 s.2.2.1 s.2.2.2 (k : Int) (t.length : Int) ((0 : Nat) : Int)) := Goes.succ fun n => by rw [Aa8.l2_eq, if_pos (ltI.2 hk), if_pos (idxI.2 hk)]; simp only [Int.toNat_natCast, ht]; rfl
   by_cases h3 : t.length < 3
   . exact .inl ⟨by rw [A1y, ht, if_pos h3], e0.trans (Goes.succ fun n => by rw [Aa8.l6_eq, if_pos (by simp only [decide_eq_true_eq]; omega), if_neg (by simp only [decide_eq_true_eq]; omega), A0v (by omega)])⟩
   have hw : A1y s k = (List.range' 0 (t.length - 0)).findSome? (A2q s k t.length) := by rw [A1y, ht, if_neg h3]
   rw [hw];have inner := Goes.find (R := ((Int × Int × Int × Unit) × Unit)) (L := fun n i => Aa8.l6 n s.1 s.2.1 s.2.2.1 s.2.2.2 (k : Int) (t.length : Int) (i : Int)) (M := fun n => Aa8.l2 n s.1 s.2.1 s.2.2.1 s.2.2.2 ((k + 1 : Nat) : Int)) (n := t.length) 0 (A2q s k t.length) (fun t : Nat × Nat × Nat => (((t.1 : Int), (t.2.1 : Int), (t.2.2 : Int), ()), ())) (fun i _ hi => by
     have e1 : Goes (fun n => Aa8.l6 n s.1 s.2.1 s.2.2.1 s.2.2.2 (k : Int) (t.length : Int) (i : Int)) (fun n => Aa8.l9 n s.1 s.2.1 s.2.2.1 s.2.2.2 (k : Int) (t.length : Int) (i : Int) ((i + 1 : Nat) : Int)) := Goes.succ fun n => by rw [Aa8.l6_eq, if_pos (ltI.2 hi), if_pos (by simp only [decide_eq_true_eq]; omega), A0v (by omega)]
     have deep := Goes.find (R := ((Int × Int × Int × Unit) × Unit)) (L := fun n j => Aa8.l9 n s.1 s.2.1 s.2.2.1 s.2.2.2 (k : Int) (t.length : Int) (i : Int) (j : Int)) (M := fun n => Aa8.l6 n s.1 s.2.1 s.2.2.1 s.2.2.2 (k : Int) (t.length : Int) ((i + 1 : Nat) : Int)) (n := t.length) (i + 1) (A1Q s k i) (fun t : Nat × Nat × Nat => (((t.1 : Int), (t.2.1 : Int), (t.2.2 : Int), ()), ())) (fun j hij hj => by
       have A := Ae4.val s h hk (by rw [ht]; omega) (show i < _ by rw [ht]; omega) (show j < _ by rw [ht]; omega) (by omega);have B := Ae4.val s h hk (by rw [ht]; omega) (show j < _ by rw [ht]; omega) (show i < _ by rw [ht]; omega) (by omega);rw [if_pos (by omega)] at A;rw [if_neg (by omega)] at B;have A : Ae4.F ((s.1, (s.2.1, (s.2.2.1, s.2.2.2))), (k : Int), (i : Int), (j : Int), ()) = some ((sqA s k i j, ()), ()) := A;have B : Ae4.F ((s.1, (s.2.1, (s.2.2.1, s.2.2.2))), (k : Int), (j : Int), (i : Int), ()) = some ((sqB s k i j, ()), ()) := B;obtain ⟨f, F⟩ := A2o h hk (by rw [ht]; omega) (show i < _ by rw [ht]; omega) (show j - 1 + 1 < _ by rw [ht]; omega);have hA : sqA s k i j = mulM (A0z s k i) (A0z s f (j - 1)) := by rw [sqA, F.fc_]
       obtain ⟨b, hb, hb'⟩ := Ac4.same (sqA s k i j) (sqB s k i j) (by rw [hA]; exact F.ok.small);have E2 := fun n => Aa8.l9_eq n s.1 s.2.1 s.2.2.1 s.2.2.2 (k : Int) (t.length : Int) (i : Int) (j : Int);simp only [if_pos (ltI.2 hj), A, B, Option.bind_some, hb, A0v (show j < 4611686018427387904 by omega)] at E2;cases b with
       | true => exact .inl ⟨by rw [A1Q, if_pos (hb'.1 rfl)], Goes.succ fun n => by rw [E2, if_neg (by simp)]⟩
       | false => exact .inr ⟨(k, i, j), by rw [A1Q, if_neg (fun e => absurd (hb'.2 e) (by simp))], (Ev.const _).succ fun n => by rw [E2, if_pos (by simp)]⟩) (Goes.succ fun n => by rw [Aa8.l9_eq, if_neg (by simp), A0v (by omega)]) (i + 1) (Nat.le_refl _) (by omega)
     rcases deep with ⟨d1, d2⟩ | ⟨r, d1, d2⟩
     . exact .inl ⟨d1, e1.trans d2⟩
     . exact .inr ⟨r, d1, e1 _ d2⟩) (Goes.succ fun n => by rw [Aa8.l6_eq, if_neg (by simp), A0v (by omega)]) 0 (Nat.le_refl _) (Nat.zero_le _)
   rcases inner with ⟨d1, d2⟩ | ⟨r, d1, d2⟩
   . exact .inl ⟨d1, e0.trans d2⟩
   . exact .inr ⟨r, d1, e0 _ d2⟩) (Goes.succ fun n => by rw [Aa8.l2_eq, if_neg (by simp)]) 0 (Nat.le_refl _) (Nat.zero_le _)
 rcases main with ⟨d1, d2⟩ | ⟨⟨k, i, j⟩, d1, d2⟩
 . rw [A1x, d1];exact hT _ ((d2 _ (Ev.const _)).of_eq fun n => rfl)
 . rw [A1x, d1];exact hT _ (d2.of_eq fun n => rfl)
def A0Y (s : ShfV) : Prop := A0I s /\ A1x s = none
theorem Ag5.val (s : ShfV) (hs : SmSh s) : ∃ v, Ag5.F (s, ()) = some ((v, ()), ()) /\ (v = true ↔ A0Y s) := by
 have hT : Ag5.F (s, ()) = Ag5.T s.1 s.2.1 s.2.2.1 s.2.2.2 := Ag5.eq _ _ _ _;obtain ⟨v, hv, hv'⟩ := Ac6.val s hs;have hv : Ac6.F ((s.1, (s.2.1, (s.2.2.1, s.2.2.2))), ()) = _ := hv;rw [hT, Ag5.T, hv];simp only [Option.bind_some];cases v with
 | false => exact ⟨false, by rw [if_pos (by simp)], by simp only [Bool.false_eq_true, false_iff]; exact fun h => absurd (hv'.2 h.1) (by simp)⟩
 | true =>
   have hok := hv'.1 rfl;have hw : Aa9.F ((s.1, (s.2.1, (s.2.2.1, s.2.2.2))), ()) = _ := Aa9.val s hok;rw [if_neg (by simp), hw];simp only [Option.bind_some];cases hwt : A1x s with
   | none => exact ⟨true, rfl, by simp [A0Y, hok, hwt]⟩
   | some t => obtain ⟨k, i, j⟩ := t; exact ⟨false, rfl, by simp [A0Y, hwt]⟩
theorem Ae3.val (s : ShfV) (hs : SmSh s) : ∃ v, Ae3.F (s, ()) = some ((v, ()), ()) /\ (v = true ↔ A0Y s) := by
 have hT : Ae3.F (s, ()) = Ae3.T s.1 s.2.1 s.2.2.1 s.2.2.2 := Ae3.eq _ _ _ _;obtain ⟨v, hv, hv'⟩ := Aa5.val s hs;have hv : Aa5.F ((s.1, (s.2.1, (s.2.2.1, s.2.2.2))), ()) = _ := hv;rw [hT, Ae3.T, hv];simp only [Option.bind_some];cases v with
 | false => exact ⟨false, by rw [if_pos (by simp)], by simp only [Bool.false_eq_true, false_iff]; exact fun h => absurd (hv'.2 h.1) (by simp)⟩
 | true =>
   have hok := hv'.1 rfl;have hw : Aa8.F ((s.1, (s.2.1, (s.2.2.1, s.2.2.2))), ()) = _ := Aa8.val s hok;rw [if_neg (by simp), hw];simp only [Option.bind_some];cases hwt : A1x s with
   | none => exact ⟨true, rfl, by simp [A0Y, hok, hwt]⟩
   | some t => obtain ⟨k, i, j⟩ := t; exact ⟨false, by simp, by simp [A0Y, hwt]⟩
theorem Af6.same (xs ys : List (List Int)) (h : SmL xs) : ∃ b, Af6.F (xs, ys, ()) = some ((b, ()), ()) /\ (b = true ↔ xs = ys) := by
 have hn := h.1;by_cases hl : xs.length = ys.length
 . obtain ⟨b, hb, hb'⟩ := A0U (fun k i => Af6.l4 k xs ys (i : Int)) xs ys [] hl (fun i hi => by
     obtain ⟨c, hc, hc'⟩ := Ac3.same (xs.getD i []) (ys.getD i []) (h.2 _ (A0x _ hi));exact ⟨c, hc', fun k => by rw [Af6.l4_eq, if_pos (ltI.2 hi), if_pos (idxI.2 hi), if_pos (idx2 (hl ▸ hi))]; simp only [Int.toNat_natCast, hc, Option.bind_some]; rw [A0v (by omega)]⟩) (fun k => by rw [Af6.l4_eq, if_neg (by simp)])
   exact ⟨b, Af6.of _ _ (hb.of_eq fun k => by rw [Af6.T, if_neg (by simp [hl])]; rfl), hb'⟩
 . exact ⟨false, Af6.of _ _ ((Ev.const _).of_eq fun k => by rw [Af6.T, if_pos (by simp; omega)]), by simp; intro e; exact hl (by rw [e])⟩
theorem Ak0.same (xs ys : List (List Int)) (h : SmL xs) : ∃ b, Ak0.F (xs, ys, ()) = some ((b, ()), ()) /\ (b = true ↔ xs = ys) := by
 have hn := h.1;rw [Ak0.eq, Ak0.T]
 suffices ∃ b, Ah3.F (xs, ys, Ab6.cloG (()), ()) = some ((b, ()), ()) /\ (b = true ↔ xs = ys) by
   obtain ⟨b, hb, hb'⟩ := this;rw [hb]; exact ⟨b, rfl, hb'⟩
 by_cases hl : xs.length = ys.length
 . obtain ⟨b, hb, hb'⟩ := A0U (fun k i => Ah3.l4 k ys (Ab6.cloG (())) xs xs.length (i : Int)) xs ys [] hl (fun i hi => by
     obtain ⟨c, hc, hc'⟩ := Ab6.same (xs.getD i []) (ys.getD i []) (h.2 _ (A0x _ hi));have hc2 : Ab6.cloG (()) (xs.getD i [], ys.getD i [], ()) = some (c, ()) := by
       show (Ab6.F (xs.getD i [], ys.getD i [], ())).map (·.1) = _;rw [hc]; rfl
     exact ⟨c, hc', fun k => by rw [Ah3.l4_eq, if_pos (ltI.2 hi), if_pos (idxI.2 hi), if_pos (idx2 (hl ▸ hi))]; simp only [Int.toNat_natCast, hc2, Option.bind_some]; rw [A0v (by omega)]⟩) (fun k => by rw [Ah3.l4_eq, if_neg (by simp)])
   exact ⟨b, Ah3.of _ _ _ (hb.of_eq fun k => by rw [Ah3.T, if_neg (by simp [hl])]; rfl), hb'⟩
 . exact ⟨false, Ah3.of _ _ _ ((Ev.const _).of_eq fun k => by rw [Ah3.T, if_pos (by simp; omega)]), by simp; intro e; exact hl (by rw [e])⟩
theorem Aj4.same (xs ys : List (List Int)) (h : SmL xs) : ∃ b, Aj4.F (xs, ys, ()) = some ((b, ()), ()) /\ (b = true ↔ xs = ys) := by
 obtain ⟨b, hb, hb'⟩ := Ak0.same xs ys h;rw [Aj4.eq, Aj4.T, hb];exact ⟨b, rfl, hb'⟩
theorem Ah4.val (xs : List ShfV) (f : ShfV × Unit -> Option (Bool × Unit)) (p : ShfV -> Bool) (hf : ∀ x ∈ xs, f (x, ()) = some (p x, ())) (hn : xs.length < 4611686018427387904) :
   ∃ r : Int, Ah4.F (xs, f, ()) = some ((r, ()), ()) /\ (0 ≤ r ↔ xs.any p = true) := by
 have main := Goes.find (R := ((Int × Unit) × Unit)) (L := fun n i => Ah4.l2 n xs f (xs.length : Int) (i : Int)) (M := fun _ => some ((-1, ()), ())) (n := xs.length) 0 (fun i => if p (xs.getD i ([], 0, [], [])) then some i else none) (fun i : Nat => (((i : Int), ()), ())) (fun i _ hi => by
   have E := fun n => Ah4.l2_eq n xs f (xs.length : Int) (i : Int);simp only [if_pos (ltI.2 hi), if_pos (idxI.2 hi), Int.toNat_natCast, hf _ (A0x _ hi), Option.bind_some, A0v (show i < 4611686018427387904 by omega)] at E;cases hp : p (xs.getD i ([], 0, [], [])) with
   | true => exact .inr ⟨i, by simp, (Ev.const _).succ fun n => by rw [E, hp]; rfl⟩
   | false => exact .inl ⟨by simp, Goes.succ fun n => by rw [E, hp]; rfl⟩) (Goes.succ fun n => by rw [Ah4.l2_eq, if_neg (by simp)]) 0 (Nat.le_refl _) (Nat.zero_le _)
 rcases main with ⟨d1, d2⟩ | ⟨i, d1, d2⟩
 . refine ⟨-1, Ah4.of _ _ ((d2 _ (Ev.const _)).of_eq fun n => rfl), ?_⟩;rw [List.findSome?_eq_none_iff] at d1;have : xs.any p = false := by
     rw [List.any_eq_false];intro x hx;obtain ⟨j, hj, rfl⟩ := List.getElem_of_mem hx;have := d1 j (by rw [List.mem_range']; exact ⟨j, by omega, by omega⟩);rw [A0q hj] at this;simpa using this
   simp [this]
 . refine ⟨i, Ah4.of _ _ (d2.of_eq fun n => rfl), ?_⟩;obtain ⟨j, hj, hj2⟩ := List.exists_of_findSome?_eq_some d1;rw [List.mem_range'] at hj;obtain ⟨a, ha, rfl⟩ := hj;split at hj2
   . rename_i hp;refine ⟨fun _ => List.any_eq_true.2 ⟨_, A0x ([], 0, [], []) (show 0 + 1 * a < xs.length by omega), hp⟩, fun _ => by omega⟩
   . cases hj2
theorem Ai1.val (xs : List ShfV) (f : ShfV × Unit -> Option (Bool × Unit)) (p : ShfV -> Bool) (hf : ∀ x ∈ xs, f (x, ()) = some (p x, ())) (hn : xs.length < 4611686018427387904) :
   Ai1.F (xs, f, ()) = some ((xs.any p, ()), ()) := by
 obtain ⟨r, hr, hr'⟩ := Ah4.val xs f p hf hn;rw [Ai1.eq, Ai1.T, hr];simp only [Option.bind_some];have : decide (r ≥ 0) = xs.any p := by
   rw [Bool.eq_iff_iff];simp only [decide_eq_true_eq, ge_iff_le, hr']
 rw [this]
def A1F (a b : ShfV) : Prop := a.1 = b.1 /\ a.2.1 = b.2.1
theorem Ai7.val (a b : ShfV) (h : SmL a.1) : ∃ v, Ai7.F (a, b, ()) = some ((v, ()), ()) /\ (v = true ↔ A1F a b) := by
 obtain ⟨c, p, st, ms⟩ := a;obtain ⟨c', p', st', ms'⟩ := b;obtain ⟨v, hv, hv'⟩ := Aj4.same c c' h;rw [Ai7.eq, Ai7.T, hv];simp only [Option.bind_some, A1F];cases v with
 | false => exact ⟨false, by rw [if_neg (by simp)], by simp only [Bool.false_eq_true, false_iff]; exact fun hh => absurd (hv'.2 hh.1) (by simp)⟩
 | true => exact ⟨_, by rw [if_pos rfl], by simp [hv'.1 rfl]⟩
noncomputable def A1B (a b : ShfV) : Int := @ite _ (A0Y a /\ A0Y b) (Classical.propDecidable _) (@ite _ (A1F a b) (Classical.propDecidable _) 0 6) 1
theorem pairC_zero {a b : ShfV} : A1B a b = 0 ↔ A0Y a /\ A0Y b /\ A1F a b := by
 unfold A1B;by_cases h : A0Y a /\ A0Y b
 . rw [if_pos h];by_cases h2 : A1F a b
   . rw [if_pos h2]; simp [h, h2]
   . rw [if_neg h2]; simp [h2]
 . rw [if_neg h];exact ⟨fun h => by omega, fun hh => absurd ⟨hh.1, hh.2.1⟩ h⟩
theorem Ag6.val (s : ShfV) (hs : SmSh s) : Ag6.cloG (()) (s, ()) = some (@decide (¬ A0Y s) (Classical.propDecidable _), ()) := by
 obtain ⟨v, hv, hv'⟩ := Ag5.val s hs;have hT : Ag6.F (s, ()) = Ag6.T s.1 s.2.1 s.2.2.1 s.2.2.2 := Ag6.eq _ _ _ _;have hv : Ag5.F ((s.1, (s.2.1, (s.2.2.1, s.2.2.2))), ()) = _ := hv;show (Ag6.F (s, ())).map (·.1) = _;rw [hT, Ag6.T, hv];simp only [Option.bind_some, Option.map_some];congr 2;cases v with
 | true => simp [hv'.1 rfl]
 | false =>
   have : ¬ A0Y s := fun h => absurd (hv'.2 h) (by simp);simp [this]
theorem Ag7.val (s t : ShfV) (l : List ShfV) (hs : SmSh s) : Ag7.cloG (t :: l, ()) (s, ()) = some (@decide (¬ A1F s t) (Classical.propDecidable _), ()) := by
 obtain ⟨v, hv, hv'⟩ := Ai7.val s t hs.1;have hT : Ag7.F (s, t :: l, ()) = Ag7.T s.1 s.2.1 s.2.2.1 s.2.2.2 (t :: l) := Ag7.eq _ _ _ _ _;have hv : Ai7.F ((s.1, (s.2.1, (s.2.2.1, s.2.2.2))), t, ()) = _ := hv;show (Ag7.F (s, t :: l, ())).map (·.1) = _;rw [hT, Ag7.T, if_pos (by simp only [List.length_cons]; omega)];simp only [Int.toNat_zero, List.getD_cons_zero, hv, Option.bind_some, Option.map_some];congr 2;cases v with
 | true => simp [hv'.1 rfl]
 | false =>
   have : ¬ A1F s t := fun h => absurd (hv'.2 h) (by simp);simp [this]
theorem Ai6.val2 (a b : ShfV) (ha : SmSh a) (hb : SmSh b) : Ai6.F ([a, b], ()) = some ((A1B a b, ()), ()) := by
 have hm : ∀ x ∈ [a, b], SmSh x := fun x hx => by simp at hx; rcases hx with rfl | rfl <;> assumption
 have h1 := Ai1.val [a, b] (Ag6.cloG (())) (fun s => @decide (¬ A0Y s) (Classical.propDecidable _)) (fun x hx => Ag6.val x (hm x hx)) (by simp);have h2 := Ai1.val [a, b] (Ag7.cloG ([a, b], ())) (fun s => @decide (¬ A1F s a) (Classical.propDecidable _)) (fun x hx => Ag7.val x a [b] (hm x hx)) (by simp);rw [Ai6.eq, Ai6.T, h1, h2];simp only [Option.bind_some, A1B, List.any_cons, List.any_nil, Bool.or_false, Bool.or_eq_true, decide_eq_true_eq];by_cases h : A0Y a /\ A0Y b
 . rw [if_neg (by simp [h.1, h.2]), if_pos h];by_cases hr : A1F a b
   . rw [if_neg (by simp only [A1F] at hr ⊢; simp [hr.1, hr.2]), if_pos hr]
   . have hb : ¬ A1F b a := fun hh => hr ⟨hh.1.symm, hh.2.symm⟩;rw [if_pos (by simp [hb]), if_neg hr]
 . rw [if_pos (by
     by_cases h1 : A0Y a
     . have h2 : ¬ A0Y b := fun h2 => h ⟨h1, h2⟩;simp [h2]
     . simp [h1]), if_neg h]
theorem Ah5.val (a b : ShfV) (ha : SmSh a) (hb : SmSh b) : Ah5.F (a, b, ()) = some ((A1B a b, ()), ()) := by
 have hT : Ah5.F (a, b, ()) = Ah5.T a.1 a.2.1 a.2.2.1 a.2.2.2 b.1 b.2.1 b.2.2.1 b.2.2.2 := Ah5.eq _ _ _ _ _ _ _ _;obtain ⟨v1, h1, h1'⟩ := Ae3.val a ha;obtain ⟨v2, h2, h2'⟩ := Ae3.val b hb;obtain ⟨v3, h3, h3'⟩ := Af6.same a.1 b.1 ha.1;have h1 : Ae3.F ((a.1, (a.2.1, (a.2.2.1, a.2.2.2))), ()) = _ := h1;have h2 : Ae3.F ((b.1, (b.2.1, (b.2.2.1, b.2.2.2))), ()) = _ := h2;rw [hT, Ah5.T, h1];simp only [Option.bind_some];unfold A1B;cases v1 with
 | false => rw [if_pos (by simp), if_neg fun hh => absurd (h1'.2 hh.1) (by simp)]
 | true =>
   rw [if_neg (by simp), h2];simp only [Option.bind_some];cases v2 with
   | false => rw [if_pos (by simp), if_neg fun hh => absurd (h2'.2 hh.2) (by simp)]
   | true =>
     rw [if_neg (by simp), if_pos (show A0Y a /\ A0Y b from ⟨h1'.1 rfl, h2'.1 rfl⟩), h3];simp only [Option.bind_some];cases v3 with
     | false => rw [if_pos (by simp), if_neg fun hh => absurd (h3'.2 hh.1) (by simp)]
     | true =>
       rw [if_neg (by simp)];by_cases hp : a.2.1 = b.2.1
       . rw [if_neg (by simp [hp]), if_pos ⟨h3'.1 rfl, hp⟩]
       . rw [if_pos (by simp [hp]), if_neg fun hh => hp hh.2]
def A0S (z : List Int) (ps : List (Nat × Int)) : List Int := ps.foldl (fun r q => r.set q.1 q.2) z
theorem A0u (z : List Int) (ps qs : List (Nat × Int)) : A0S z (ps ++ qs) = A0S (A0S z ps) qs := by simp [A0S, List.foldl_append]
theorem A0V (ps : List (Nat × Int)) : ∀ z : List Int, (A0S z ps).length = z.length := by
 induction ps with
 | nil => intro z; rfl
 | cons q ps ih => intro z; show (A0S (z.set q.1 q.2) ps).length = _; rw [ih]; simp
theorem A1C {i : Nat} (ps : List (Nat × Int)) : ∀ z : List Int, (∀ q ∈ ps, q.1 ≠ i) -> (A0S z ps).getD i 0 = z.getD i 0 := by
 induction ps with
 | nil => intro z _; rfl
 | cons q ps ih =>
   intro z h;show (A0S (z.set q.1 q.2) ps).getD i 0 = _;rw [ih _ fun x hx => h x (by simp [hx])];have := h q (by simp);simp [List.getD_eq_getElem?_getD, List.getElem?_set, this]
theorem A2x {P : Int -> Prop} (ps : List (Nat × Int)) : ∀ z : List Int, (∀ q ∈ ps, P q.2) -> (∀ a ∈ z, P a) -> ∀ a ∈ A0S z ps, P a := by
 induction ps with
 | nil => intro z _ h; exact h
 | cons q ps ih =>
   intro z h h2;refine ih _ (fun x hx => h x (by simp [hx])) fun a ha => ?_;rcases List.mem_or_eq_of_mem_set ha with h3 | rfl
   . exact h2 a h3
   . exact h q (by simp)
def stN (s : ShfV) (k : Nat) : Nat := (s.2.2.1.getD k 0).toNat
def A0y (a b : ShfV) : Nat -> Nat
 | 0 => 0
 | k + 1 => A0y a b k + stN a k * stN b k
theorem A0J (a b : ShfV) {i j : Nat} (h : i ≤ j) : A0y a b i ≤ A0y a b j := by
 induction h with
 | refl => exact Nat.le_refl _
 | step _ ih => exact Nat.le_trans ih (Nat.le_add_right _ _)
def hom1 (sf af bf r c : Nat) (xs : List Int) (i : Nat) : List (Nat × Int) := (List.range i).map fun l => (sf + l * af + c, xs.getD (r * bf + l) 0)
def hom2 (sk ak af r c : Nat) (p : Int) (ys : List Int) (i : Nat) : List (Nat × Int) := (List.range i).map fun l => (sk + r * ak + l, (-(ys.getD (l * af + c) 0)) % p)
def A0K (a b : ShfV) (n k i r c : Nat) : List Int :=
 let f := ((fcs a.1 k).getD i 0).toNat
 A0S (A0S (List.replicate n 0) (hom1 (A0y a b f) (stN a f) (stN b f) r c (A0z b k i).2.2.2 (stN b f))) (hom2 (A0y a b k) (stN a k) (stN a f) r c a.2.1 (A0z a k i).2.2.2 (stN a k))
def A0s (a b : ShfV) (n k i : Nat) : List (List Int) := (List.range (stN b k)).flatMap fun r => (List.range (stN a ((fcs a.1 k).getD i 0).toNat)).map (A0K a b n k i r)
def A1w (a b : ShfV) (n k : Nat) : List (List Int) := (List.range (fcs a.1 k).length).flatMap (A0s a b n k)
def A0H (a b : ShfV) (n : Nat) : List (List Int) := (List.range a.1.length).flatMap (A1w a b n)
structure HomOk (a b : ShfV) : Prop where
 oa : A0I a
 ob : A0I b
 r : A1F a b
theorem A0R {s : ShfV} (h : A0I s) {k : Nat} (hk : k < s.1.length) : s.2.2.1.getD k 0 = (stN s k : Int) /\ stN s k ≤ 3 := by
 have h1 := A0D h.2.2.1.2.1 (i := k) (by rw [h.2.2.1.1]; exact hk);unfold stN;omega
theorem A0E {a b : ShfV} (h : HomOk a b) {k : Nat} (hk : k ≤ a.1.length) : A0y a b k ≤ 9 * k := by
 induction k with
 | zero => exact Nat.le_refl _
 | succ k ih =>
   have h1 := (A0R h.oa (k := k) (by omega)).2;have h2 := (A0R h.ob (k := k) (by rw [<- h.r.1]; omega)).2;have h3 : stN a k * stN b k ≤ 3 * 3 := Nat.mul_le_mul h1 h2;have := ih (by omega);rw [A0y]; omega
structure HomEdge (a b : ShfV) (k i f : Nat) : Prop where
 fc_ : (fcs a.1 k).getD i 0 = (f : Int)
 fl : f < a.1.length
 ne : f ≠ k
 x1 : (A0z b k i).1 = a.2.1
 x2 : (A0z b k i).2.1 = (stN b k : Int)
 x3 : (A0z b k i).2.2.1 = (stN b f : Int)
 x4 : (A0z b k i).2.2.2.length = stN b k * stN b f
 x5 : A0N 0 (a.2.1 - 1) (A0z b k i).2.2.2
 y1 : (A0z a k i).1 = a.2.1
 y2 : (A0z a k i).2.1 = (stN a k : Int)
 y3 : (A0z a k i).2.2.1 = (stN a f : Int)
 y4 : (A0z a k i).2.2.2.length = stN a k * stN a f
 y5 : A0N 0 (a.2.1 - 1) (A0z a k i).2.2.2
 ak : stN a k ≤ 3
 af : stN a f ≤ 3
 bk : stN b k ≤ 3
 bf : stN b f ≤ 3
theorem A1e {a b : ShfV} (h : HomOk a b) {k i : Nat} (hk : k < a.1.length) (hi : i < (fcs a.1 k).length) : ∃ f, HomEdge a b k i f := by
 obtain ⟨f, h1, h2, h3, h4, h5⟩ := A2B h.oa.1 hk hi;obtain ⟨y0, y1, y2, y3⟩ := A1J h.oa hk hi;obtain ⟨x0, x1, x2, x3⟩ := A1J h.ob (by rw [<- h.r.1]; exact hk) (i := k) (j := i) (by rw [<- h.r.1]; exact hi);have a1 := A0R h.oa hk;have a2 := A0R h.oa h2;have b1 := A0R h.ob (k := k) (by rw [<- h.r.1]; exact hk);have b2 := A0R h.ob (k := f) (by rw [<- h.r.1]; exact h2);rw [h1, Int.toNat_natCast, a2.1] at y3;rw [<- h.r.1, h1, Int.toNat_natCast, b2.1] at x3;rw [a1.1] at y2;rw [b1.1] at x2;refine ⟨f, h1, h2, fun e => ?_, by rw [x1, h.r.2], x2, x3, ?_, ?_, y1, y2, y3, ?_, ?_, a1.2, a2.2, b1.2, b2.2⟩
 . have e2 : (A0B (a.1.getD k []) i).length = (a.1.getD k []).length - 1 := by
     unfold A0B
     first
       | rw [List.length_eraseIdx_of_lt h4]
       | (simp only [List.length_append, List.length_take, List.length_drop]; omega)
   rw [<- h3, e] at e2;omega
 . have := x0.2.2.2.1;rw [x2, x3] at this;have e : (stN b k : Int) * (stN b f : Int) = ((stN b k * stN b f : Nat) : Int) := by simp
   omega
 . have := x0.2.2.2.2
   rwa [x1, <- h.r.2] at this
 . have := y0.2.2.2.1;rw [y2, y3] at this;have e : (stN a k : Int) * (stN a f : Int) = ((stN a k * stN a f : Nat) : Int) := by simp
   omega
 . have := y0.2.2.2.2
   rwa [y1] at this
theorem homW {s l A c : Nat} (hs : s ≤ 4096) (hl : l ≤ 4096) (hA : A ≤ 4096) (hc : c ≤ 4096) : IntKind.i64.wrap (IntKind.i64.wrap ((s : Int) + IntKind.i64.wrap ((l : Int) * (A : Int))) + (c : Int)) = ((s + l * A + c : Nat) : Int) := by
 have h : l * A ≤ 4096 * 4096 := Nat.mul_le_mul hl hA;have e : (l : Int) * (A : Int) = ((l * A : Nat) : Int) := by simp
 rw [e];generalize l * A = m at h;rw [A0w (x := (m : Int)) (by omega) (by omega), A0w (x := (s : Int) + (m : Int)) (by omega) (by omega), A0w (by omega) (by omega)]; omega
theorem A0t {r c A B : Nat} (hr : r < A) (hc : c < B) : r * B + c < A * B := by
 have := Nat.mul_le_mul_right B (show r + 1 ≤ A by omega);rw [Nat.add_mul, Nat.one_mul] at this; omega
theorem A2e {a b : ShfV} (h : HomOk a b) {n k i r c : Nat} (hk : k < a.1.length) (hi : i < (fcs a.1 k).length) : (A0K a b n k i r c).length = n /\ A0N 0 (a.2.1 - 1) (A0K a b n k i r c) := by
 obtain ⟨f, E⟩ := A1e h hk hi;have hp := h.oa.2.1.1;refine ⟨by simp only [A0K, A0V, List.length_replicate], ?_⟩;unfold A0K;refine A2x (P := fun x => 0 ≤ x /\ x ≤ a.2.1 - 1) _ _ (fun q hq => ?_) (A2x (P := fun x => 0 ≤ x /\ x ≤ a.2.1 - 1) _ _ (fun q hq => ?_) fun x hx => ?_)
 . obtain ⟨l, _, rfl⟩ := List.mem_map.1 hq;exact ⟨Int.emod_nonneg _ (by omega), by have := Int.emod_lt_of_pos (-(A0z a k i).2.2.2.getD (l * stN a ((fcs a.1 k).getD i 0).toNat + c) 0) (show 0 < a.2.1 by omega); simp only []; omega⟩
 . obtain ⟨l, _, rfl⟩ := List.mem_map.1 hq;simp only [];by_cases hh : r * stN b ((fcs a.1 k).getD i 0).toNat + l < (A0z b k i).2.2.2.length
   . exact E.x5 _ (A0x 0 hh)
   . rw [List.getD_eq_getElem?_getD, List.getElem?_eq_none (by omega)]; simp only [Option.getD_none]; omega
 . obtain rfl := List.eq_of_mem_replicate hx;omega
theorem A1q {a b : ShfV} (h : HomOk a b) (n : Nat) : (A0H a b n).length ≤ 4096 /\ RowsOk a.2.1 (A0H a b n).length n (A0H a b n) := by
 have key : ∀ {X : Type} (g : Nat -> List X) (m q : Nat), (∀ j, j < m -> (g j).length ≤ q) -> ((List.range m).flatMap g).length ≤ m * q := by
   intro X g m q;induction m with
   | zero => intro _; simp
   | succ m ih =>
     intro hg;have := ih fun j hj => hg j (by omega);have := hg m (by omega);rw [List.range_succ, List.flatMap_append, List.length_append, Nat.add_mul];simp only [List.flatMap_cons, List.flatMap_nil, List.append_nil];omega
 refine ⟨?_, rfl, fun r hr => ?_⟩
 . refine Nat.le_trans (key _ _ 36 fun k hk => ?_) (by have := h.oa.1.1; omega);refine Nat.le_trans (key _ _ 9 fun i hi => ?_) ?_
   . obtain ⟨f, E⟩ := A1e h hk hi;refine Nat.le_trans (key _ _ 3 fun r hr => ?_) (by have := E.bk; omega);rw [List.length_map, List.length_range, E.fc_, Int.toNat_natCast]; exact E.af
   . have := A0l h.oa.1 hk;have e : (fcs a.1 k).length = (A0G (a.1.getD k [])).length := by simp [fcs]
     omega
 . simp only [A0H, A1w, A0s, List.mem_flatMap, List.mem_map, List.mem_range] at hr;obtain ⟨k, hk, i, hi, r', _, c, _, rfl⟩ := hr;exact A2e h hk hi
theorem RowsOk.small {p : Int} {h w : Nat} {R : List (List Int)} (o : RowsOk p h w R) (hh : h ≤ 4096) (hw : w ≤ 256) : SmL R := ⟨by rw [o.len]; omega, fun r hr => by have := (o.row r hr).1; unfold Sm; omega⟩
theorem Ae0.val {p n : Int} (hp : 2 ≤ p /\ p ≤ 251) : Ae0.F (n, p, ()) = some ((n % p, ()), ()) := by
 rw [Ae0.eq, Ae0.T, if_neg (by omega), if_neg (by omega), A2h hp]
theorem A2a {c : List (List Int)} {q : Nat} (h : q < off c c.length) : ∃ k i, k < c.length /\ i < (fcs c k).length /\ (arr c c.length).getD q (0, 0, 0) = ((k : Int), (i : Int), (fcs c k).getD i 0) /\ q = off c k + i := by
 obtain ⟨k, hk, i, hi, rfl⟩ := A1s h;exact ⟨k, i, hk, hi, A1b c hk hi, rfl⟩
def A0j (a b : ShfV) (n : Nat) : List Int := (List.range n).map fun k => ((A0y a b k : Nat) : Int)
theorem A3A {a b : ShfV} (h : HomOk a b) {k : Nat} (hk : k < a.1.length) : IntKind.i64.wrap ((A0y a b k : Int) + IntKind.i64.wrap (a.2.2.1.getD k 0 * b.2.2.1.getD k 0)) = ((A0y a b (k + 1) : Nat) : Int) := by
 have h1 := A0R h.oa hk;have h2 := A0R h.ob (k := k) (by rw [<- h.r.1]; exact hk);have h3 : stN a k * stN b k ≤ 3 * 3 := Nat.mul_le_mul h1.2 h2.2;have h4 := A0E h (show k ≤ a.1.length by omega);have h5 := h.oa.1.1;have e : (stN a k : Int) * (stN b k : Int) = ((stN a k * stN b k : Nat) : Int) := by simp
 rw [h1.1, h2.1, e, A0y];generalize stN a k * stN b k = m at h3;rw [A0w (x := (m : Int)) (by omega) (by omega), A0w (by omega) (by omega)]; omega
theorem Ag8.val {a b : ShfV} (h : HomOk a b) : Ag8.F (a, b, ()) = some ((A0j a b a.1.length, ((A0y a b a.1.length : Nat) : Int), ()), ()) := by
 have hla : a.2.2.1.length = a.1.length := h.oa.2.2.1.1;have hlb : b.2.2.1.length = a.1.length := by rw [h.ob.2.2.1.1, h.r.1]
 have h5 := h.oa.1.1;refine Ag8.of _ _ _ _ _ _ _ _ ?_;obtain ⟨s, hs, hg⟩ := Goes.loop (R := ((List Int × Int × Unit) × Unit)) (fun k i (s : List Int × Int) => Ag8.l4 k s.2 (a.2.2.1.length : Int) (i : Int) a.1 a.2.1 a.2.2.1 a.2.2.2 b.1 b.2.1 b.2.2.1 b.2.2.2 s.1) a.1.length (fun i s => s = (A0j a b i, ((A0y a b i : Nat) : Int))) (fun i s hi h2 => ⟨_, rfl, Goes.succ fun k => by
   subst h2;rw [Ag8.l4_eq, hla, if_pos (ltI.2 hi), if_pos (by simp only [A0j, List.length_map, List.length_range, List.length_cons, List.length_nil, bigA]; omega), if_pos (idxI.2 (by omega)), if_pos (idxI.2 (by omega)), Int.toNat_natCast, A0v (by omega)];simp only [];rw [A3A h hi, A0j, A0j, List.range_succ, List.map_append]; rfl⟩) 0 ([], 0) (Nat.zero_le _) rfl
 refine Ev.of_eq (hg _ ((Ev.const _).succ fun k => ?_)) fun k => rfl;subst hs;rw [Ag8.l4_eq, hla, if_neg (by simp)]
theorem Aa2.row {a b : ShfV} (h : HomOk a b) {k i f : Nat} (E : HomEdge a b k i f) (hk : k < a.1.length) {n : Nat} (hn : n = A0y a b a.1.length) (al ix bk r c : Nat) (hr : r < stN b k) (hc : c < stN a f) (rows : List (List Int)) (hrl : rows.length < 1048576) (ar : List (Int × Int × Int)) :
   Goes (fun t => Aa2.l20 t (n : Int) (r : Int) (c : Int) (al : Int) (ix : Int) (bk : Int) (r : Int) (stN a f : Int) (c : Int) (stN b f : Int) 0 a.1 a.2.1 a.2.2.1 a.2.2.2 b.1 b.2.1 b.2.2.1 b.2.2.2 (A0j a b a.1.length) rows (k : Int) (i : Int) (f : Int) (A0z a k i).1 (A0z a k i).2.1 (A0z a k i).2.2.1 (A0z a k i).2.2.2 (A0z b k i).1 (A0z b k i).2.1 (A0z b k i).2.2.1 (A0z b k i).2.2.2 (List.replicate n 0) ar)
     (fun t => Aa2.l16 t (n : Int) (r : Int) (al : Int) (ix : Int) (bk : Int) (r : Int) (stN a f : Int) ((c + 1 : Nat) : Int) a.1 a.2.1 a.2.2.1 a.2.2.2 b.1 b.2.1 b.2.2.1 b.2.2.2 (A0j a b a.1.length) (rows ++ [A0K a b n k i r c]) (k : Int) (i : Int) (f : Int) (A0z a k i).1 (A0z a k i).2.1 (A0z a k i).2.2.1 (A0z a k i).2.2.2 (A0z b k i).1 (A0z b k i).2.1 (A0z b k i).2.2.1 (A0z b k i).2.2.2 ar) := by
 have hla : a.2.2.1.length = a.1.length := h.oa.2.2.1.1;have h5 := h.oa.1.1;have hp := h.oa.2.1.1;have hfl := E.fl;have hsl : (A0j a b a.1.length).length = a.1.length := by simp [A0j]
 have hsf : (A0j a b a.1.length).getD f 0 = ((A0y a b f : Nat) : Int) := by rw [A0j, A0Z _ _ hfl]
 have hsk : (A0j a b a.1.length).getD k 0 = ((A0y a b k : Nat) : Int) := by rw [A0j, A0Z _ _ hk]
 have haf := (A0R h.oa hfl).1;have hak := (A0R h.oa hk).1;have lf := A0E h (show f ≤ a.1.length by omega);have lk := A0E h (show k ≤ a.1.length by omega);have mf : A0y a b f + stN a f * stN b f ≤ n := by rw [hn]; exact A0J a b (show f + 1 ≤ a.1.length by omega)
 have mk : A0y a b k + stN a k * stN b k ≤ n := by rw [hn]; exact A0J a b (show k + 1 ≤ a.1.length by omega)
 have e1 := E.ak; have e2 := E.af; have e3 := E.bk; have e4 := E.bf;have hrow : A0K a b n k i r c = A0S (A0S (List.replicate n 0) (hom1 (A0y a b f) (stN a f) (stN b f) r c (A0z b k i).2.2.2 (stN b f))) (hom2 (A0y a b k) (stN a k) (stN a f) r c a.2.1 (A0z a k i).2.2.2 (stN a k)) := by
   rw [A0K, E.fc_]; simp only [Int.toNat_natCast]
 obtain ⟨s, hs, g1⟩ := Goes.loop (R := ((Int × Int × Unit) × Unit)) (fun t l (s : List Int) => Aa2.l20 t (n : Int) (r : Int) (c : Int) (al : Int) (ix : Int) (bk : Int) (r : Int) (stN a f : Int) (c : Int) (stN b f : Int) (l : Int) a.1 a.2.1 a.2.2.1 a.2.2.2 b.1 b.2.1 b.2.2.1 b.2.2.2 (A0j a b a.1.length) rows (k : Int) (i : Int) (f : Int) (A0z a k i).1 (A0z a k i).2.1 (A0z a k i).2.2.1 (A0z a k i).2.2.2 (A0z b k i).1 (A0z b k i).2.1 (A0z b k i).2.2.1 (A0z b k i).2.2.2 s ar) (stN b f)
   (fun l s => s = A0S (List.replicate n 0) (hom1 (A0y a b f) (stN a f) (stN b f) r c (A0z b k i).2.2.2 l)) (fun l s hl h2 => ⟨_, rfl, Goes.succ fun t => by
     have hb := A0t hr hl;have hat : Ad3.F (((A0z b k i).1, ((A0z b k i).2.1, ((A0z b k i).2.2.1, (A0z b k i).2.2.2))), (r : Int), (l : Int), ()) = some (((A0z b k i).2.2.2.getD (r * stN b f + l) 0, ()), ()) := by
       rw [Ad3.eq, Ad3.T, E.x3, posW (by omega) (by omega) (by omega), if_pos (idxI.2 (by rw [E.x4]; exact hb))]; rfl
     have hq := A0t hl hc;have hq2 : stN b f * stN a f = stN a f * stN b f := Nat.mul_comm _ _;have hlen : s.length = n := by rw [h2, A0V, List.length_replicate]
     rw [Aa2.l20_eq, if_pos (ltI.2 hl), if_pos (idxI.2 (by rw [hsl]; exact hfl)), if_pos (idxI.2 (by rw [hla]; exact hfl)), hat];simp only [Option.bind_some, Int.toNat_natCast, hsf, haf];rw [homW (by omega) (by omega) (by omega) (by omega), if_pos (idxI.2 (by rw [hlen]; omega)), A0v (by omega), Int.toNat_natCast, hom1, List.range_succ, List.map_append, A0u, h2]; rfl⟩) 0 (List.replicate n 0) (Nat.zero_le _) rfl
 subst hs;refine g1.trans ?_;refine (Goes.succ (B := fun t => Aa2.l25 t (n : Int) (r : Int) (c : Int) (al : Int) (ix : Int) (bk : Int) (r : Int) (stN a f : Int) (c : Int) (stN a k : Int) 0 a.1 a.2.1 a.2.2.1 a.2.2.2 b.1 b.2.1 b.2.2.1 b.2.2.2 (A0j a b a.1.length) rows (k : Int) (i : Int) (f : Int) (A0z a k i).1 (A0z a k i).2.1 (A0z a k i).2.2.1 (A0z a k i).2.2.2 (A0z b k i).1 (A0z b k i).2.1 (A0z b k i).2.2.1 (A0z b k i).2.2.2 (A0S (List.replicate n 0) (hom1 (A0y a b f) (stN a f) (stN b f) r c (A0z b k i).2.2.2 (stN b f))) ar) fun t => by
   rw [Aa2.l20_eq, if_neg (by simp), if_pos (idxI.2 (by rw [hla]; exact hk)), Int.toNat_natCast, hak]).trans ?_
 obtain ⟨s, hs, g2⟩ := Goes.loop (R := ((Int × Int × Unit) × Unit)) (fun t l (s : List Int) => Aa2.l25 t (n : Int) (r : Int) (c : Int) (al : Int) (ix : Int) (bk : Int) (r : Int) (stN a f : Int) (c : Int) (stN a k : Int) (l : Int) a.1 a.2.1 a.2.2.1 a.2.2.2 b.1 b.2.1 b.2.2.1 b.2.2.2 (A0j a b a.1.length) rows (k : Int) (i : Int) (f : Int) (A0z a k i).1 (A0z a k i).2.1 (A0z a k i).2.2.1 (A0z a k i).2.2.2 (A0z b k i).1 (A0z b k i).2.1 (A0z b k i).2.2.1 (A0z b k i).2.2.2 s ar) (stN a k)
   (fun l s => s = A0S (A0S (List.replicate n 0) (hom1 (A0y a b f) (stN a f) (stN b f) r c (A0z b k i).2.2.2 (stN b f))) (hom2 (A0y a b k) (stN a k) (stN a f) r c a.2.1 (A0z a k i).2.2.2 l)) (fun l s hl h2 => ⟨_, rfl, Goes.succ fun t => by
     have hb := A0t hl hc;have hlt : l * stN a f + c < (A0z a k i).2.2.2.length := by rw [E.y4]; exact hb
     have hat : Ad3.F (((A0z a k i).1, ((A0z a k i).2.1, ((A0z a k i).2.2.1, (A0z a k i).2.2.2))), (l : Int), (c : Int), ()) = some (((A0z a k i).2.2.2.getD (l * stN a f + c) 0, ()), ()) := by
       rw [Ad3.eq, Ad3.T, E.y3, posW (by omega) (by omega) (by omega), if_pos (idxI.2 hlt)]; rfl
     have hin := E.y5 _ (A0x 0 hlt);have hq := A0t hr hl;have hq2 : stN b k * stN a k = stN a k * stN b k := Nat.mul_comm _ _;have hlen : s.length = n := by rw [h2, A0V, A0V, List.length_replicate]
     rw [Aa2.l25_eq, if_pos (ltI.2 hl), if_pos (idxI.2 (by rw [hsl]; exact hk)), if_pos (idxI.2 (by rw [hla]; exact hk)), hat];simp only [Option.bind_some];rw [A0w (x := 0 - (A0z a k i).2.2.2.getD (l * stN a f + c) 0) (by omega) (by omega), Ae0.val hp];simp only [Option.bind_some, Int.toNat_natCast, hsk, hak, Int.zero_sub];rw [homW (by omega) (by omega) (by omega) (by omega), if_pos (idxI.2 (by rw [hlen]; omega)), A0v (by omega), Int.toNat_natCast, hom2, List.range_succ, List.map_append, A0u, h2]; rfl⟩) 0 _ (Nat.zero_le _) rfl
 subst hs;refine g2.trans ?_;refine Goes.succ fun t => ?_;rw [Aa2.l25_eq, if_neg (by simp), if_pos (by simp only [List.length_cons, List.length_nil, bigA]; omega), A0v (by omega), hrow]
theorem A0C {X : Type} (g : Nat -> List X) (n : Nat) : (List.range (n + 1)).flatMap g = (List.range n).flatMap g ++ g n := by simp [List.range_succ]
theorem A3q {a b : ShfV} (n k i c r : Nat) : ((List.range r).flatMap fun r => (List.range c).map (A0K a b n k i r)).length = r * c := by
 induction r with
 | zero => simp
 | succ r ih => rw [A0C, List.length_append, ih, List.length_map, List.length_range, Nat.add_mul, Nat.one_mul]
theorem E_bf {a b : ShfV} (h : HomOk a b) {f : Nat} (hf : f < a.1.length) : b.2.2.1.getD f 0 = (stN b f : Int) := (A0R h.ob (by rw [<- h.r.1]; exact hf)).1
theorem Aa2.edge {a b : ShfV} (h : HomOk a b) {k i f : Nat} (E : HomEdge a b k i f) (hk : k < a.1.length) {n : Nat} (hn : n = A0y a b a.1.length) (al ix : Nat) (rows : List (List Int)) (hrl : rows.length < 1000000) (ar : List (Int × Int × Int)) :
   Goes (fun t => Aa2.l13 t (n : Int) (al : Int) (ix : Int) (stN b k : Int) 0 a.1 a.2.1 a.2.2.1 a.2.2.2 b.1 b.2.1 b.2.2.1 b.2.2.2 (A0j a b a.1.length) rows (k : Int) (i : Int) (f : Int) (A0z a k i).1 (A0z a k i).2.1 (A0z a k i).2.2.1 (A0z a k i).2.2.2 (A0z b k i).1 (A0z b k i).2.1 (A0z b k i).2.2.1 (A0z b k i).2.2.2 ar)
     (fun t => Aa2.l9 t (n : Int) (al : Int) (IntKind.i64.wrap ((ix : Int) + 1)) a.1 a.2.1 a.2.2.1 a.2.2.2 b.1 b.2.1 b.2.2.1 b.2.2.2 (A0j a b a.1.length) (rows ++ A0s a b n k i) ar) := by
 have hla : a.2.2.1.length = a.1.length := h.oa.2.2.1.1;have h5 := h.oa.1.1;have hfl := E.fl;have haf := (A0R h.oa hfl).1;have lN := A0E h (Nat.le_refl a.1.length);have e1 := E.ak; have e2 := E.af; have e3 := E.bk; have e4 := E.bf;have hat : A0s a b n k i = (List.range (stN b k)).flatMap fun r => (List.range (stN a f)).map (A0K a b n k i r) := by rw [A0s, E.fc_, Int.toNat_natCast]
 obtain ⟨s, hs, g1⟩ := Goes.loop (R := ((Int × Int × Unit) × Unit)) (fun t r (s : List (List Int)) => Aa2.l13 t (n : Int) (al : Int) (ix : Int) (stN b k : Int) (r : Int) a.1 a.2.1 a.2.2.1 a.2.2.2 b.1 b.2.1 b.2.2.1 b.2.2.2 (A0j a b a.1.length) s (k : Int) (i : Int) (f : Int) (A0z a k i).1 (A0z a k i).2.1 (A0z a k i).2.2.1 (A0z a k i).2.2.2 (A0z b k i).1 (A0z b k i).2.1 (A0z b k i).2.2.1 (A0z b k i).2.2.2 ar) (stN b k)
   (fun r s => s = rows ++ (List.range r).flatMap fun r => (List.range (stN a f)).map (A0K a b n k i r)) (fun r s hr h2 => by
     refine ⟨_, rfl, ?_⟩;have hr9 : r * stN a f ≤ 3 * 3 := Nat.mul_le_mul (by omega) e2;have hsl : s.length ≤ rows.length + 9 := by rw [h2, List.length_append, A3q]; omega
     obtain ⟨u, hu, g2⟩ := Goes.loop (R := ((Int × Int × Unit) × Unit)) (fun t c (u : List (List Int)) => Aa2.l16 t (n : Int) (r : Int) (al : Int) (ix : Int) (stN b k : Int) (r : Int) (stN a f : Int) (c : Int) a.1 a.2.1 a.2.2.1 a.2.2.2 b.1 b.2.1 b.2.2.1 b.2.2.2 (A0j a b a.1.length) u (k : Int) (i : Int) (f : Int) (A0z a k i).1 (A0z a k i).2.1 (A0z a k i).2.2.1 (A0z a k i).2.2.2 (A0z b k i).1 (A0z b k i).2.1 (A0z b k i).2.2.1 (A0z b k i).2.2.2 ar) (stN a f)
       (fun c u => u = s ++ (List.range c).map (A0K a b n k i r)) (fun c u hc h3 => by
         refine ⟨_, rfl, ?_⟩;have hul : u.length < 1048576 := by rw [h3, List.length_append, List.length_map, List.length_range]; omega
         refine (Goes.succ (fun t => ?_)).trans ((Aa2.row h E hk hn al ix (stN b k) r c hr hc u hul ar).trans (Goes.of_eq fun t => ?_))
         . rw [Aa2.l16_eq, if_pos (ltI.2 hc), if_pos (by simp only [bigN]; omega), if_pos (idxI.2 (by have := h.ob.2.2.1.1; rw [<- h.r.1] at this; omega)), Int.toNat_natCast, E_bf h hfl, Int.toNat_natCast]
         . rw [h3, List.append_assoc, List.range_succ, List.map_append]; rfl) 0 s (Nat.zero_le _) (by simp)
     refine (Goes.succ (fun t => ?_)).trans (g2.trans (Goes.succ fun t => ?_))
     . rw [Aa2.l13_eq, if_pos (ltI.2 hr), if_pos (idxI.2 (by omega)), Int.toNat_natCast, haf]; rfl
     . rw [Aa2.l16_eq, if_neg (by simp), A0v (by omega), hu, h2, List.append_assoc, A0C]) 0 rows (Nat.zero_le _) (by simp)
 refine g1.trans (Goes.succ fun t => ?_);rw [Aa2.l13_eq, if_neg (by simp), hs, hat]
noncomputable def homV (a b : ShfV) : Int × Int :=
 if A1B a b ≠ 0 then (0, A1B a b) else if 60 < A0y a b a.1.length then (0, 5)
 else (((A0y a b a.1.length : Nat) : Int) - (((gjN a.2.1 (A0y a b a.1.length) (A0H a b (A0y a b a.1.length)) (A0y a b a.1.length)).2.length : Nat) : Int), 0)
theorem A2H (c : List (List Int)) {X : Type} (g : Nat -> Nat -> List X) : ∀ n, (arr c n).flatMap (fun e => g e.1.toNat e.2.1.toNat) = (List.range n).flatMap fun k => (List.range (fcs c k).length).flatMap (g k)
 | 0 => rfl
 | n + 1 => by
   rw [A1I, List.flatMap_append, A2H c g n, A0C, A2Z, List.flatMap_map];simp only [Int.toNat_natCast]
theorem A2I {a b : ShfV} (n : Nat) : (arr a.1 a.1.length).flatMap (fun e => A0s a b n e.1.toNat e.2.1.toNat) = A0H a b n := A2H a.1 (A0s a b n) a.1.length
theorem A2W {R : Type} (a : Option R) : Go.Vm.both a a = a := by unfold Go.Vm.both; rw [if_pos rfl]
theorem A2L {a b : ShfV} (h : HomOk a b) (n : Nat) : (gjN a.2.1 n (A0H a b n) n).2.length ≤ 4096 := by
 obtain ⟨h1, o⟩ := A1q h n;have := (A2d (by have := h.oa.2.1.1; omega) o n).2;omega
theorem Aa2.val (a b : ShfV) (ha : SmSh a) (hb : SmSh b) : Aa2.F (a, b, ()) = some (((homV a b).1, (homV a b).2, ()), ()) := by
 refine Aa2.of a.1 a.2.1 a.2.2.1 a.2.2.2 b.1 b.2.1 b.2.2.1 b.2.2.2 ?_;have h1 : Ai6.F ([(a.1, (a.2.1, (a.2.2.1, a.2.2.2))), (b.1, (b.2.1, (b.2.2.1, b.2.2.2)))], ()) = _ := Ai6.val2 a b ha hb;by_cases ez : A1B a b = 0
 . obtain ⟨ia, ib, r⟩ := pairC_zero.1 ez;have h : HomOk a b := ⟨ia.1, ib.1, r⟩;have h2 : Ag8.F ((a.1, (a.2.1, (a.2.2.1, a.2.2.2))), (b.1, (b.2.1, (b.2.2.1, b.2.2.2))), ()) = some ((A0j a b a.1.length, ((A0y a b a.1.length : Nat) : Int), ()), ()) := Ag8.val h;have lN := A0E h (Nat.le_refl a.1.length);have h5 := h.oa.1.1;by_cases e60 : 60 < A0y a b a.1.length
   . have e : homV a b = (0, 5) := by rw [homV, if_neg (by simp [ez]), if_pos e60]
     rw [e];refine (Ev.const _).of_eq fun k => ?_;rw [Aa2.T, h1]; simp only [Option.bind_some]; rw [if_neg (by simp [ez]), h2]; simp only [Option.bind_some];rw [if_pos (by simp only [decide_eq_true_eq]; omega)]
   . have e : homV a b = (((A0y a b a.1.length : Nat) : Int) - (((gjN a.2.1 (A0y a b a.1.length) (A0H a b (A0y a b a.1.length)) (A0y a b a.1.length)).2.length : Nat) : Int), 0) := by rw [homV, if_neg (by simp [ez]), if_neg e60]
     rw [e];generalize hn : A0y a b a.1.length = n at h2 lN e60 ⊢;obtain ⟨ho1, ho⟩ := A1q h n;have hma : a.2.2.2.length = off a.1 a.1.length := h.oa.2.2.2.1;have hmb : b.2.2.2.length = off a.1 a.1.length := by rw [h.ob.2.2.2.1, h.r.1]
     have hlb : b.2.2.1.length = a.1.length := by rw [h.ob.2.2.1.1, h.r.1]
     have lo := A0p h.oa.1 (Nat.le_refl a.1.length);have hal := A0T a.1 a.1.length;obtain ⟨s, hs, g⟩ := Goes.loop (R := ((Int × Int × Unit) × Unit)) (fun t ix (s : List (List Int)) => Aa2.l9 t (n : Int) ((arr a.1 a.1.length).length : Int) (ix : Int) a.1 a.2.1 a.2.2.1 a.2.2.2 b.1 b.2.1 b.2.2.1 b.2.2.2 (A0j a b a.1.length) s (arr a.1 a.1.length)) (arr a.1 a.1.length).length
       (fun ix s => s = ((arr a.1 a.1.length).take ix).flatMap fun e => A0s a b n e.1.toNat e.2.1.toNat) (fun ix s hi h3 => by
         refine ⟨_, rfl, ?_⟩;obtain ⟨k, i, hk, hi2, hg, hq⟩ := A2a (by rw [<- hal]; exact hi);obtain ⟨f, E⟩ := A1e h hk hi2;have hsl : s.length < 1000000 := by
           have : s.length ≤ (A0H a b n).length := by
             rw [h3, <- A2I]
             conv => rhs; rw [<- List.take_append_drop ix (arr a.1 a.1.length), List.flatMap_append, List.length_append]
             omega
           omega
         have ea : a.2.2.2.getD ix (0, 0, 0, []) = A0z a k i := by rw [hq]; rfl
         have eb : b.2.2.2.getD ix (0, 0, 0, []) = A0z b k i := by rw [hq, h.r.1]; rfl
         refine (Goes.succ (fun t => ?_)).trans ((Aa2.edge h E hk hn.symm (arr a.1 a.1.length).length ix s hsl (arr a.1 a.1.length)).trans (Goes.of_eq fun t => ?_))
         . rw [Aa2.l9_eq, if_pos (ltI.2 hi), if_pos (idxI.2 hi), if_pos (idxI.2 (by omega)), if_pos (idxI.2 (by omega))];simp only [Int.toNat_natCast, hg, E.fc_, ea, eb, E_bf h hk];rw [if_pos (idxI.2 (by omega)), if_pos (idxI.2 (by omega))];simp only [A2W]
         . rw [A0v (by omega), List.take_add_one, List.getElem?_eq_getElem hi, Option.toList_some, List.flatMap_append, h3];have : (arr a.1 a.1.length)[ix] = ((k : Int), (i : Int), (fcs a.1 k).getD i 0) := by rw [<- hg, A0q hi]
           rw [this]; simp) 0 [] (Nat.zero_le _) rfl
     have hs2 : s = A0H a b n := by rw [hs, List.take_length, A2I]
     subst hs2;refine (g _ ((Ev.const _).succ fun k => ?_)).of_eq fun k => ?_
     . have hm : Am1.F (a.2.1, (n : Int), A0H a b n, ()) = some (((a.2.1, (((A0H a b n).length : Nat) : Int), (n : Int), (A0H a b n).flatten), ()), ()) := by
         rw [Am1.eq, Am1.T, Ag9.eq, Ag9.T, Aa3.val (w := n) _ ho1 (by omega) fun r hr => Nat.le_of_eq (ho.row r hr).1]; rfl
       have hrk := A2L h n;rw [Aa2.l9_eq, if_neg (by simp), hm];simp only [Option.bind_some];rw [Ak4.gen h.oa.2.1.1 ho1 (by omega) ho];simp only [Option.bind_some];rw [A0w (by omega) (by omega)]
     . rw [Aa2.T, h1]; simp only [Option.bind_some]; rw [if_neg (by simp [ez]), h2]; simp only [Option.bind_some];rw [if_neg (by simp only [decide_eq_true_eq]; omega), Ab8.val _ h.oa.1]; rfl
 . have e : homV a b = (0, A1B a b) := by rw [homV, if_pos ez]
   rw [e];refine (Ev.const _).of_eq fun k => ?_;rw [Aa2.T, h1]; simp only [Option.bind_some]; rw [if_pos (by simp [ez])]
theorem modNeg {p y : Int} (hp : 2 ≤ p /\ p ≤ 251) (hy : 0 ≤ y /\ y ≤ p - 1) : (0 + (p - 1) * y).tmod p = (-y) % p := by
 have h0 : 0 ≤ (p - 1) * y := Int.mul_nonneg (by omega) hy.1;rw [Int.zero_add, Int.tmod_eq_emod_of_nonneg h0];have e : (p - 1) * y = -y + p * y := by rw [Int.sub_mul, Int.one_mul]; omega
 rw [e, Int.add_mul_emod_self_left]
theorem hom1_at {sf af bf r c : Nat} {xs : List Int} {n l : Nat} (hc : c < af) : (A0S (List.replicate n 0) (hom1 sf af bf r c xs l)).getD (sf + l * af + c) 0 = 0 := by
 rw [A1C _ _ fun q hq => ?_]
 . simp [List.getD_eq_getElem?_getD, List.getElem?_replicate];split <;> rfl
 . obtain ⟨j, hj, rfl⟩ := List.mem_map.1 hq;have h1 := Nat.mul_le_mul_right af (show j + 1 ≤ l by have := List.mem_range.1 hj; omega);rw [Nat.add_mul, Nat.one_mul] at h1;simp only [];omega
theorem Aa1.row {a b : ShfV} (h : HomOk a b) {k i f : Nat} (E : HomEdge a b k i f) (hk : k < a.1.length) (hi : i < (fcs a.1 k).length) {n : Nat} (hn : n = A0y a b a.1.length) (r c : Nat) (hr : r < stN b k) (hc : c < stN a f) (rows : List (List Int)) (hrl : rows.length < 1048576) :
   Goes (fun t => Aa1.l31 t (n : Int) (k : Int) (i : Int) (A0z b k i).1 (A0z b k i).2.1 (A0z b k i).2.2.1 (A0z b k i).2.2.2 (A0z a k i).1 (A0z a k i).2.1 (A0z a k i).2.2.1 (A0z a k i).2.2.2 (r : Int) (c : Int) 0 a.1 a.2.1 a.2.2.1 a.2.2.2 b.1 b.2.1 b.2.2.1 b.2.2.2 (A0j a b a.1.length) rows (fcs a.1 k) (List.replicate n 0))
     (fun t => Aa1.l27 t (n : Int) (k : Int) (i : Int) (A0z b k i).1 (A0z b k i).2.1 (A0z b k i).2.2.1 (A0z b k i).2.2.2 (A0z a k i).1 (A0z a k i).2.1 (A0z a k i).2.2.1 (A0z a k i).2.2.2 (r : Int) ((c + 1 : Nat) : Int) a.1 a.2.1 a.2.2.1 a.2.2.2 b.1 b.2.1 b.2.2.1 b.2.2.2 (A0j a b a.1.length) (rows ++ [A0K a b n k i r c]) (fcs a.1 k)) := by
 have h5 := h.oa.1.1;have hp := h.oa.2.1.1;have hfl := E.fl;have hsl : (A0j a b a.1.length).length = a.1.length := by simp [A0j]
 have hsf : (A0j a b a.1.length).getD f 0 = ((A0y a b f : Nat) : Int) := by rw [A0j, A0Z _ _ hfl]
 have hsk : (A0j a b a.1.length).getD k 0 = ((A0y a b k : Nat) : Int) := by rw [A0j, A0Z _ _ hk]
 have lf := A0E h (show f ≤ a.1.length by omega);have lk := A0E h (show k ≤ a.1.length by omega);have mf : A0y a b f + stN a f * stN b f ≤ n := by rw [hn]; exact A0J a b (show f + 1 ≤ a.1.length by omega)
 have mk : A0y a b k + stN a k * stN b k ≤ n := by rw [hn]; exact A0J a b (show k + 1 ≤ a.1.length by omega)
 have e1 := E.ak; have e2 := E.af; have e3 := E.bk; have e4 := E.bf;have hrow : A0K a b n k i r c = A0S (A0S (List.replicate n 0) (hom1 (A0y a b f) (stN a f) (stN b f) r c (A0z b k i).2.2.2 (stN b f))) (hom2 (A0y a b k) (stN a k) (stN a f) r c a.2.1 (A0z a k i).2.2.2 (stN a k)) := by
   rw [A0K, E.fc_]; simp only [Int.toNat_natCast]
 obtain ⟨s, hs, g1⟩ := Goes.loop (R := ((Int × Int × Unit) × Unit)) (fun t l (s : List Int) => Aa1.l31 t (n : Int) (k : Int) (i : Int) (A0z b k i).1 (A0z b k i).2.1 (A0z b k i).2.2.1 (A0z b k i).2.2.2 (A0z a k i).1 (A0z a k i).2.1 (A0z a k i).2.2.1 (A0z a k i).2.2.2 (r : Int) (c : Int) (l : Int) a.1 a.2.1 a.2.2.1 a.2.2.2 b.1 b.2.1 b.2.2.1 b.2.2.2 (A0j a b a.1.length) rows (fcs a.1 k) s) (stN b f)
   (fun l s => s = A0S (List.replicate n 0) (hom1 (A0y a b f) (stN a f) (stN b f) r c (A0z b k i).2.2.2 l)) (fun l s hl h2 => ⟨_, rfl, Goes.succ fun t => by
     have hb := A0t hr hl;have hq := A0t hl hc;have hq2 : stN b f * stN a f = stN a f * stN b f := Nat.mul_comm _ _;have hlen : s.length = n := by rw [h2, A0V, List.length_replicate]
     have hlt : r * stN b f + l < (A0z b k i).2.2.2.length := by rw [E.x4]; exact hb
     have hx := E.x5 _ (A0x 0 hlt);have hz : s.getD (A0y a b f + l * stN a f + c) 0 = 0 := by rw [h2]; exact hom1_at hc
     rw [Aa1.l31_eq, E.x3, E.y3, if_pos (ltI.2 hl), if_pos (idxI.2 hi)];simp only [Int.toNat_natCast, E.fc_, hsf];rw [if_pos (idxI.2 (by rw [hsl]; exact hfl)), homW (by omega) (by omega) (by omega) (by omega), posW (by omega) (by omega) (by omega), if_pos (idxI.2 (by rw [hlen]; omega)), if_pos (idxI.2 hlt), if_pos (idxI.2 (by rw [hlen]; omega))];simp only [Int.toNat_natCast, hz];rw [A0w (x := 0 + (A0z b k i).2.2.2.getD (r * stN b f + l) 0) (by omega) (by omega), Int.zero_add, A0v (by omega), hom1, List.range_succ, List.map_append, A0u, h2]; rfl⟩) 0 (List.replicate n 0) (Nat.zero_le _) rfl
 subst hs;refine g1.trans ?_;refine (Goes.succ (B := fun t => Aa1.l35 t (n : Int) (k : Int) (i : Int) (A0z b k i).1 (A0z b k i).2.1 (A0z b k i).2.2.1 (A0z b k i).2.2.2 (A0z a k i).1 (A0z a k i).2.1 (A0z a k i).2.2.1 (A0z a k i).2.2.2 (r : Int) (c : Int) 0 a.1 a.2.1 a.2.2.1 a.2.2.2 b.1 b.2.1 b.2.2.1 b.2.2.2 (A0j a b a.1.length) rows (fcs a.1 k) (A0S (List.replicate n 0) (hom1 (A0y a b f) (stN a f) (stN b f) r c (A0z b k i).2.2.2 (stN b f)))) fun t => by
   rw [Aa1.l31_eq, if_neg (by rw [E.x3]; simp)]).trans ?_
 obtain ⟨s, hs, g2⟩ := Goes.loop (R := ((Int × Int × Unit) × Unit)) (fun t l (s : List Int) => Aa1.l35 t (n : Int) (k : Int) (i : Int) (A0z b k i).1 (A0z b k i).2.1 (A0z b k i).2.2.1 (A0z b k i).2.2.2 (A0z a k i).1 (A0z a k i).2.1 (A0z a k i).2.2.1 (A0z a k i).2.2.2 (r : Int) (c : Int) (l : Int) a.1 a.2.1 a.2.2.1 a.2.2.2 b.1 b.2.1 b.2.2.1 b.2.2.2 (A0j a b a.1.length) rows (fcs a.1 k) s) (stN a k)
   (fun l s => s = A0S (A0S (List.replicate n 0) (hom1 (A0y a b f) (stN a f) (stN b f) r c (A0z b k i).2.2.2 (stN b f))) (hom2 (A0y a b k) (stN a k) (stN a f) r c a.2.1 (A0z a k i).2.2.2 l)) (fun l s hl h2 => ⟨_, rfl, Goes.succ fun t => by
     have hb := A0t hl hc;have hlt : l * stN a f + c < (A0z a k i).2.2.2.length := by rw [E.y4]; exact hb
     have hin := E.y5 _ (A0x 0 hlt);have hq := A0t hr hl;have hq2 : stN b k * stN a k = stN a k * stN b k := Nat.mul_comm _ _;have hlen : s.length = n := by rw [h2, A0V, A0V, List.length_replicate]
     have hz : s.getD (A0y a b k + r * stN a k + l) 0 = 0 := by
       rw [h2, A1C _ _ fun q hq => by obtain ⟨j, hj, rfl⟩ := List.mem_map.1 hq; have := List.mem_range.1 hj; simp only []; omega, A1C _ _ fun q hq3 => ?_]
       . simp [List.getD_eq_getElem?_getD, List.getElem?_replicate];split <;> rfl
       . obtain ⟨j, hj, rfl⟩ := List.mem_map.1 hq3;have hj := A0t (List.mem_range.1 hj) hc;have hq3 : stN b f * stN a f = stN a f * stN b f := Nat.mul_comm _ _;simp only [];rcases Nat.lt_or_gt_of_ne E.ne with hlt | hlt
         . have : A0y a b f + stN a f * stN b f ≤ A0y a b k := A0J a b (show f + 1 ≤ k from hlt);omega
         . have : A0y a b k + stN a k * stN b k ≤ A0y a b f := A0J a b (show k + 1 ≤ f from hlt);omega
     have hm : 0 ≤ (a.2.1 - 1) * (A0z a k i).2.2.2.getD (l * stN a f + c) 0 /\ (a.2.1 - 1) * (A0z a k i).2.2.2.getD (l * stN a f + c) 0 ≤ 250 * 250 :=
       ⟨Int.mul_nonneg (by omega) hin.1, Int.mul_le_mul (by omega) (by omega) hin.1 (by omega)⟩
     rw [Aa1.l35_eq, E.y2, E.y3, if_pos (ltI.2 hl), if_pos (idxI.2 (by rw [hsl]; exact hk))];simp only [Int.toNat_natCast, hsk];rw [homW (by omega) (by omega) (by omega) (by omega), posW (by omega) (by omega) (by omega), if_pos (idxI.2 (by rw [hlen]; omega)), if_pos (idxI.2 hlt), if_neg (by omega), if_pos (idxI.2 (by rw [hlen]; omega))];simp only [Int.toNat_natCast, hz];rw [A0w (x := a.2.1 - 1) (by omega) (by omega), A0w (x := (a.2.1 - 1) * _) (by omega) (by omega), A0w (x := 0 + _) (by omega) (by omega), modNeg hp hin, A0v (by omega), hom2, List.range_succ, List.map_append, A0u, h2]; rfl⟩) 0 _ (Nat.zero_le _) rfl
 subst hs;refine g2.trans ?_;refine Goes.succ fun t => ?_;rw [Aa1.l35_eq, if_neg (by rw [E.y2]; simp), if_pos (by simp only [List.length_cons, List.length_nil, bigA]; omega), A0v (by omega), hrow]
theorem Aa1.edge {a b : ShfV} (h : HomOk a b) {k i f : Nat} (E : HomEdge a b k i f) (hk : k < a.1.length) (hi : i < (fcs a.1 k).length) {n : Nat} (hn : n = A0y a b a.1.length) (rows : List (List Int)) (hrl : rows.length < 1000000) :
   Goes (fun t => Aa1.l24 t (n : Int) (k : Int) (i : Int) (A0z b k i).1 (A0z b k i).2.1 (A0z b k i).2.2.1 (A0z b k i).2.2.2 (A0z a k i).1 (A0z a k i).2.1 (A0z a k i).2.2.1 (A0z a k i).2.2.2 0 a.1 a.2.1 a.2.2.1 a.2.2.2 b.1 b.2.1 b.2.2.1 b.2.2.2 (A0j a b a.1.length) rows (fcs a.1 k))
     (fun t => Aa1.l19 t (n : Int) (k : Int) ((i + 1 : Nat) : Int) a.1 a.2.1 a.2.2.1 a.2.2.2 b.1 b.2.1 b.2.2.1 b.2.2.2 (A0j a b a.1.length) (rows ++ A0s a b n k i) (fcs a.1 k)) := by
 have h5 := h.oa.1.1;have hfl := E.fl;have h6 := (A2B h.oa.1 hk hi);have hi4 : i < 4 := by
   have := A0l h.oa.1 hk;have e : (fcs a.1 k).length = (A0G (a.1.getD k [])).length := by simp [fcs]
   omega
 have lN := A0E h (Nat.le_refl a.1.length);have e1 := E.ak; have e2 := E.af; have e3 := E.bk; have e4 := E.bf;have hat : A0s a b n k i = (List.range (stN b k)).flatMap fun r => (List.range (stN a f)).map (A0K a b n k i r) := by rw [A0s, E.fc_, Int.toNat_natCast]
 obtain ⟨s, hs, g1⟩ := Goes.loop (R := ((Int × Int × Unit) × Unit)) (fun t r (s : List (List Int)) => Aa1.l24 t (n : Int) (k : Int) (i : Int) (A0z b k i).1 (A0z b k i).2.1 (A0z b k i).2.2.1 (A0z b k i).2.2.2 (A0z a k i).1 (A0z a k i).2.1 (A0z a k i).2.2.1 (A0z a k i).2.2.2 (r : Int) a.1 a.2.1 a.2.2.1 a.2.2.2 b.1 b.2.1 b.2.2.1 b.2.2.2 (A0j a b a.1.length) s (fcs a.1 k)) (stN b k)
   (fun r s => s = rows ++ (List.range r).flatMap fun r => (List.range (stN a f)).map (A0K a b n k i r)) (fun r s hr h2 => by
     refine ⟨_, rfl, ?_⟩;have hr9 : r * stN a f ≤ 3 * 3 := Nat.mul_le_mul (by omega) e2;have hsl : s.length ≤ rows.length + 9 := by rw [h2, List.length_append, A3q]; omega
     obtain ⟨u, hu, g2⟩ := Goes.loop (R := ((Int × Int × Unit) × Unit)) (fun t c (u : List (List Int)) => Aa1.l27 t (n : Int) (k : Int) (i : Int) (A0z b k i).1 (A0z b k i).2.1 (A0z b k i).2.2.1 (A0z b k i).2.2.2 (A0z a k i).1 (A0z a k i).2.1 (A0z a k i).2.2.1 (A0z a k i).2.2.2 (r : Int) (c : Int) a.1 a.2.1 a.2.2.1 a.2.2.2 b.1 b.2.1 b.2.2.1 b.2.2.2 (A0j a b a.1.length) u (fcs a.1 k)) (stN a f)
       (fun c u => u = s ++ (List.range c).map (A0K a b n k i r)) (fun c u hc h3 => by
         refine ⟨_, rfl, ?_⟩;have hul : u.length < 1048576 := by rw [h3, List.length_append, List.length_map, List.length_range]; omega
         refine (Goes.succ (fun t => ?_)).trans ((Aa1.row h E hk hi hn r c hr hc u hul).trans (Goes.of_eq fun t => ?_))
         . rw [Aa1.l27_eq, if_pos (by rw [E.y3]; exact ltI.2 hc), if_pos (by simp only [bigN]; omega), Int.toNat_natCast]
         . rw [h3, List.append_assoc, List.range_succ, List.map_append]; rfl) 0 s (Nat.zero_le _) (by simp)
     refine (Goes.succ (fun t => ?_)).trans (g2.trans (Goes.succ fun t => ?_))
     . rw [Aa1.l24_eq, if_pos (by rw [E.x2]; exact ltI.2 hr)]; rfl
     . rw [Aa1.l27_eq, if_neg (by rw [E.y3]; simp), A0v (by omega), hu, h2, List.append_assoc, A0C]) 0 rows (Nat.zero_le _) (by simp)
 refine g1.trans (Goes.succ fun t => ?_);rw [Aa1.l24_eq, if_neg (by rw [E.x2]; simp), hs, hat, A0v (by omega)]
theorem homPart {a b : ShfV} (n k : Nat) {m : Nat} (hk : k < a.1.length) (hm : m ≤ (fcs a.1 k).length) : ((List.range k).flatMap (A1w a b n) ++ (List.range m).flatMap (A0s a b n k)).length ≤ (A0H a b n).length := by
 have key : ∀ {X : Type} (g : Nat -> List X) {p q : Nat}, p ≤ q -> ((List.range p).flatMap g).length ≤ ((List.range q).flatMap g).length := by
   intro X g p q hpq;induction hpq with
   | refl => exact Nat.le_refl _
   | step _ ih => rw [A0C, List.length_append]; omega
 have h1 := key (A0s a b n k) hm;have h2 := key (A1w a b n) (show k + 1 ≤ a.1.length from hk);rw [A0C, List.length_append] at h2;rw [List.length_append];have h3 : A1w a b n k = (List.range (fcs a.1 k).length).flatMap (A0s a b n k) := rfl;rw [h3] at h2;exact Nat.le_trans (by omega) h2
end Go.Proofs.YtnfpapicmhhlnaaGreat
