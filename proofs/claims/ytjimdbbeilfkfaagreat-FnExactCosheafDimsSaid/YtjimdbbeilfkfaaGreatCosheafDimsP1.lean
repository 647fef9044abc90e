/- What the functions answer. -/
import Derived.Test.YtjimdbbeilfkfaaGreatCosheafDimsG1
namespace Go.Proofs.YtjimdbbeilfkfaaGreat
open Go Go.Vm
set_option linter.unusedVariables false
set_option linter.unusedSimpArgs false
abbrev A2O := Int × Int × Int
theorem A0v {x : Int} (h1 : -9223372036854775808 ≤ x) (h2 : x ≤ 9223372036854775807) : IntKind.i64.wrap x = x := by
 have e : (2 : Int) ^ (IntKind.i64).bits = 18446744073709551616 := by decide
 have e2 : (2 : Int) ^ ((IntKind.i64).bits - 1) = 9223372036854775808 := by decide
 unfold IntKind.wrap;simp only [e, e2, show IntKind.i64.signed = true from rfl, Bool.true_and, decide_eq_true_eq];split <;> omega
theorem A0y {i : Nat} (h : i < 4611686018427387904) : IntKind.i64.wrap ((i : Int) + 1) = ((i + 1 : Nat) : Int) := by
 rw [A0v (by omega) (by omega)]; omega
theorem idxI {α : Type} {xs : List α} {i : Nat} : (0 ≤ (i : Int) /\ (i : Int) < (xs.length : Int)) ↔ i < xs.length := by omega
theorem ltI {i n : Nat} : (decide ((i : Int) < (n : Int))) = true ↔ i < n := by simp
theorem A0x {α : Type} {xs : List α} {i : Nat} {d : α} (h : i < xs.length) : xs.getD i d = xs[i] := by
 rw [List.getD_eq_getElem?_getD, List.getElem?_eq_getElem h]; rfl
def Goes {R : Type} (A B : Nat -> Option R) : Prop := ∀ r, Ev B r -> Ev A r
theorem Goes.refl {R : Type} (A : Nat -> Option R) : Goes A A := fun _ h => h
theorem Goes.trans {R : Type} {A B C : Nat -> Option R} (h : Goes A B) (k : Goes B C) : Goes A C := fun r hr => h r (k r hr)
theorem Goes.succ {R : Type} {A B : Nat -> Option R} (e : ∀ k, A (k + 1) = B k) : Goes A B := fun _ h => h.succ e
theorem Goes.of_eq {R : Type} {A B : Nat -> Option R} (e : ∀ k, A k = B k) : Goes A B := fun _ h => h.of_eq e
theorem Ev.loop {σ R : Type} (L : Nat -> Nat -> σ -> Option R) (n : Nat) (I : Nat -> σ -> Prop) (Q : R -> Prop)
   (hstep : ∀ i s, i < n -> I i s -> (∃ r, Ev (fun k => L k i s) r /\ Q r) ∨ (∃ s', I (i + 1) s' /\ Goes (fun k => L k i s) (fun k => L k (i + 1) s')))
   (hend : ∀ s, I n s -> ∃ r, Ev (fun k => L k n s) r /\ Q r) : ∀ i s, i ≤ n -> I i s -> ∃ r, Ev (fun k => L k i s) r /\ Q r := by
 have key : ∀ j i s, i + j = n -> I i s -> ∃ r, Ev (fun k => L k i s) r /\ Q r := by
   intro j;induction j with
   | zero => intro i s hi h; obtain rfl : i = n := by omega
             exact hend s h
   | succ j ih =>
     intro i s hi h;rcases hstep i s (by omega) h with h1 | ⟨s', h1, h2⟩
     . exact h1
     . obtain ⟨r, hr, hq⟩ := ih (i + 1) s' (by omega) h1;exact ⟨r, h2 r hr, hq⟩
 exact fun i s hi h => key (n - i) i s (by omega) h
theorem Goes.loop {σ R : Type} (L : Nat -> Nat -> σ -> Option R) (n : Nat) (I : Nat -> σ -> Prop)
   (hstep : ∀ i s, i < n -> I i s -> ∃ s', I (i + 1) s' /\ Goes (fun k => L k i s) (fun k => L k (i + 1) s')) : ∀ i s, i ≤ n -> I i s -> ∃ s', I n s' /\ Goes (fun k => L k i s) (fun k => L k n s') := by
 have key : ∀ j i s, i + j = n -> I i s -> ∃ s', I n s' /\ Goes (fun k => L k i s) (fun k => L k n s') := by
   intro j;induction j with
   | zero => intro i s hi h; obtain rfl : i = n := by omega
             exact ⟨s, h, Goes.refl _⟩
   | succ j ih =>
     intro i s hi h;obtain ⟨s', h1, h2⟩ := hstep i s (by omega) h;obtain ⟨s2, h3, h4⟩ := ih (i + 1) s' (by omega) h1;exact ⟨s2, h3, h2.trans h4⟩
 exact fun i s hi h => key (n - i) i s (by omega) h
theorem Ev.all {A B : Type} {L : Nat -> Nat -> Option ((Bool × A) × B)} {a : A} {b : B} {n : Nat} (p : Nat -> Bool) (hstep : ∀ k i, i < n -> L (k + 1) i = if p i = true then L k (i + 1) else some ((false, a), b)) (hend : ∀ k, L (k + 1) n = some ((true, a), b)) (i : Nat) (hi : i ≤ n) :
   ∃ v, Ev (fun k => L k i) ((v, a), b) /\ (v = true ↔ ∀ j, i ≤ j -> j < n -> p j = true) := by
 have key : ∀ m i, i + m = n -> ∃ v, Ev (fun k => L k i) ((v, a), b) /\ (v = true ↔ ∀ j, i ≤ j -> j < n -> p j = true) := by
   intro m;induction m with
   | zero => intro i hi; obtain rfl : i = n := by omega
             exact ⟨true, (Ev.const _).succ hend, by simp; intro j _ _; omega⟩
   | succ m ih =>
     intro i hi;obtain ⟨v, hv, hv'⟩ := ih (i + 1) (by omega);cases hp : p i with
     | false => exact ⟨false, (Ev.const _).succ fun k => by rw [hstep k i (by omega), hp]; rfl, by simp; exact ⟨i, Nat.le_refl _, by omega, hp⟩⟩
     | true =>
       refine ⟨v, hv.succ fun k => by rw [hstep k i (by omega), hp]; rfl, hv'.trans ⟨fun h j hj hn => ?_, fun h j hj hn => h j (by omega) hn⟩⟩;by_cases hij : j = i
       . rw [hij]; exact hp
       . exact h j (by omega) hn
 exact key (n - i) i (by omega)
theorem all_eq {α : Type} {xs ys : List α} (hl : xs.length = ys.length) (q : α -> α -> Bool) (hq : ∀ x y, q x y = true ↔ x = y) (d : α) : (∀ j, 0 ≤ j -> j < xs.length -> q (xs.getD j d) (ys.getD j d) = true) ↔ xs = ys := by
 constructor
 . intro h;refine List.ext_getElem hl fun i h1 h2 => ?_;have := (hq _ _).1 (h i (Nat.zero_le _) h1)
   rwa [A0x h1, A0x h2] at this
 . rintro rfl j _ _;exact (hq _ _).2 rfl
theorem Goes.fill {α R : Type} {L : Nat -> Nat -> List α -> Option R} (xs : List α) (d : α) (hstep : ∀ k i ys, i < xs.length -> ys.length = xs.length -> L (k + 1) i ys = L k (i + 1) (ys.set i (xs.getD i d))) (ys : List α) (hy : ys.length = xs.length) :
   Goes (fun k => L k 0 ys) (fun k => L k xs.length xs) := by
 obtain ⟨s, ⟨hs1, hs2⟩, hs3⟩ := Goes.loop L xs.length (fun i s => s.length = xs.length /\ s.take i = xs.take i) (fun i s hi ⟨h1, h2⟩ => ⟨s.set i (xs.getD i d), ⟨by simp [h1], by
   rw [List.take_add_one, List.take_add_one, List.take_set_of_le (Nat.le_refl _), h2];simp [hi, h1, A0x hi]⟩, Goes.succ fun k => hstep k i s hi h1⟩) 0 ys (Nat.zero_le _) ⟨hy, by simp⟩
 have : s = xs := by
   rw [List.take_of_length_le (by omega), List.take_of_length_le (Nat.le_refl _)] at hs2;exact hs2
 rw [this] at hs3;exact hs3
theorem ite_nb {α : Type} (b : Bool) (x y : α) : (if (!b) = true then x else y) = if b = true then y else x := by cases b <;> rfl
theorem Ev.allP {A B : Type} {L : Nat -> Nat -> Option ((Bool × A) × B)} {a : A} {b : B} {n : Nat} (P : Nat -> Prop) (e : Bool) (hstep : ∀ i, i < n -> (P i /\ ∀ k, L (k + 1) i = L k (i + 1)) ∨ (¬ P i /\ ∀ k, L (k + 1) i = some ((false, a), b))) (hend : Ev (fun k => L k n) ((e, a), b)) (i : Nat) (hi : i ≤ n) :
   ∃ v, Ev (fun k => L k i) ((v, a), b) /\ (v = true ↔ e = true /\ ∀ j, i ≤ j -> j < n -> P j) := by
 have key : ∀ m i, i + m = n -> ∃ v, Ev (fun k => L k i) ((v, a), b) /\ (v = true ↔ e = true /\ ∀ j, i ≤ j -> j < n -> P j) := by
   intro m;induction m with
   | zero => intro i hi; obtain rfl : i = n := by omega
             exact ⟨e, hend, ⟨fun h => ⟨h, fun j h1 h2 => by omega⟩, fun h => h.1⟩⟩
   | succ m ih =>
     intro i hi;obtain ⟨v, hv, hv'⟩ := ih (i + 1) (by omega);rcases hstep i (by omega) with ⟨hp, h⟩ | ⟨hp, h⟩
     . refine ⟨v, hv.succ h, hv'.trans ⟨fun ⟨h1, h2⟩ => ⟨h1, fun j hj hn => ?_⟩, fun ⟨h1, h2⟩ => ⟨h1, fun j hj hn => h2 j (by omega) hn⟩⟩⟩;by_cases hij : j = i
       . rw [hij]; exact hp
       . exact h2 j (by omega) hn
     . exact ⟨false, (Ev.const _).succ h, ⟨fun h => (by cases h), fun ⟨_, h2⟩ => absurd (h2 i (Nat.le_refl _) (by omega)) hp⟩⟩
 exact key (n - i) i (by omega)
theorem A2b {i : Nat} (h : 0 < i) (h2 : i < 4611686018427387904) : IntKind.i64.wrap ((i : Int) - 1) = ((i - 1 : Nat) : Int) := by
 rw [A0v (by omega) (by omega)]; omega
theorem Goes.foldl {α σ R : Type} {L : Nat -> Nat -> σ -> Option R} (xs : List α) (d : α) (f : σ -> α -> σ) (hstep : ∀ k i s, i < xs.length -> L (k + 1) i s = L k (i + 1) (f s (xs.getD i d))) (s : σ) : Goes (fun k => L k 0 s) (fun k => L k xs.length (xs.foldl f s)) := by
 have key : ∀ m i s, i + m = xs.length -> Goes (fun k => L k i s) (fun k => L k xs.length ((xs.drop i).foldl f s)) := by
   intro m;induction m with
   | zero => intro i s hi; obtain rfl : i = xs.length := by omega
             rw [List.drop_length]; exact Goes.refl _
   | succ m ih =>
     intro i s hi;have h : i < xs.length := by omega
     refine (Goes.succ fun k => hstep k i s h).trans ?_;rw [List.drop_eq_getElem_cons h, List.foldl_cons, <- A0x (d := d) h];exact ih (i + 1) _ (by omega)
 have := key xs.length 0 s (by omega);simpa using this
theorem A0z {α : Type} {xs : List α} {i : Nat} (d : α) (h : i < xs.length) : xs.getD i d ∈ xs := by rw [A0x h]; exact List.getElem_mem h
theorem Ev.allF {A B : Type} {L : Nat -> Nat -> Option ((Bool × A) × B)} {a : A} {b : B} {n : Nat} (P : Nat -> Prop) (e : Bool) (i0 : Nat) (hstep : ∀ i, i0 ≤ i -> i < n -> (P i /\ ∀ k, L (k + 1) i = L k (i + 1)) ∨ (¬ P i /\ ∀ k, L (k + 1) i = some ((false, a), b))) (hend : Ev (fun k => L k n) ((e, a), b)) (i : Nat) (h0 : i0 ≤ i) (hi : i ≤ n) :
   ∃ v, Ev (fun k => L k i) ((v, a), b) /\ (v = true ↔ e = true /\ ∀ j, i ≤ j -> j < n -> P j) := by
 have key : ∀ m i, i0 ≤ i -> i + m = n -> ∃ v, Ev (fun k => L k i) ((v, a), b) /\ (v = true ↔ e = true /\ ∀ j, i ≤ j -> j < n -> P j) := by
   intro m;induction m with
   | zero => intro i h0 hi; obtain rfl : i = n := by omega
             exact ⟨e, hend, ⟨fun h => ⟨h, fun j h1 h2 => by omega⟩, fun h => h.1⟩⟩
   | succ m ih =>
     intro i h0 hi;obtain ⟨v, hv, hv'⟩ := ih (i + 1) (by omega) (by omega);rcases hstep i h0 (by omega) with ⟨hp, h⟩ | ⟨hp, h⟩
     . refine ⟨v, hv.succ h, hv'.trans ⟨fun ⟨h1, h2⟩ => ⟨h1, fun j hj hn => ?_⟩, fun ⟨h1, h2⟩ => ⟨h1, fun j hj hn => h2 j (by omega) hn⟩⟩⟩;by_cases hij : j = i
       . rw [hij]; exact hp
       . exact h2 j (by omega) hn
     . exact ⟨false, (Ev.const _).succ h, ⟨fun h => (by cases h), fun ⟨_, h2⟩ => absurd (h2 i (Nat.le_refl _) (by omega)) hp⟩⟩
 exact key (n - i) i h0 (by omega)
theorem Aa4.val (n lo hi : Int) : Aa4.F (n, lo, hi, ()) = some ((decide (lo ≤ n /\ n ≤ hi), ()), ()) := by
 rw [Aa4.eq, Aa4.T];by_cases h : lo ≤ n
 . rw [if_pos (by simp [h])]; simp [h]
 . rw [if_neg (by simp [h])]; simp [h]
theorem Aa7.val (n lo hi : Int) : Aa7.F (n, lo, hi, ()) = some ((decide (lo ≤ n /\ n ≤ hi), ()), ()) := by
 rw [Aa7.eq, Aa7.T];by_cases h : lo ≤ n
 . rw [if_pos (by simp [h])]; simp [h]
 . rw [if_neg (by simp [h])]; simp [h]
def cmpI (x y : Int) : Int := if x < y then -1 else if x > y then 1 else 0
theorem Ak1.val (x y : Int) : Ak1.F (x, y, ()) = some ((cmpI x y, ()), ()) := by
 rw [Ak1.eq, Ak1.T, Ak3.eq, Ak3.T, Ak3.eq, Ak3.T];simp only [Option.bind_some, bne_self_eq_false, Bool.false_eq_true, if_false, decide_eq_true_eq, cmpI]
 repeat' split
 all_goals rfl
theorem Ah2.val2 (x y : Int) : Ah2.F ([x, y], ()) = some ((if x ≠ 0 then x else y, ()), ()) := by
 refine Ah2.of _ ⟨3, fun k hk => ?_⟩;obtain ⟨k, rfl⟩ : ∃ j, k = j + 1 + 1 + 1 := ⟨k - 3, by omega⟩;show Ah2.T (k + 1 + 1 + 1) [x, y] = _;rw [Ah2.T, Ah2.l3_eq];by_cases hx : x = 0
 . subst hx;simp only [List.length_cons, List.length_nil];rw [if_pos (by simp), if_pos (by simp), if_neg (by simp), Ah2.l3_eq];simp only [List.length_cons, List.length_nil];rw [A0v (by omega) (by omega)];rw [if_pos (by simp), if_pos (by simp)];by_cases hy : y = 0
   . subst hy;rw [if_neg (by simp), Ah2.l3_eq, A0v (by omega) (by omega), if_neg (by simp)]; simp
   . rw [if_pos (by simp [hy])]; simp
 . simp only [List.length_cons, List.length_nil];rw [if_pos (by simp), if_pos (by simp), if_pos (by simp [hx])];simp [hx]
abbrev MatV := Int × Int × Int × List Int
abbrev ShfV := List (List Int) × Int × List Int × List MatV
def Sm (xs : List Int) : Prop := xs.length ≤ 1048576
def SmL (xs : List (List Int)) : Prop := xs.length ≤ 1048576 /\ ∀ x ∈ xs, Sm x
def SmM (m : MatV) : Prop := Sm m.2.2.2
def SmMs (ms : List MatV) : Prop := ms.length ≤ 1048576 /\ ∀ m ∈ ms, SmM m
def SmSh (s : ShfV) : Prop := SmL s.1 /\ Sm s.2.2.1 /\ SmMs s.2.2.2
theorem A2u {α : Type} (L : Nat -> Nat -> Int -> Option ((Int × Unit) × Unit)) (xs : List α) (d : α) (P : α -> Prop)
   (hstep : ∀ i l, i < xs.length -> 0 ≤ l -> l ≤ 1048576 -> (∃ r, 0 ≤ r /\ r ≤ l /\ P (xs.getD i d) /\ ∀ k, L (k + 1) i l = L k (i + 1) r) ∨ ∀ k, L (k + 1) i l = some ((-1, ()), ()))
   (hend : ∀ k l, L (k + 1) xs.length l = some ((l, ()), ())) (l : Int) (h0 : 0 ≤ l) (h1 : l ≤ 1048576) :
   ∃ r, Ev (fun k => L k 0 l) ((r, ()), ()) /\ (r = -1 ∨ 0 ≤ r /\ r ≤ l /\ ∀ x ∈ xs, P x) := by
 obtain ⟨r, hr, q, rfl, hq⟩ := Ev.loop (σ := Int) L xs.length (fun i s => 0 ≤ s /\ s ≤ l /\ ∀ j, j < i -> P (xs.getD j d)) (fun r => ∃ q : Int, r = ((q, ()), ()) /\ (q = -1 ∨ 0 ≤ q /\ q ≤ l /\ ∀ x ∈ xs, P x))
   (fun i s hi ⟨a, b, c⟩ => by
     rcases hstep i s hi a (by omega) with ⟨r, r0, r1, hp, e⟩ | e
     . refine .inr ⟨r, ⟨r0, by omega, fun j hj => ?_⟩, Goes.succ e⟩;by_cases hji : j = i
       . rw [hji]; exact hp
       . exact c j (by omega)
     . exact .inl ⟨_, (Ev.const _).succ e, -1, rfl, .inl rfl⟩)
   (fun s ⟨a, b, c⟩ => ⟨_, (Ev.const _).succ fun k => hend k s, s, rfl, .inr ⟨a, b, fun x hx => by
     obtain ⟨j, hj, rfl⟩ := List.getElem_of_mem hx;rw [<- A0x (d := d) hj]; exact c j hj⟩⟩) 0 l (Nat.zero_le _) ⟨h0, Int.le_refl _, fun j hj => by omega⟩
 exact ⟨q, hr, hq⟩
theorem A0X {α : Type} (L : Nat -> Nat -> Option ((Bool × Unit) × Unit)) (xs ys : List α) (d : α) (hl : xs.length = ys.length)
   (hstep : ∀ i, i < xs.length -> ∃ b : Bool, (b = true ↔ xs.getD i d = ys.getD i d) /\ ∀ k, L (k + 1) i = if (!b) = true then some ((false, ()), ()) else L k (i + 1))
   (hend : ∀ k, L (k + 1) xs.length = some ((true, ()), ())) : ∃ v, Ev (fun k => L k 0) ((v, ()), ()) /\ (v = true ↔ xs = ys) := by
 obtain ⟨v, hv, hv'⟩ := Ev.allP (L := L) (a := ()) (b := ()) (n := xs.length) (fun i => xs.getD i d = ys.getD i d) true (fun i hi => by
   obtain ⟨b, hb, e⟩ := hstep i hi;cases b with
   | true => exact .inl ⟨hb.1 rfl, fun k => by rw [e]; rfl⟩
   | false => exact .inr ⟨fun h => absurd (hb.2 h) (by simp), fun k => by rw [e]; rfl⟩) ((Ev.const _).succ hend) 0 (Nat.zero_le _)
 refine ⟨v, hv, hv'.trans ⟨fun ⟨_, h⟩ => ?_, fun h => ⟨rfl, fun j _ _ => by rw [h]⟩⟩⟩;refine List.ext_getElem hl fun i h1 h2 => ?_;have := h i (Nat.zero_le _) h1
 rwa [A0x h1, A0x h2] at this
theorem idx2 {i n : Nat} (h : i < n) : 0 ≤ (i : Int) /\ (i : Int) < (n : Int) := by omega
def A0s (p : Int) : Prop := (2 ≤ p /\ p ≤ 251) /\ ∀ i : Nat, 2 ≤ i -> (i : Int) * i ≤ p -> p.tmod i ≠ 0
theorem A2N {i : Nat} (h : i ≤ 1000) : IntKind.i64.wrap ((i : Int) * (i : Int)) = (i : Int) * (i : Int) := by
 have : i * i ≤ 1000 * 1000 := Nat.mul_le_mul h h;have e : (i : Int) * (i : Int) = ((i * i : Nat) : Int) := by simp
 rw [e]; exact A0v (by omega) (by omega)
theorem A1O (L : Nat -> Int -> Option ((Bool × Unit) × Unit)) (p : Int) (hp : 2 ≤ p /\ p ≤ 251) (hL : ∀ k i, L (k + 1) i = if (decide ((IntKind.i64.wrap (i * i)) ≤ p)) = true then (if i = 0 then none else if ((p.tmod i) == (0 : Int)) = true then some ((false, ()), ()) else L k (IntKind.i64.wrap (i + (1 : Int)))) else some ((true, ()), ())) :
   ∃ v, Ev (fun k => L k 2) ((v, ()), ()) /\ (v = true ↔ A0s p) := by
 have big : ∀ i : Nat, 16 ≤ i -> p < (i : Int) * i := fun i hi => by
   have : 16 * 16 ≤ i * i := Nat.mul_le_mul hi hi;have e : (i : Int) * (i : Int) = ((i * i : Nat) : Int) := by simp
   omega
 have key : ∀ d i : Nat, 16 - i ≤ d -> 2 ≤ i -> i ≤ 1000 -> (∀ j : Nat, 2 ≤ j -> j < i -> p.tmod j ≠ 0) -> ∃ v, Ev (fun k => L k (i : Int)) ((v, ()), ()) /\ (v = true ↔ A0s p) := by
   intro d;induction d with
   | zero =>
     intro i hd h2 hi hlow;refine ⟨true, (Ev.const _).succ fun k => by rw [hL, A2N hi, if_neg (by simp only [decide_eq_true_eq]; have := big i (by omega); omega)], by simp; exact ⟨hp, fun j hj hjp => hlow j hj (by
       by_cases h : j < i
       . exact h
       . have := big j (by omega); omega)⟩⟩
   | succ d ih =>
     intro i hd h2 hi hlow;by_cases hsq : (i : Int) * i ≤ p
     . by_cases hm : p.tmod (i : Int) = 0
       . exact ⟨false, (Ev.const _).succ fun k => by rw [hL, A2N hi, if_pos (by simp only [decide_eq_true_eq]; exact hsq), if_neg (by omega), if_pos (by simp only [beq_iff_eq]; exact hm)], by simp; intro hc; exact hc.2 i h2 hsq hm⟩
       . have hi16 : i < 16 := by
           by_cases h : i < 16
           . exact h
           . have := big i (by omega); omega
         obtain ⟨v, hv, hv'⟩ := ih (i + 1) (by omega) (by omega) (by omega) (fun j hj hji => by
           by_cases h : j = i
           . rw [h]; exact hm
           . exact hlow j hj (by omega))
         exact ⟨v, hv.succ fun k => by rw [hL, A2N hi, if_pos (by simp only [decide_eq_true_eq]; exact hsq), if_neg (by omega), if_neg (by simp only [beq_iff_eq]; exact hm), A0y (by omega)], hv'⟩
     . refine ⟨true, (Ev.const _).succ fun k => by rw [hL, A2N hi, if_neg (by simp only [decide_eq_true_eq]; exact hsq)], by simp; exact ⟨hp, fun j hj hjp => hlow j hj (by
         by_cases h : j < i
         . exact h
         . exfalso;have : i * i ≤ j * j := Nat.mul_le_mul (by omega) (by omega);have e1 : (i : Int) * (i : Int) = ((i * i : Nat) : Int) := by simp
           have e2 : (j : Int) * (j : Int) = ((j * j : Nat) : Int) := by simp
           omega)⟩⟩
 exact key 16 2 (by omega) (by omega) (by omega) fun j hj hj2 => by omega
theorem Ag9.val (p : Int) : ∃ v, Ag9.F (p, ()) = some ((v, ()), ()) /\ (v = true ↔ A0s p) := by
 by_cases hp : 2 ≤ p /\ p ≤ 251
 . obtain ⟨v, hv, hv'⟩ := A1O (fun k i => Ag9.l4 k p i) p hp (fun k i => Ag9.l4_eq k p i);exact ⟨v, Ag9.of _ (hv.of_eq fun k => by rw [Ag9.T, Aa4.val]; simp only [Option.bind_some]; rw [if_neg (by rw [decide_eq_true hp]; simp)]), hv'⟩
 . exact ⟨false, Ag9.of _ ((Ev.const _).of_eq fun k => by rw [Ag9.T, Aa4.val]; simp only [Option.bind_some]; rw [if_pos (by rw [decide_eq_false hp]; rfl)]), by simp; intro h; exact hp h.1⟩
theorem Ad9.val (p : Int) : ∃ v, Ad9.F (p, ()) = some ((v, ()), ()) /\ (v = true ↔ A0s p) := by
 by_cases hp : 2 ≤ p /\ p ≤ 251
 . obtain ⟨v, hv, hv'⟩ := A1O (fun k i => Ad9.l4 k p i) p hp (fun k i => Ad9.l4_eq k p i);exact ⟨v, Ad9.of _ (hv.of_eq fun k => by rw [Ad9.T, Aa7.val]; simp only [Option.bind_some]; rw [if_neg (by rw [decide_eq_true hp]; simp)]), hv'⟩
 . exact ⟨false, Ad9.of _ ((Ev.const _).of_eq fun k => by rw [Ad9.T, Aa7.val]; simp only [Option.bind_some]; rw [if_pos (by rw [decide_eq_false hp]; rfl)]), by simp; intro h; exact hp h.1⟩
def A2d (xs : List Int) : Prop := ∀ i, 0 < i -> i < xs.length -> xs.getD (i - 1) 0 < xs.getD i 0
def A0J (lo hi : Int) (xs : List Int) : Prop := ∀ a ∈ xs, lo ≤ a /\ a ≤ hi
theorem allIn_iff {lo hi : Int} {xs : List Int} : A0J lo hi xs ↔ ∀ i, i < xs.length -> lo ≤ xs.getD i 0 /\ xs.getD i 0 ≤ hi := by
 refine ⟨fun h i hi => h _ (A0z 0 hi), fun h a ha => ?_⟩;obtain ⟨j, hj, rfl⟩ := List.getElem_of_mem ha;have := h j hj
 rwa [A0x hj] at this
theorem Aj4.val (xs : List Int) (lo hi : Int) (hn : xs.length < 4611686018427387904) : ∃ v, Aj4.F (xs, lo, hi, ()) = some ((v, ()), ()) /\ (v = true ↔ A0J lo hi xs /\ A2d xs) := by
 obtain ⟨v, hv, hv'⟩ := Ev.allP (L := fun k i => Aj4.l2 k xs lo hi (i : Int)) (a := ()) (b := ()) (n := xs.length) (fun i => (lo ≤ xs.getD i 0 /\ xs.getD i 0 ≤ hi) /\ (0 < i -> xs.getD (i - 1) 0 < xs.getD i 0)) true (fun i hi2 => by
   have E := fun k => Aj4.l2_eq k xs lo hi (i : Int);simp only [if_pos (ltI.2 hi2), if_pos (idxI.2 hi2), Int.toNat_natCast, Aa4.val, Option.bind_some, A0y (show i < 4611686018427387904 by omega)] at E;by_cases h : lo ≤ xs.getD i 0 /\ xs.getD i 0 ≤ hi
   . simp only [decide_eq_true h, Bool.not_true, Bool.false_eq_true, if_false] at E;by_cases h0 : 0 < i
     . have h1 : i - 1 < xs.length := by omega
       simp only [if_pos (show decide ((i : Int) > 0) = true by simp; omega), A2b h0 (show i < 4611686018427387904 by omega), if_pos (idxI.2 h1), Int.toNat_natCast] at E;by_cases h2 : xs.getD (i - 1) 0 < xs.getD i 0
       . exact .inl ⟨⟨h, fun _ => h2⟩, fun k => by rw [E, if_neg (by simp only [decide_eq_true_eq]; omega)]⟩
       . exact .inr ⟨fun hh => h2 (hh.2 h0), fun k => by rw [E, if_pos (by simp only [decide_eq_true_eq]; omega)]⟩
     . exact .inl ⟨⟨h, fun h1 => absurd h1 h0⟩, fun k => by rw [E, if_neg (by simp only [decide_eq_true_eq]; omega)]⟩
   . exact .inr ⟨fun hh => h hh.1, fun k => by rw [E, if_pos (by rw [decide_eq_false h]; rfl)]⟩) ((Ev.const _).succ fun k => by rw [Aj4.l2_eq, if_neg (by simp)]) 0 (Nat.zero_le _)
 refine ⟨v, Aj4.of _ _ _ (hv.of_eq fun k => rfl), hv'.trans ?_⟩;rw [allIn_iff];exact ⟨fun ⟨_, h⟩ => ⟨fun i hi => (h i (Nat.zero_le _) hi).1, fun i h0 hi => (h i (Nat.zero_le _) hi).2 h0⟩, fun ⟨h1, h2⟩ => ⟨rfl, fun i _ hi => ⟨h1 i hi, fun h0 => h2 i h0 hi⟩⟩⟩
theorem Ag1.val (xs : List Int) (hn : xs.length < 4611686018427387904) : ∃ v, Ag1.F (xs, ()) = some ((v, ()), ()) /\ (v = true ↔ A2d xs) := by
 by_cases hz : xs.length = 0
 . exact ⟨true, Ag1.of _ (((Ev.const _).succ fun k => by rw [Ag1.T, Ag1.l2_eq, if_neg (by simp [hz])]).of_eq fun k => rfl), by simp; intro i h1 h2; omega⟩
 obtain ⟨v, hv, hv'⟩ := Ev.allF (L := fun k i => Ag1.l2 k xs (i : Int)) (a := ()) (b := ()) (n := xs.length) (fun i => 0 < i -> xs.getD (i - 1) 0 < xs.getD i 0) true 1 (fun i h0 hi2 => by
   have E := fun k => Ag1.l2_eq k xs (i : Int);have h0 : 0 < i := h0
   . have h1 : i - 1 < xs.length := by omega
     simp only [if_pos (ltI.2 hi2), if_pos (idxI.2 hi2), Int.toNat_natCast, A0y (show i < 4611686018427387904 by omega), A2b h0 (show i < 4611686018427387904 by omega), if_pos (idxI.2 h1)] at E;by_cases h2 : xs.getD (i - 1) 0 < xs.getD i 0
     . exact .inl ⟨fun _ => h2, fun k => by rw [E, if_neg (by simp only [decide_eq_true_eq]; omega)]⟩
     . exact .inr ⟨fun hh => h2 (hh h0), fun k => by rw [E, if_pos (by simp only [decide_eq_true_eq]; omega)]⟩) ((Ev.const _).succ fun k => by rw [Ag1.l2_eq, if_neg (by simp)]) 1 (Nat.le_refl _) (by omega)
 refine ⟨v, Ag1.of _ (hv.of_eq fun k => rfl), hv'.trans ?_⟩;exact ⟨fun ⟨_, h⟩ i h0 hi => h i h0 hi h0, fun h => ⟨rfl, fun i _ hi h0 => h i h0 hi⟩⟩
theorem Aj2.val (xs : List Int) (f : Int × Unit -> Option (Bool × Unit)) (p : Int -> Bool) (hf : ∀ x ∈ xs, f (x, ()) = some (p x, ())) (hn : xs.length < 4611686018427387904) :
   ∃ r : Int, Aj2.F (xs, f, ()) = some ((r, ()), ()) /\ ((r = -1 /\ ∀ x ∈ xs, p x = false) ∨ ∃ j : Nat, j < xs.length /\ r = j /\ p (xs.getD j 0) = true /\ ∀ i, i < j -> p (xs.getD i 0) = false) := by
 obtain ⟨r, hr, hq⟩ := Ev.loop (σ := Unit) (R := (Int × Unit) × Unit) (fun k i _ => Aj2.l2 k xs f xs.length (i : Int)) xs.length (fun i _ => ∀ j, j < i -> p (xs.getD j 0) = false)
   (fun r => ∃ v : Int, r = ((v, ()), ()) /\ ((v = -1 /\ ∀ x ∈ xs, p x = false) ∨ ∃ j : Nat, j < xs.length /\ v = j /\ p (xs.getD j 0) = true /\ ∀ i, i < j -> p (xs.getD i 0) = false))
   (fun i s hi hI => by
     have E := fun k => Aj2.l2_eq k xs f xs.length (i : Int);simp only [if_pos (ltI.2 hi), if_pos (idxI.2 hi), Int.toNat_natCast, hf _ (A0z 0 hi), Option.bind_some, A0y (show i < 4611686018427387904 by omega)] at E;cases hp : p (xs.getD i 0) with
     | true => exact .inl ⟨_, (Ev.const _).succ fun k => by rw [E, if_pos hp], i, rfl, .inr ⟨i, hi, rfl, hp, hI⟩⟩
     | false =>
       refine .inr ⟨(), fun j hj => ?_, Goes.succ fun k => by rw [E, if_neg (by rw [hp]; simp)]⟩;by_cases hji : j = i
       . rw [hji]; exact hp
       . exact hI j (by omega))
   (fun s hI => ⟨_, (Ev.const _).succ fun k => by rw [Aj2.l2_eq, if_neg (by simp)], -1, rfl, .inl ⟨rfl, fun x hx => by
     obtain ⟨j, hj, rfl⟩ := List.getElem_of_mem hx;rw [<- A0x (d := 0) hj]; exact hI j hj⟩⟩) 0 () (Nat.zero_le _) (by intro j hj; omega)
 obtain ⟨v, rfl, hv⟩ := hq;exact ⟨v, Aj2.of _ _ (hr.of_eq fun k => rfl), hv⟩
theorem Ad7.val (xs : List Int) (f : Int × Unit -> Option (Bool × Unit)) (p : Int -> Bool) (hf : ∀ x ∈ xs, f (x, ()) = some (p x, ())) (hn : xs.length < 4611686018427387904) :
   Ad7.F (xs, f, ()) = some ((xs.any p, ()), ()) := by
 obtain ⟨r, hr, h⟩ := Aj2.val xs f p hf hn;rw [Ad7.eq, Ad7.T, hr];simp only [Option.bind_some];rcases h with ⟨rfl, h⟩ | ⟨j, hj, rfl, hp, -⟩
 . have : xs.any p = false := by simp only [List.any_eq_false]; intro x hx; simp [h x hx]
   rw [this]; rfl
 . have : xs.any p = true := List.any_eq_true.2 ⟨_, A0z 0 hj, hp⟩;rw [this]; simp
theorem Ak8.val (xs : List Int) (p : Int) (hn : xs.length < 4611686018427387904) : ∃ v, Ak8.F (xs, p, ()) = some ((v, ()), ()) /\ (v = true ↔ A0J 0 (IntKind.i64.wrap (p - 1)) xs) := by
 rw [Ak8.eq, Ak8.T, Ad7.val xs _ (fun a => !decide (0 ≤ a /\ a ≤ IntKind.i64.wrap (p - 1))) (fun a _ => by
   show (An6.F (a, p, ())).map (·.1) = _;rw [An6.eq, An6.T, An7.eq, An7.T, Aa7.val]; rfl) hn]
 refine ⟨_, rfl, ?_⟩;simp only [Bool.not_eq_true', List.any_eq_false, Bool.not_eq_eq_eq_not, Bool.not_true, A0J];simp
def MatOk (m : MatV) : Prop := A0s m.1 /\ (0 ≤ m.2.1 /\ m.2.1 ≤ 32) /\ (0 ≤ m.2.2.1 /\ m.2.2.1 ≤ 32) /\ (m.2.2.2.length : Int) = m.2.1 * m.2.2.1 /\ A0J 0 (m.1 - 1) m.2.2.2
theorem A3A {a b : Int} (ha : 0 ≤ a /\ a ≤ 32) (hb : 0 ≤ b /\ b ≤ 32) : 0 ≤ a * b /\ a * b ≤ 1024 := by
 obtain ⟨a, rfl⟩ := Int.eq_ofNat_of_zero_le ha.1;obtain ⟨b, rfl⟩ := Int.eq_ofNat_of_zero_le hb.1;have : a * b ≤ 32 * 32 := Nat.mul_le_mul (by omega) (by omega);have e : (a : Int) * (b : Int) = ((a * b : Nat) : Int) := by simp
 omega
theorem Ae8.val (xs : List Int) (n p : Int) (hn : xs.length < 4611686018427387904) : ∃ v, Ae8.F (xs, n, p, ()) = some ((v, ()), ()) /\ (v = true ↔ (xs.length : Int) = n /\ A0J 0 (IntKind.i64.wrap (p - 1)) xs) := by
 obtain ⟨v, hv, hv'⟩ := Ev.allP (L := fun k i => Ae8.l2 k xs n p (i : Int)) (a := ()) (b := ()) (n := xs.length) (fun i => 0 ≤ xs.getD i 0 /\ xs.getD i 0 ≤ IntKind.i64.wrap (p - 1)) ((xs.length : Int) == n) (fun i hi => by
   have E := fun k => Ae8.l2_eq k xs n p (i : Int);simp only [if_pos (ltI.2 hi), if_pos (idxI.2 hi), Int.toNat_natCast, Aa4.val, Option.bind_some, A0y (show i < 4611686018427387904 by omega)] at E;by_cases h : 0 ≤ xs.getD i 0 /\ xs.getD i 0 ≤ IntKind.i64.wrap (p - 1)
   . exact .inl ⟨h, fun k => by rw [E, if_neg (by rw [decide_eq_true h]; simp)]⟩
   . exact .inr ⟨h, fun k => by rw [E, if_pos (by rw [decide_eq_false h]; rfl)]⟩) ((Ev.const _).succ fun k => by rw [Ae8.l2_eq, if_neg (by simp)]) 0 (Nat.zero_le _)
 refine ⟨v, Ae8.of _ _ _ (hv.of_eq fun k => rfl), hv'.trans ?_⟩;rw [allIn_iff];simp only [beq_iff_eq];exact ⟨fun ⟨h1, h2⟩ => ⟨h1, fun i hi => h2 i (Nat.zero_le _) hi⟩, fun ⟨h1, h2⟩ => ⟨h1, fun i _ hi => h2 i hi⟩⟩
theorem Af2.val (m : MatV) (hn : m.2.2.2.length < 4611686018427387904) : ∃ v, Af2.F (m, ()) = some ((v, ()), ()) /\ (v = true ↔ MatOk m) := by
 obtain ⟨p, r, c, xs⟩ := m;obtain ⟨v1, h1, h1'⟩ := Ag9.val p;rw [Af2.eq, Af2.T, Ah7.eq, Ah7.T, h1];simp only [Option.bind_some, Aa4.val];unfold MatOk;cases v1 with
 | false => exact ⟨false, by rw [if_neg (by simp)], by simp; intro h; exact absurd (h1'.2 h) (by simp)⟩
 | true =>
   have hp := h1'.1 rfl;have hpr := hp.1;by_cases hr : 0 ≤ r /\ r ≤ 32
   . by_cases hc : 0 ≤ c /\ c ≤ 32
     . have hm := A3A hr hc;obtain ⟨v2, h2, h2'⟩ := Ae8.val xs (IntKind.i64.wrap (r * c)) p hn;rw [A0v (x := r * c) (by omega) (by omega), A0v (x := p - 1) (by omega) (by omega)] at h2';refine ⟨v2, by rw [if_pos rfl, if_pos (by simp only [decide_eq_true_eq]; exact hr), if_pos (by simp only [decide_eq_true_eq]; exact hc), h2]; rfl, h2'.trans ?_⟩;exact ⟨fun h => ⟨hp, hr, hc, h.1, h.2⟩, fun h => ⟨h.2.2.2.1, h.2.2.2.2⟩⟩
     . exact ⟨false, by rw [if_pos rfl, if_pos (by simp only [decide_eq_true_eq]; exact hr), if_neg (by simp only [decide_eq_true_eq]; exact hc)], by simp only [Bool.false_eq_true, false_iff]; exact fun h => hc h.2.2.1⟩
   . exact ⟨false, by rw [if_pos rfl, if_neg (by simp only [decide_eq_true_eq]; exact hr)], by simp only [Bool.false_eq_true, false_iff]; exact fun h => hr h.2.1⟩
theorem Af8.val (m : MatV) (hn : m.2.2.2.length < 4611686018427387904) : ∃ v, Af8.F (m, ()) = some ((v, ()), ()) /\ (v = true ↔ MatOk m) := by
 obtain ⟨p, r, c, xs⟩ := m;obtain ⟨v1, h1, h1'⟩ := Ad9.val p;rw [Af8.eq, Af8.T, h1, Al1.eq, Al1.T, Al1.eq, Al1.T, Aa6.eq, Aa6.T];simp only [Option.bind_some, Aa7.val];unfold MatOk;cases v1 with
 | false => exact ⟨false, by rw [if_neg (by simp)], by simp; intro h; exact absurd (h1'.2 h) (by simp)⟩
 | true =>
   have hp := h1'.1 rfl;have hpr := hp.1;by_cases hr : 0 ≤ r /\ r ≤ 32
   . by_cases hc : 0 ≤ c /\ c ≤ 32
     . have hm := A3A hr hc;obtain ⟨v2, h2, h2'⟩ := Ak8.val xs p hn;rw [A0v (x := p - 1) (by omega) (by omega)] at h2';rw [if_pos rfl, if_pos (by simp only [decide_eq_true_eq]; exact hr), if_pos (by simp only [decide_eq_true_eq]; exact hc), A0v (x := r * c) (by omega) (by omega)];by_cases hl : (xs.length : Int) = r * c
       . exact ⟨v2, by rw [if_pos (by simp only [beq_iff_eq]; exact hl), h2]; rfl, h2'.trans ⟨fun h => ⟨hp, hr, hc, hl, h⟩, fun h => h.2.2.2.2⟩⟩
       . exact ⟨false, by rw [if_neg (by simp only [beq_iff_eq]; exact hl)], by simp only [Bool.false_eq_true, false_iff]; exact fun h => hl h.2.2.2.1⟩
     . exact ⟨false, by rw [if_pos rfl, if_pos (by simp only [decide_eq_true_eq]; exact hr), if_neg (by simp only [decide_eq_true_eq]; exact hc)], by simp only [Bool.false_eq_true, false_iff]; exact fun h => hc h.2.2.1⟩
   . exact ⟨false, by rw [if_pos rfl, if_neg (by simp only [decide_eq_true_eq]; exact hr)], by simp only [Bool.false_eq_true, false_iff]; exact fun h => hr h.2.1⟩
def sumN (f : Nat -> Int) : Nat -> Int
 | 0 => 0
 | n + 1 => sumN f n + f n
theorem sumN_bd {f : Nat -> Int} {n : Nat} {B : Nat} (h : ∀ k, k < n -> 0 ≤ f k /\ f k ≤ (B : Int)) : 0 ≤ sumN f n /\ sumN f n ≤ ((n * B : Nat) : Int) := by
 induction n with
 | zero => simp [sumN]
 | succ n ih =>
   have h1 := ih fun k hk => h k (by omega);have h2 := h n (by omega);rw [Nat.add_mul, Nat.one_mul];simp only [sumN]; omega
theorem A2a {f g : Nat -> Int} {n : Nat} (h : ∀ k, k < n -> f k = g k) : sumN f n = sumN g n := by
 induction n with
 | zero => rfl
 | succ n ih => simp only [sumN]; rw [ih fun k hk => h k (by omega), h n (by omega)]
theorem A1j {p a b : Int} (hp : 2 ≤ p /\ p ≤ 251) (ha : 0 ≤ a /\ a ≤ p - 1) (hb : 0 ≤ b /\ b ≤ p - 1) : 0 ≤ a * b /\ a * b ≤ ((62500 : Nat) : Int) := by
 obtain ⟨a, rfl⟩ := Int.eq_ofNat_of_zero_le ha.1;obtain ⟨b, rfl⟩ := Int.eq_ofNat_of_zero_le hb.1;have : a * b ≤ 250 * 250 := Nat.mul_le_mul (by omega) (by omega);have e : (a : Int) * (b : Int) = ((a * b : Nat) : Int) := by simp
 omega
theorem A1y {a p : Int} (h : 0 ≤ a) : a.tmod p = a % p := Int.tmod_eq_emod_of_nonneg h
theorem A1E {a p : Int} (hp : 2 ≤ p) : 0 ≤ a % p /\ a % p ≤ p - 1 := by
 have h1 := Int.emod_nonneg a (show p ≠ 0 by omega);have h2 := Int.emod_lt_of_pos a (show 0 < p by omega);omega
theorem A0k {lo hi : Int} {xs : List Int} (h : A0J lo hi xs) {i : Nat} (hi' : i < xs.length) : lo ≤ xs.getD i 0 /\ xs.getD i 0 ≤ hi := allIn_iff.1 h i hi'
def dotE (xs ys : List Int) (k : Nat) : Int := xs.getD k 0 * ys.getD k 0
theorem Ai5.val (xs ys : List Int) (p : Int) (hp : 2 ≤ p /\ p ≤ 251) (hx : A0J 0 (p - 1) xs) (hy : A0J 0 (p - 1) ys) (hl : xs.length ≤ ys.length) (hn : xs.length ≤ 1048576) :
   Ai5.F (xs, ys, p, ()) = some ((sumN (dotE xs ys) xs.length % p, ()), ()) := by
 refine Ai5.of _ _ _ ?_;obtain ⟨s, hs, hg⟩ := Goes.loop (R := ((Int × Unit) × Unit)) (fun k i (s : Int) => Ai5.l3 k xs ys p s (xs.length : Int) (i : Int)) xs.length (fun i s => s = sumN (dotE xs ys) i % p) (fun i s hi h2 => ⟨_, rfl, Goes.succ fun k => by
   have hm := A1j hp (A0k hx hi) (A0k hy (show i < ys.length by omega));have hme := A1E (a := sumN (dotE xs ys) i) hp.1;rw [Ai5.l3_eq, if_pos (ltI.2 hi), if_pos (idxI.2 hi), if_pos (idxI.2 (show i < ys.length by omega)), if_neg (by omega), A0y (by omega), h2];simp only [Int.toNat_natCast];rw [A0v (x := xs.getD i 0 * ys.getD i 0) (by omega) (by omega), A0v (by omega) (by omega), A1y (by omega), Int.emod_add_emod];rfl⟩) 0 0 (Nat.zero_le _) (by simp [sumN])
 refine Ev.of_eq (hg _ ((Ev.const _).succ fun k => ?_)) fun k => rfl;rw [Ai5.l3_eq, if_neg (by simp), hs]
theorem Goes.fillSet {R : Type} (L3 : Nat -> Nat -> List Int -> Option R) (L6 : Nat -> Nat -> Nat -> List Int -> Option R) (M N Z : Nat) (g : Nat -> Nat -> Int) (pos : Nat -> Nat -> Nat)
   (hpos : ∀ i j, i < M -> j < N -> pos i j < Z) (inj : ∀ i j i' j', i < M -> j < N -> i' < M -> j' < N -> pos i j = pos i' j' -> i = i' /\ j = j')
   (hin : ∀ i x, i < M -> x.length = Z -> Goes (fun k => L3 k i x) (fun k => L6 k i 0 x))
   (hstep : ∀ i j x, i < M -> j < N -> x.length = Z -> Goes (fun k => L6 k i j x) (fun k => L6 k i (j + 1) (x.set (pos i j) (g i j))))
   (hout : ∀ i x, i < M -> x.length = Z -> Goes (fun k => L6 k i N x) (fun k => L3 k (i + 1) x)) (x0 : List Int) (h0 : x0.length = Z) :
   ∃ y, y.length = Z /\ (∀ i j, i < M -> j < N -> y.getD (pos i j) 0 = g i j) /\ (∀ q, (∀ i j, i < M -> j < N -> pos i j ≠ q) -> y.getD q 0 = x0.getD q 0) /\ Goes (fun k => L3 k 0 x0) (fun k => L3 k M y) := by
 have gs : ∀ (l : List Int) (q : Nat) (v : Int) (s : Nat), q < l.length -> (l.set q v).getD s 0 = if s = q then v else l.getD s 0 := fun l q v s hq => by
   simp only [List.getD_eq_getElem?_getD, List.getElem?_set];by_cases hqs : q = s
   . subst hqs; simp [hq]
   . simp [hqs, Ne.symm hqs]
 obtain ⟨y, ⟨h1, h2, h3⟩, hg⟩ := Goes.loop (R := R) (fun k i x => L3 k i x) M (fun i x => x.length = Z /\ (∀ a b, a < i -> b < N -> x.getD (pos a b) 0 = g a b) /\ ∀ q, (∀ a b, a < M -> b < N -> pos a b ≠ q) -> x.getD q 0 = x0.getD q 0) (fun i x hi ⟨h1, h2, h3⟩ => by
   obtain ⟨x', ⟨h4, h5, h6, h7⟩, hg2⟩ := Goes.loop (R := R) (fun k j x => L6 k i j x) N (fun j x => x.length = Z /\ (∀ a b, a < i -> b < N -> x.getD (pos a b) 0 = g a b) /\ (∀ b, b < j -> x.getD (pos i b) 0 = g i b) /\ ∀ q, (∀ a b, a < M -> b < N -> pos a b ≠ q) -> x.getD q 0 = x0.getD q 0) (fun j x hj ⟨k1, k2, k3, k4⟩ => by
     have hp := hpos i j hi hj;refine ⟨_, ⟨by simp [k1], fun a b ha hb => ?_, fun b hb => ?_, fun q hq => ?_⟩, hstep i j x hi hj k1⟩
     . rw [gs _ _ _ _ (by omega), if_neg (fun he => by have := (inj _ _ _ _ (by omega) hb hi hj he).1; omega)]; exact k2 a b ha hb
     . rw [gs _ _ _ _ (by omega)];by_cases hbj : b = j
       . rw [if_pos (by rw [hbj]), hbj]
       . rw [if_neg (fun he => hbj (inj _ _ _ _ hi (by omega) hi hj he).2)]; exact k3 b (by omega)
     . rw [gs _ _ _ _ (by omega), if_neg (fun he => hq i j hi hj he.symm)]; exact k4 q hq) 0 x (Nat.zero_le _) ⟨h1, h2, fun b hb => by omega, h3⟩
   refine ⟨x', ⟨h4, fun a b ha hb => ?_, h7⟩, ((hin i x hi h1).trans hg2).trans (hout i x' hi h4)⟩;by_cases hai : a = i
   . rw [hai]; exact h6 b hb
   . exact h5 a b (by omega) hb) 0 x0 (Nat.zero_le _) ⟨h0, fun a b ha => by omega, fun _ _ => rfl⟩
 exact ⟨y, h1, h2, h3, hg⟩
theorem rowInj {C : Nat} (a b a' b' : Nat) (hb : b < C) (hb' : b' < C) (he : a * C + b = a' * C + b') : a = a' /\ b = b' := by
 have h1 : (a * C + b) / C = a := by rw [Nat.mul_comm, Nat.mul_add_div (by omega), Nat.div_eq_of_lt hb]; omega
 have h2 : (a' * C + b') / C = a' := by rw [Nat.mul_comm, Nat.mul_add_div (by omega), Nat.div_eq_of_lt hb']; omega
 have h3 : a = a' := by rw [<- h1, <- h2, he]
 subst h3;exact ⟨rfl, by omega⟩
theorem A2n {R C i j : Nat} (hi : i < R) (hj : j < C) : i * C + j < R * C := by
 have h2 := Nat.mul_le_mul_right C (show i + 1 ≤ R by omega);rw [Nat.add_mul, Nat.one_mul] at h2;omega
theorem Goes.push {A R : Type} (L : Nat -> Nat -> List A -> Option R) (n : Nat) (f : Nat -> A) (hstep : ∀ i s, i < n -> s.length = i -> Goes (fun k => L k i s) (fun k => L k (i + 1) (s ++ [f i]))) : Goes (fun k => L k 0 []) (fun k => L k n ((List.range n).map f)) := by
 obtain ⟨s, hs, hg⟩ := Goes.loop (R := R) L n (fun i s => s = (List.range i).map f) (fun i s hi h2 => ⟨s ++ [f i], by rw [h2, List.range_succ, List.map_append]; rfl, hstep i s hi (by rw [h2]; simp)⟩) 0 [] (Nat.zero_le _) rfl;rw [<- hs]; exact hg
theorem A2A {A : Type} {s : List A} {x : A} {i : Nat} (h : s.length = i) (hi : i < 1048576) : s.length + [x].length ≤ bigA := by simp only [List.length_cons, List.length_nil, bigA]; omega
theorem A2R {A : Type} (f : Nat -> A) {n i : Nat} (d : A) (h : i < n) : ((List.range n).map f).getD i d = f i := by simp [List.getD_eq_getElem?_getD, h]
def addL (p c : Int) (xs ys : List Int) : List Int := (List.range xs.length).map fun i => (xs.getD i 0 + c * ys.getD i 0) % p
theorem A0e (p c : Int) (xs ys : List Int) : (addL p c xs ys).length = xs.length := by simp [addL]
theorem A2j {p c : Int} (h : 2 ≤ p) (xs ys : List Int) : A0J 0 (p - 1) (addL p c xs ys) := fun x hx => by
 simp only [addL, List.mem_map] at hx;obtain ⟨i, _, rfl⟩ := hx;exact A1E h
theorem A3x {p c a b : Int} (hp : 2 ≤ p /\ p ≤ 251) (hc : 0 ≤ c /\ c ≤ p - 1) (ha : 0 ≤ a /\ a ≤ p - 1) (hb : 0 ≤ b /\ b ≤ p - 1) : (IntKind.i64.wrap (a + IntKind.i64.wrap (c * b))).tmod p = (a + c * b) % p := by
 have := A1j hp hc hb;rw [A0v (x := c * b) (by omega) (by omega), A0v (by omega) (by omega), A1y (by omega)]
theorem Af9.val (xs ys : List Int) (c p : Int) (hp : 2 ≤ p /\ p ≤ 251) (hc : 0 ≤ c /\ c ≤ p - 1) (hx : A0J 0 (p - 1) xs) (hy : A0J 0 (p - 1) ys) (hl : ys.length = xs.length) (hn : xs.length < 1048576) : Af9.F (xs, ys, c, p, ()) = some ((addL p c xs ys, ()), ()) := by
 refine Af9.of _ _ _ _ ?_;have g := Goes.push (R := ((List Int × Unit) × Unit)) (fun k i s => Af9.l3 k xs ys c p (xs.length : Int) (i : Int) s) xs.length (fun i => (xs.getD i 0 + c * ys.getD i 0) % p) (fun i s hi hs => Goes.succ fun k => by
   rw [Af9.l3_eq, if_pos (ltI.2 hi), if_pos (idxI.2 hi), if_pos (idxI.2 (by omega)), if_neg (by omega)];simp only [Int.toNat_natCast, A3x hp hc (A0k hx hi) (A0k hy (i := i) (by omega))];rw [if_pos (A2A hs (by omega)), A0y (by omega)])
 refine Ev.of_eq (g _ ((Ev.const _).succ fun k => ?_)) fun k => rfl;rw [Af9.l3_eq, if_neg (by simp)]; rfl
theorem A2J (a b p : Int) : (a % p * b) % p = (a * b) % p := by rw [Int.mul_emod, Int.emod_emod, <- Int.mul_emod]
theorem A1Y (a p : Int) : ∀ n : Nat, (a % p) ^ n % p = a ^ n % p
 | 0 => by rw [Int.pow_zero, Int.pow_zero]
 | n + 1 => by rw [Int.pow_succ, Int.pow_succ, Int.mul_emod, A1Y a p n, Int.emod_emod, <- Int.mul_emod]
theorem A1e {p a b : Int} (hp : 2 ≤ p /\ p ≤ 251) (ha : 0 ≤ a /\ a ≤ p - 1) (hb : 0 ≤ b /\ b ≤ p - 1) : (IntKind.i64.wrap (a * b)).tmod p = (a * b) % p := by
 have := A1j hp ha hb;rw [A0v (x := a * b) (by omega) (by omega), A1y (by omega)]
theorem Af1.val (a p : Int) (hp : 2 ≤ p /\ p ≤ 251) (ha : 0 ≤ a /\ a ≤ p - 1) : Af1.F (a, p, ()) = some ((a ^ (p - 2).toNat % p, ()), ()) := by
 obtain ⟨n, hn⟩ : ∃ n : Nat, p - 2 = n := ⟨(p - 2).toNat, by omega⟩;have hw : IntKind.i64.wrap (p - 2) = (n : Int) := by rw [A0v (by omega) (by omega), hn]
 have hnn : (p - 2).toNat = n := by omega
 rw [hnn];refine Af1.of _ _ ?_;obtain ⟨s, hs, hg⟩ := Goes.loop (R := ((Int × Unit) × Unit)) (fun k j (s : Int) => Af1.l3 k a p s ((n - j : Nat) : Int)) n (fun j s => s = a ^ j % p) (fun j s hj h2 => ⟨_, rfl, Goes.succ fun k => by
   have hs : 0 ≤ s /\ s ≤ p - 1 := by rw [h2]; exact A1E hp.1
   have hw2 : IntKind.i64.wrap (((n - j : Nat) : Int) - 1) = ((n - (j + 1) : Nat) : Int) := by rw [A0v (by omega) (by omega)]; omega
   rw [Af1.l3_eq, if_pos (by simp; omega), if_neg (by omega), A1e hp hs ha, hw2, h2, A2J, <- Int.pow_succ]⟩) 0 1 (Nat.zero_le _) (by
     show (1 : Int) = a ^ 0 % p;rw [Int.pow_zero, Int.emod_eq_of_lt (by omega) (by omega)])
 refine Ev.of_eq (hg _ ((Ev.const _).succ fun k => ?_)) fun k => ?_
 . rw [Af1.l3_eq, if_neg (by simp), hs]
 . rw [Af1.T, hw]; rfl
theorem Ah4.loop (p : Int) (hp : 2 ≤ p /\ p ≤ 251) : ∀ (m n : Nat) (a r : Int), n ≤ m -> n ≤ 1000 -> 0 ≤ a /\ a ≤ p - 1 -> 0 ≤ r /\ r ≤ p - 1 -> Ev (fun k => Ah4.l2 k a (n : Int) p r) ((r * a ^ n % p, ()), ()) := by
 intro m;induction m with
 | zero =>
   intro n a r hn _ ha hr;obtain rfl : n = 0 := by omega
   refine (Ev.const _).succ fun k => ?_;rw [Ah4.l2_eq, if_neg (by simp), Int.pow_zero, Int.mul_one, Int.emod_eq_of_lt (by omega) (by omega)]
 | succ m ih =>
   intro n a r hn hn2 ha hr;rcases Nat.eq_zero_or_pos n with rfl | hpos
   . refine (Ev.const _).succ fun k => ?_;rw [Ah4.l2_eq, if_neg (by simp), Int.pow_zero, Int.mul_one, Int.emod_eq_of_lt (by omega) (by omega)]
   . have hdiv : IntKind.i64.wrap ((n : Int).tdiv 2) = ((n / 2 : Nat) : Int) := by
       have : (n : Int).tdiv 2 = ((n / 2 : Nat) : Int) := rfl;rw [this, A0v (by omega) (by omega)]
     have hmod : (n : Int).tmod 2 = ((n % 2 : Nat) : Int) := rfl;have hsq := A1E (a := a * a) hp.1;by_cases ho : n % 2 = 1
     . have hra := A1E (a := r * a) hp.1;have := ih (n / 2) (a * a % p) (r * a % p) (by omega) (by omega) hsq hra;have e : r * a % p * (a * a % p) ^ (n / 2) % p = r * a ^ n % p := by
         rw [A2J, Int.mul_emod, A1Y, <- Int.mul_emod, Int.mul_assoc];congr 2;have hn3 : n = 2 * (n / 2) + 1 := by omega
         conv => rhs; rw [hn3, Int.pow_succ, Int.pow_mul]
         rw [show a ^ 2 = a * a from by rw [Int.pow_succ, Int.pow_succ, Int.pow_zero, Int.one_mul], Int.mul_comm]
       rw [e] at this;refine this.succ fun k => ?_;rw [Ah4.l2_eq, if_pos (by simp; omega), if_neg (by decide), hmod, ho, if_pos (by decide), if_neg (by omega), if_neg (by omega), if_neg (by decide), A1e hp ha ha, A1e hp hr ha, hdiv]
     . have := ih (n / 2) (a * a % p) r (by omega) (by omega) hsq hr;have e : r * (a * a % p) ^ (n / 2) % p = r * a ^ n % p := by
         rw [Int.mul_emod, A1Y, <- Int.mul_emod];congr 2;have hn3 : n = 2 * (n / 2) := by omega
         conv => rhs; rw [hn3, Int.pow_mul]
         rw [show a ^ 2 = a * a from by rw [Int.pow_succ, Int.pow_succ, Int.pow_zero, Int.one_mul]]
       rw [e] at this;refine this.succ fun k => ?_;have h0 : n % 2 = 0 := by omega
       rw [Ah4.l2_eq, if_pos (by simp; omega), if_neg (by decide), hmod, h0, if_neg (by decide), if_neg (by omega), if_neg (by decide), A1e hp ha ha, hdiv]
theorem Ai6.val (a p : Int) (hp : 2 ≤ p /\ p ≤ 251) (ha : 0 ≤ a /\ a ≤ p - 1) : Ai6.F (a, p, ()) = some ((a ^ (p - 2).toNat % p, ()), ()) := by
 obtain ⟨n, hn⟩ : ∃ n : Nat, p - 2 = n := ⟨(p - 2).toNat, by omega⟩;have hw : IntKind.i64.wrap (p - 2) = (n : Int) := by rw [A0v (by omega) (by omega), hn]
 have hnn : (p - 2).toNat = n := by omega
 have h1 := Ah4.loop p hp n n a 1 (Nat.le_refl _) (by omega) ha (by omega);rw [Int.one_mul] at h1;have h2 : Ah4.F (a, (n : Int), p, ()) = _ := Ah4.of _ _ _ (h1.of_eq fun k => rfl);rw [Ai6.eq, Ai6.T, hw, h2, hnn]; rfl
theorem Ab5.val (xs : List Int) (h : xs.length ≤ 1048576) : Ab5.F (xs, ()) = some ((xs, ()), ()) := by
 rw [Ab5.eq, Ab5.T, if_pos (by simp only [List.length_nil, bigA]; omega)]; rfl
theorem Ae7.val (xs : List (List Int)) (f : List Int × Unit -> Option (Bool × Unit)) (p : List Int -> Bool) (hf : ∀ x ∈ xs, f (x, ()) = some (p x, ())) (hn : xs.length < 4611686018427387904) :
   ∃ r : Int, Ae7.F (xs, f, ()) = some ((r, ()), ()) /\ ((r = -1 /\ ∀ x ∈ xs, p x = false) ∨ ∃ j : Nat, j < xs.length /\ r = j /\ p (xs.getD j []) = true /\ ∀ i, i < j -> p (xs.getD i []) = false) := by
 obtain ⟨r, hr, hq⟩ := Ev.loop (σ := Unit) (R := (Int × Unit) × Unit) (fun k i _ => Ae7.l2 k xs f xs.length (i : Int)) xs.length (fun i _ => ∀ j, j < i -> p (xs.getD j []) = false)
   (fun r => ∃ v : Int, r = ((v, ()), ()) /\ ((v = -1 /\ ∀ x ∈ xs, p x = false) ∨ ∃ j : Nat, j < xs.length /\ v = j /\ p (xs.getD j []) = true /\ ∀ i, i < j -> p (xs.getD i []) = false))
   (fun i s hi hI => by
     have E := fun k => Ae7.l2_eq k xs f xs.length (i : Int);simp only [if_pos (ltI.2 hi), if_pos (idxI.2 hi), Int.toNat_natCast, hf _ (A0z [] hi), Option.bind_some, A0y (show i < 4611686018427387904 by omega)] at E;cases hp : p (xs.getD i []) with
     | true => exact .inl ⟨_, (Ev.const _).succ fun k => by rw [E, if_pos hp], i, rfl, .inr ⟨i, hi, rfl, hp, hI⟩⟩
     | false =>
       refine .inr ⟨(), fun j hj => ?_, Goes.succ fun k => by rw [E, if_neg (by rw [hp]; simp)]⟩;by_cases hji : j = i
       . rw [hji]; exact hp
       . exact hI j (by omega))
   (fun s hI => ⟨_, (Ev.const _).succ fun k => by rw [Ae7.l2_eq, if_neg (by simp)], -1, rfl, .inl ⟨rfl, fun x hx => by
     obtain ⟨j, hj, rfl⟩ := List.getElem_of_mem hx;rw [<- A0x (d := []) hj]; exact hI j hj⟩⟩) 0 () (Nat.zero_le _) (by intro j hj; omega)
 obtain ⟨v, rfl, hv⟩ := hq;exact ⟨v, Ae7.of _ _ (hr.of_eq fun k => rfl), hv⟩
theorem Aj9.val (xs : List (List Int)) (f : List Int × Unit -> Option (Bool × Unit)) (p : List Int -> Bool) (hf : ∀ x ∈ xs, f (x, ()) = some (p x, ())) (hn : xs.length < 4611686018427387904) :
   Aj9.F (xs, f, ()) = some ((xs.any p, ()), ()) := by
 obtain ⟨r, hr, h⟩ := Ae7.val xs f p hf hn;rw [Aj9.eq, Aj9.T, hr];simp only [Option.bind_some];rcases h with ⟨rfl, h⟩ | ⟨j, hj, rfl, hp, -⟩
 . have : xs.any p = false := by simp only [List.any_eq_false]; intro x hx; simp [h x hx]
   rw [this]; rfl
 . have : xs.any p = true := List.any_eq_true.2 ⟨_, A0z [] hj, hp⟩;rw [this]; simp
structure RowsOk (p : Int) (h w : Nat) (R : List (List Int)) : Prop where
 len : R.length = h
 row : ∀ r ∈ R, r.length = w /\ A0J 0 (p - 1) r
theorem RowsOk.at {p : Int} {h w : Nat} {R : List (List Int)} (o : RowsOk p h w R) {i : Nat} (hi : i < h) : (R.getD i []).length = w /\ A0J 0 (p - 1) (R.getD i []) := o.row _ (A0z [] (by rw [o.len]; exact hi))
theorem RowsOk.set {p : Int} {h w : Nat} {R : List (List Int)} (o : RowsOk p h w R) {r : List Int} (hr : r.length = w /\ A0J 0 (p - 1) r) (i : Nat) : RowsOk p h w (R.set i r) :=
 ⟨by rw [List.length_set]; exact o.len, fun x hx => (List.mem_or_eq_of_mem_set hx).elim (o.row x) fun e => e ▸ hr⟩
theorem A2G : ∀ {R : List (List Int)} {w i j : Nat}, (∀ r ∈ R, r.length = w) -> i < R.length -> j < w -> R.flatten.getD (i * w + j) 0 = (R.getD i []).getD j 0
 | [], _, _, _, _, h, _ => absurd h (by simp)
 | r :: R, w, i, j, hr, hi, hj => by
   have h1 := hr r (by simp);simp only [List.flatten_cons, List.getD_eq_getElem?_getD];cases i with
   | zero => rw [List.getElem?_append_left (by omega)]; simp
   | succ i =>
     have e : (i + 1) * w = w + i * w := by rw [Nat.add_mul, Nat.one_mul, Nat.add_comm]
     have := A2G (R := R) (w := w) (i := i) (j := j) (fun r hr' => hr r (by simp [hr'])) (by simpa using hi) hj;simp only [List.getD_eq_getElem?_getD] at this;rw [e, List.getElem?_append_right (by omega), h1, show w + i * w + j - w = i * w + j by omega, this]; simp
theorem A2I : ∀ {R : List (List Int)} {w i j : Nat} (v : Int), (∀ r ∈ R, r.length = w) -> i < R.length -> j < w -> R.flatten.set (i * w + j) v = (R.set i ((R.getD i []).set j v)).flatten
 | [], _, _, _, _, _, h, _ => absurd h (by simp)
 | r :: R, w, i, j, v, hr, hi, hj => by
   have h1 := hr r (by simp);cases i with
   | zero => simp only [List.flatten_cons, Nat.zero_mul, Nat.zero_add]; rw [List.set_append_left _ _ (by omega)]; simp
   | succ i =>
     have e : (i + 1) * w = w + i * w := by rw [Nat.add_mul, Nat.one_mul, Nat.add_comm]
     have := A2I (R := R) (w := w) (i := i) (j := j) v (fun r hr' => hr r (by simp [hr'])) (by simpa using hi) hj;simp only [List.flatten_cons, List.set_cons_succ];rw [e, List.set_append_right _ _ (by omega), h1, show w + i * w + j - w = i * w + j by omega, this]; simp
theorem A2H : ∀ {R : List (List Int)} {w : Nat}, (∀ r ∈ R, r.length = w) -> R.flatten.length = R.length * w
 | [], _, _ => by simp
 | r :: R, w, hr => by
   have := A2H (R := R) (w := w) fun r hr' => hr r (by simp [hr']);simp only [List.flatten_cons, List.length_append, List.length_cons, hr r (by simp), this];rw [Nat.add_mul, Nat.one_mul, Nat.add_comm]
theorem A0S {h w i j : Nat} (hh : h ≤ 4096) (hw : w ≤ 256) (hi : i < h) (hj : j < w) : IntKind.i64.wrap (IntKind.i64.wrap ((i : Int) * (w : Int)) + (j : Int)) = ((i * w + j : Nat) : Int) /\ i * w + j < h * w := by
 have h1 : (i + 1) * w ≤ h * w := Nat.mul_le_mul_right w hi;have h2 : h * w ≤ 4096 * 256 := Nat.mul_le_mul hh hw;have e : (i + 1) * w = i * w + w := by rw [Nat.add_mul, Nat.one_mul]
 have e2 : (i : Int) * (w : Int) = ((i * w : Nat) : Int) := by simp
 rw [e2, A0v (x := ((i * w : Nat) : Int)) (by omega) (by omega), A0v (by omega) (by omega)];omega
def inv_ (p a : Int) : Int := a ^ (p - 2).toNat % p
def A0O (R : List (List Int)) (t a : Nat) : List (List Int) := (R.set t (R.getD a [])).set a (R.getD t [])
def A1s (p : Int) (w t c : Nat) (R : List (List Int)) : List (List Int) := R.set t (addL p (inv_ p ((R.getD t []).getD c 0)) (List.replicate w 0) (R.getD t []))
def A0M (p : Int) (t c : Nat) (R : List (List Int)) (i : Nat) : List Int := if i = t ∨ (R.getD i []).getD c 0 = 0 then R.getD i [] else addL p (p - (R.getD i []).getD c 0) (R.getD i []) (R.getD t [])
def A1A (p : Int) (t c : Nat) (R : List (List Int)) : List (List Int) := (List.range R.length).map (A0M p t c R)
def pivA (R : List (List Int)) (t c : Nat) : Nat := t + (R.drop t).findIdx fun r => r.getD c 0 != 0
def A0G (p : Int) (w c : Nat) (s : List (List Int) × List Int) : List (List Int) × List Int :=
 if pivA s.1 s.2.length c < s.1.length then (A1A p s.2.length c (A1s p w s.2.length c (A0O s.1 s.2.length (pivA s.1 s.2.length c))), s.2 ++ [(c : Int)]) else s
theorem A3G {p : Int} (hp : 2 ≤ p) (a : Int) : 0 ≤ inv_ p a /\ inv_ p a ≤ p - 1 := by
 have h1 := Int.emod_nonneg (a ^ (p - 2).toNat) (show p ≠ 0 by omega);have h2 := Int.emod_lt_of_pos (a ^ (p - 2).toNat) (show 0 < p by omega);unfold inv_; omega
theorem A2C {p : Int} {h w : Nat} {R : List (List Int)} (o : RowsOk p h w R) {t a : Nat} (ht : t < h) (ha : a < h) : RowsOk p h w (A0O R t a) := (o.set (o.at ha) t).set (o.at ht) a
theorem A1u {R : List (List Int)} {t : Nat} (ht : t < R.length) : A0O R t t = R := by
 have e : R.set t (R.getD t []) = R := by rw [A0x ht]; exact List.set_getElem_self ht
 rw [A0O, e, e]
theorem A1b {p : Int} {h w : Nat} {R : List (List Int)} (hp : 2 ≤ p) (o : RowsOk p h w R) (t c : Nat) : RowsOk p h w (A1s p w t c R) := o.set ⟨by rw [A0e, List.length_replicate], A2j hp _ _⟩ t
theorem elim_ok {p : Int} {h w : Nat} {R : List (List Int)} (hp : 2 ≤ p) (o : RowsOk p h w R) (t c : Nat) : RowsOk p h w (A1A p t c R) := by
 refine ⟨by simp [A1A, o.len], fun r hr => ?_⟩;unfold A1A at hr;obtain ⟨i, hi, rfl⟩ := List.mem_map.1 hr;have hi := List.mem_range.1 hi;have := o.at (i := i) (by rw [<- o.len]; exact hi);unfold A0M;split
 . exact this
 . exact ⟨by rw [A0e]; exact this.1, A2j hp _ _⟩
theorem step_ok {p : Int} {h w c : Nat} {s : List (List Int) × List Int} (hp : 2 ≤ p) (o : RowsOk p h w s.1) (hl : s.2.length ≤ h) : RowsOk p h w (A0G p w c s).1 /\ (A0G p w c s).2.length ≤ h := by
 unfold A0G;split
 . rename_i hlt;rw [o.len] at hlt;have ht : s.2.length < h := Nat.lt_of_le_of_lt (Nat.le_add_right _ _) hlt;exact ⟨elim_ok hp (A1b hp (A2C o ht hlt) _ _) _ _, by rw [List.length_append, List.length_cons, List.length_nil]; omega⟩
 . exact ⟨o, hl⟩
theorem A2t {p : Int} {w c : Nat} {s : List (List Int) × List Int} (h : s.1.length ≤ s.2.length) : A0G p w c s = s := if_neg (by unfold pivA; omega)
theorem A1n (R : List (List Int)) (t c : Nat) (ht : t ≤ R.length) : t ≤ pivA R t c /\ pivA R t c ≤ R.length /\ (∀ i, t ≤ i -> i < pivA R t c -> (R.getD i []).getD c 0 = 0) /\ (pivA R t c < R.length -> (R.getD (pivA R t c) []).getD c 0 ≠ 0) := by
 unfold pivA;generalize hj : (R.drop t).findIdx (fun r => r.getD c 0 != 0) = j;have hle : j ≤ (R.drop t).length := by rw [<- hj]; exact List.findIdx_le_length
 rw [List.length_drop] at hle;have hd : ∀ i, t + i < R.length -> (R.drop t).getD i [] = R.getD (t + i) [] := fun i hi => by simp [List.getD_eq_getElem?_getD]
 refine ⟨Nat.le_add_right _ _, by omega, fun i h1 h2 => ?_, fun h => ?_⟩
 . have hlt : i - t < (R.drop t).findIdx (fun r => r.getD c 0 != 0) := by omega
   have := List.not_of_lt_findIdx hlt;have e := hd (i - t) (by omega);rw [show t + (i - t) = i by omega, A0x (by rw [List.length_drop]; omega)] at e;rw [e] at this;simpa using this
 . have hlt : j < (R.drop t).length := by rw [List.length_drop]; omega
   have h3 := List.findIdx_getElem (w := by rw [hj]; exact hlt) (p := fun r : List Int => r.getD c 0 != 0) (xs := R.drop t);have e := hd j h;rw [A0x hlt] at e;simp only [hj, e] at h3;simpa using h3
def mix {A : Type} (n : Nat) (f g : Nat -> A) (i : Nat) : List A := (List.range n).map fun q => if q < i then f q else g q
theorem A2w {A : Type} (n : Nat) (f g : Nat -> A) (i : Nat) : (mix n f g i).length = n := by simp [mix]
theorem A0b {A : Type} (n : Nat) (f g : Nat -> A) : mix n f g 0 = (List.range n).map g := List.map_congr_left fun q _ => if_neg (by omega)
theorem A0u {A : Type} (n : Nat) (f g : Nat -> A) : mix n f g n = (List.range n).map f := List.map_congr_left fun q hq => if_pos (List.mem_range.1 hq)
theorem A0W {A : Type} {n : Nat} (f g : Nat -> A) (i : Nat) {q : Nat} (d : A) (hq : q < n) : (mix n f g i).getD q d = if q < i then f q else g q := A2R _ d hq
theorem A1z {A : Type} {n : Nat} (f g : Nat -> A) {i : Nat} (hi : i < n) : (mix n f g i).set i (f i) = mix n f g (i + 1) := by
 refine List.ext_getElem (by simp [mix]) fun q h1 h2 => ?_;rw [List.getElem_set];simp only [mix, List.getElem_map, List.getElem_range];by_cases e : i = q
 . subst e; rw [if_pos rfl, if_pos (by omega)]
 . rw [if_neg e];by_cases l : q < i
   . rw [if_pos l, if_pos (by omega)]
   . rw [if_neg l, if_neg (by omega)]
theorem A1C {A : Type} (n : Nat) {f g : Nat -> A} {i : Nat} (h : f i = g i) : mix n f g (i + 1) = mix n f g i := List.map_congr_left fun q _ => by
 by_cases e : q = i
 . subst e; rw [if_pos (by omega), if_neg (by omega), h]
 . by_cases l : q < i
   . rw [if_pos (by omega), if_pos l]
   . rw [if_neg (by omega), if_neg l]
theorem A1P (R : List (List Int)) : (List.range R.length).map (fun q => R.getD q []) = R := by
 refine List.ext_getElem (by simp) fun q h1 h2 => ?_;simp only [List.getElem_map, List.getElem_range]; exact A0x h2
theorem A2B (r : List Int) : (List.range r.length).map (fun q => r.getD q 0) = r := by
 refine List.ext_getElem (by simp) fun q h1 h2 => ?_;simp only [List.getElem_map, List.getElem_range]; exact A0x h2
theorem A0Z (p : Int) (t c : Nat) (R : List (List Int)) : A0M p t c R t = R.getD t [] := if_pos (.inl rfl)
theorem A2g {p : Int} {h w : Nat} (hp : 2 ≤ p /\ p ≤ 251) (hh : h ≤ 4096) (hw : w ≤ 256) {R : List (List Int)} (o : RowsOk p h w R) {t c : Nat} (ht : t < h) (hc : c < w) (det : Int) (piv : List Int) :
   Goes (fun k => Ac5.l17 k (w : Int) p det (t : Int) (w : Int) (c : Int) (h : Int) 0 R piv (c : Int)) (fun k => Ac5.l17 k (w : Int) p det (t : Int) (w : Int) (c : Int) (h : Int) (h : Int) (A1A p t c R) piv (c : Int)) := by
 have hlen := o.len;obtain ⟨s, hs, hg⟩ := Goes.loop (R := (List Int × Int × Unit) × (List (List Int) × Unit)) (fun k i (s : List (List Int)) => Ac5.l17 k (w : Int) p det (t : Int) (w : Int) (c : Int) (h : Int) (i : Int) s piv (c : Int)) h (fun i s => s = mix h (A0M p t c R) (fun q => R.getD q []) i) (fun i s hi h2 => ⟨_, rfl, Goes.succ fun k => by
   have ri := o.at hi;have rt := o.at ht;have g1 : s.getD i [] = R.getD i [] := by rw [h2, A0W _ _ _ _ hi, if_neg (by omega)]
   have g2 : s.getD t [] = R.getD t [] := by
     rw [h2, A0W _ _ _ _ ht];split
     . exact A0Z p t c R
     . rfl
   have hsl : s.length = h := by rw [h2, A2w]
   have hx := A0k ri.2 (i := c) (by omega);rw [Ac5.l17_eq, if_pos (ltI.2 hi), if_pos (idxI.2 (by omega))];simp only [Int.toNat_natCast, g1, g2];by_cases e : i = t
   . subst e;rw [if_neg (by simp), A0y (by omega), h2, A1C h (A0Z p i c R)]
   . rw [if_pos (by simp; omega), if_pos (idxI.2 (by omega))];by_cases z : (R.getD i []).getD c 0 = 0
     . rw [if_neg (by rw [z]; decide), A0y (by omega), h2, A1C h (show A0M p t c R i = R.getD i [] from if_pos (.inr z))]
     . rw [if_pos (by rw [bne_iff_ne]; exact z), if_pos (idxI.2 (by omega)), if_pos (idxI.2 (by omega)), A0v (by omega) (by omega), Af9.val _ _ _ _ hp (by omega) ri.2 rt.2 (by omega) (by omega)];simp only [Option.bind_some];have e2 : A0M p t c R i = addL p (p - (R.getD i []).getD c 0) (R.getD i []) (R.getD t []) := if_neg (by rintro (h | h) <;> contradiction);rw [if_pos (idxI.2 (by omega)), A0y (by omega), <- e2, h2, A1z (A0M p t c R) (fun q => R.getD q []) hi]⟩) 0 R (Nat.zero_le _) (by rw [A0b, <- hlen, A1P])
 rw [hs, A0u] at hg;have e : A1A p t c R = (List.range h).map (A0M p t c R) := by rw [A1A, hlen]
 rw [e]; exact hg
theorem A2h {p : Int} {h w : Nat} (hp : 2 ≤ p /\ p ≤ 251) (hh : h ≤ 4096) (hw : w ≤ 256) {R : List (List Int)} (o : RowsOk p h w R) {c : Nat} (hc : c < w) (det : Int) (piv : List Int) (hl : piv.length ≤ h) :
   ∃ det', Goes (fun k => Ac5.l4 k (w : Int) p det (w : Int) (c : Int) R piv) (fun k => Ac5.l4 k (w : Int) p det' (w : Int) ((c + 1 : Nat) : Int) (A0G p w c (R, piv)).1 (A0G p w c (R, piv)).2) := by
 have hlen := o.len;have hcut : cutL R (piv.length : Int) (R.length : Int) = R.drop piv.length := by simp only [cutL, Int.toNat_natCast, List.take_length]
 obtain ⟨r, hr, hr'⟩ := Ae7.val (R.drop piv.length) (An2.cloG ((c : Int), ())) (fun r => r.getD c 0 != 0) (fun x hx => by
   have := (o.row x (List.mem_of_mem_drop hx)).1;show (An2.F (x, (c : Int), ())).map (·.1) = _;rw [An2.eq, An2.T, if_pos (idxI.2 (by omega))];simp only [Int.toNat_natCast]; rfl) (by rw [List.length_drop]; omega)
 have hstart : ∀ k, Ac5.l4 (k + 1) (w : Int) p det (w : Int) (c : Int) R piv = _ := fun k => by
   rw [Ac5.l4_eq, if_pos (ltI.2 hc), if_pos (by omega), hcut, hr]
 rcases hr' with ⟨e, hall⟩ | ⟨j, hj, e, hj1, hj2⟩
 . refine ⟨0, Goes.succ fun k => ?_⟩;have hno : ¬ pivA R piv.length c < R.length := by
     unfold pivA;have : (R.drop piv.length).findIdx (fun r => r.getD c 0 != 0) = (R.drop piv.length).length := List.findIdx_eq_length.2 fun x hx => hall x hx;rw [this, List.length_drop]; omega
   have hs : A0G p w c (R, piv) = (R, piv) := if_neg hno;rw [hstart];simp only [Option.bind_some, e];rw [if_pos (by decide), A0y (by omega), hs]
 . rw [List.length_drop] at hj;have hjj : (R.drop piv.length).findIdx (fun r => r.getD c 0 != 0) = j := by
     have hlt : j < (R.drop piv.length).length := by rw [List.length_drop]; omega
     refine (List.findIdx_eq hlt).2 ⟨by rw [<- A0x (d := []) hlt]; exact hj1, fun i hi => ?_⟩;have := hj2 i hi;rw [A0x (xs := R.drop piv.length) (i := i) (d := []) (by omega)] at this;exact this
   have hpa : pivA R piv.length c = piv.length + j := by rw [pivA, hjj]
   have ht : piv.length < h := by omega
   have ha : piv.length + j < h := by omega
   have o2 := A2C o ht ha;have hl2 := o2.len;have r2 := o2.at ht;have hs : A0G p w c (R, piv) = (A1A p piv.length c (A1s p w piv.length c (A0O R piv.length (piv.length + j))), piv ++ [(c : Int)]) := by
     rw [A0G, if_pos (by show pivA R piv.length c < R.length; omega)];simp only [hpa]
   have hx := A0k r2.2 (i := c) (by omega);have hiv := A3G hp.1 (((A0O R piv.length (piv.length + j)).getD piv.length []).getD c 0);have hin : Ai6.F (((A0O R piv.length (piv.length + j)).getD piv.length []).getD c 0, p, ()) = some ((inv_ p (((A0O R piv.length (piv.length + j)).getD piv.length []).getD c 0), ()), ()) := Ai6.val _ _ hp hx;have hzero : A0J 0 (p - 1) (List.replicate w (0 : Int)) := fun x hx => by rw [(List.mem_replicate.1 hx).2]; omega
   have hadd := Af9.val (List.replicate w 0) ((A0O R piv.length (piv.length + j)).getD piv.length []) (inv_ p (((A0O R piv.length (piv.length + j)).getD piv.length []).getD c 0)) p hp hiv hzero r2.2 (by rw [List.length_replicate]; omega) (by rw [List.length_replicate]; omega);have o3 := A1b (h := h) hp.1 o2 piv.length c;have hfin : ∀ d : Int, Goes (fun k => Ac5.l17 k (w : Int) p d (piv.length : Int) (w : Int) (c : Int) (h : Int) 0 (A1s p w piv.length c (A0O R piv.length (piv.length + j))) piv (c : Int)) (fun k => Ac5.l4 k (w : Int) p d (w : Int) ((c + 1 : Nat) : Int) (A0G p w c (R, piv)).1 (A0G p w c (R, piv)).2) := fun d => by
     refine (A2g hp hh hw o3 ht hc d piv).trans (Goes.succ fun k => ?_);rw [Ac5.l17_eq, if_neg (by simp), if_pos (by simp only [List.length_cons, List.length_nil, bigA]; omega), A0y (by omega), hs]
   by_cases j0 : j = 0
   . subst j0;have hsw : A0O R piv.length (piv.length + 0) = R := A1u (by omega);rw [hsw] at hin hadd hfin;refine ⟨(IntKind.i64.wrap (det * ((R.getD piv.length []).getD c 0))).tmod p, Goes.trans (Goes.succ fun k => ?_) (hfin _)⟩;rw [hstart];simp only [Option.bind_some, e];rw [if_neg (by decide), if_neg (by decide), if_pos (idxI.2 (by omega))];simp only [Int.toNat_natCast];have hrw := (o.at ht).1;rw [if_pos (idxI.2 (by omega)), if_neg (by omega), if_pos (by simp only [bigN]; omega), if_pos (idxI.2 (by omega)), hin];simp only [Option.bind_some];rw [hadd];simp only [Option.bind_some];rw [if_pos (idxI.2 (by omega)), List.length_set, hlen];rfl
   . refine ⟨(IntKind.i64.wrap ((IntKind.i64.wrap ((IntKind.i64.wrap (0 - det)).tmod p + p)).tmod p * (((A0O R piv.length (piv.length + j)).getD piv.length []).getD c 0))).tmod p, Goes.trans (Goes.succ fun k => ?_) (hfin _)⟩;rw [hstart];simp only [Option.bind_some, e];rw [if_neg (by simp only [decide_eq_true_eq]; omega), if_pos (by simp only [decide_eq_true_eq]; omega)];have ew : IntKind.i64.wrap ((piv.length : Int) + (j : Int)) = ((piv.length + j : Nat) : Int) := by rw [A0v (by omega) (by omega)]; omega
     simp only [ew, Int.toNat_natCast];have hl3 : (R.set piv.length (R.getD (piv.length + j) [])).length = h := by rw [List.length_set]; exact hlen
     have esw : (R.set piv.length (R.getD (piv.length + j) [])).set (piv.length + j) (R.getD piv.length []) = A0O R piv.length (piv.length + j) := rfl;rw [if_pos (idxI.2 (by omega)), if_pos (idxI.2 (by omega)), if_pos (idxI.2 (by omega)), if_pos (idxI.2 (by omega)), Ao0.eq, Ao0.T, if_neg (by omega), if_neg (by omega)];simp only [Option.bind_some, esw];rw [if_pos (idxI.2 (by omega)), if_pos (idxI.2 (by omega)), if_neg (by omega), if_pos (by simp only [bigN]; omega), if_pos (idxI.2 (by omega)), hin];simp only [Option.bind_some];rw [hadd];simp only [Option.bind_some];rw [if_pos (idxI.2 (by omega)), List.length_set, hl2];rfl
def gjN (p : Int) (w : Nat) (R : List (List Int)) : Nat -> List (List Int) × List Int
 | 0 => (R, [])
 | c + 1 => A0G p w c (gjN p w R c)
theorem A3k {p : Int} {h w : Nat} {R : List (List Int)} (hp : 2 ≤ p) (o : RowsOk p h w R) : ∀ c, RowsOk p h w (gjN p w R c).1 /\ (gjN p w R c).2.length ≤ h
 | 0 => ⟨o, Nat.zero_le _⟩
 | c + 1 => by obtain ⟨h1, h2⟩ := A3k hp o c; exact step_ok hp h1 h2
theorem Ac5.val {p : Int} {h w : Nat} (hp : 2 ≤ p /\ p ≤ 251) (hh : h ≤ 4096) (hw : w ≤ 256) {R : List (List Int)} (o : RowsOk p h w R) : ∃ det, Ac5.F (R, (w : Int), p, ()) = some (((gjN p w R w).2, det, ()), ((gjN p w R w).1, ())) := by
 obtain ⟨⟨det, s⟩, hs, hg⟩ := Goes.loop (R := (List Int × Int × Unit) × (List (List Int) × Unit)) (fun k i (s : Int × (List (List Int) × List Int)) => Ac5.l4 k (w : Int) p s.1 (w : Int) (i : Int) s.2.1 s.2.2) w (fun i s => s.2 = gjN p w R i) (fun i s hi h2 => by
   obtain ⟨o', hl'⟩ := A3k hp.1 o i;rw [<- h2] at o' hl';obtain ⟨d, hd⟩ := A2h hp hh hw o' hi s.1 s.2.2 hl';exact ⟨(d, A0G p w i s.2), by simp only [gjN, h2], hd⟩) 0 (1, (R, [])) (Nat.zero_le _) rfl
 have hs : s = gjN p w R w := hs;refine ⟨det, Ac5.of _ _ _ (Ev.of_eq (hg _ ((Ev.const _).succ fun k => ?_)) fun k => rfl)⟩;rw [Ac5.l4_eq, if_neg (by simp), hs]
theorem mod_any {n p : Int} (hp : 2 ≤ p /\ p ≤ 251) : (IntKind.i64.wrap (n.tmod p + p)).tmod p = n % p := by
 have hb : -p < n.tmod p /\ n.tmod p < p := by
   by_cases h : 0 ≤ n
   . rw [A1y h]; have := A1E (a := n) hp.1; omega
   . have e : n.tmod p = -((-n).tmod p) := by rw [Int.neg_tmod]; omega
     have h2 := A1E (a := -n) hp.1;rw [e, A1y (by omega)]; omega
 have e : n.tmod p = n - p * n.tdiv p := by have := Int.tmod_add_mul_tdiv n p; omega
 rw [A0v (by omega) (by omega), A1y (by omega), Int.add_emod_right, e, Int.sub_emod, Int.mul_emod_right, Int.sub_zero, Int.emod_emod]
theorem sub_val {p a f b : Int} (hp : 2 ≤ p /\ p ≤ 251) (ha : 0 ≤ a /\ a ≤ p - 1) (hf : 0 ≤ f /\ f ≤ p - 1) (hb : 0 ≤ b /\ b ≤ p - 1) : An3.F (IntKind.i64.wrap (a - IntKind.i64.wrap (f * b)), p, ()) = some (((a + (p - f) * b) % p, ()), ()) := by
 have hm := A1j hp hf hb;rw [A0v (x := f * b) (by omega) (by omega), A0v (x := a - f * b) (by omega) (by omega), An3.eq, An3.T, if_neg (by omega), if_neg (by omega), mod_any hp];have e : a + (p - f) * b = (a - f * b) + p * b := by rw [Int.sub_mul]; omega
 rw [e, Int.add_mul_emod_self_left]
theorem RowsOk.flat {p : Int} {h w : Nat} {R : List (List Int)} (o : RowsOk p h w R) {i j : Nat} (hi : i < h) (hj : j < w) : R.flatten.getD (i * w + j) 0 = (R.getD i []).getD j 0 := A2G (fun r hr => (o.row r hr).1) (by rw [o.len]; exact hi) hj
theorem RowsOk.flatSet {p : Int} {h w : Nat} {R : List (List Int)} (o : RowsOk p h w R) {i j : Nat} (v : Int) (hi : i < h) (hj : j < w) : R.flatten.set (i * w + j) v = (R.set i ((R.getD i []).set j v)).flatten := A2I v (fun r hr => (o.row r hr).1) (by rw [o.len]; exact hi) hj
theorem RowsOk.flatLen {p : Int} {h w : Nat} {R : List (List Int)} (o : RowsOk p h w R) : R.flatten.length = h * w := by rw [A2H fun r hr => (o.row r hr).1, o.len]
theorem A1c {R : List (List Int)} {i : Nat} {x : List Int} (hi : i < R.length) : (R.set i x).getD i [] = x := by simp [List.getD_eq_getElem?_getD, hi]
theorem A1d {R : List (List Int)} {i j : Nat} {x : List Int} (h : i ≠ j) : (R.set i x).getD j [] = R.getD j [] := by simp [List.getD_eq_getElem?_getD, List.getElem?_set, h]
theorem A1m {p : Int} {w : Nat} {f g : Nat -> Int} (hf : ∀ q, q < w -> 0 ≤ f q /\ f q ≤ p - 1) (hg : ∀ q, q < w -> 0 ≤ g q /\ g q ≤ p - 1) (i : Nat) : (mix w f g i).length = w /\ A0J 0 (p - 1) (mix w f g i) := by
 refine ⟨A2w _ _ _ _, fun x hx => ?_⟩;unfold mix at hx;obtain ⟨q, hq, rfl⟩ := List.mem_map.1 hx;have hq := List.mem_range.1 hq;split
 . exact hf q hq
 . exact hg q hq
theorem RowsOk.cell {p : Int} {h w : Nat} {R : List (List Int)} (o : RowsOk p h w R) {i : Nat} (hi : i < h) (q : Nat) (hq : q < w) : 0 ≤ (R.getD i []).getD q 0 /\ (R.getD i []).getD q 0 ≤ p - 1 := A0k (o.at hi).2 (by rw [(o.at hi).1]; exact hq)
theorem A0d {p : Int} {h w : Nat} {R : List (List Int)} (o : RowsOk p h w R) {i : Nat} (hi : i < h) : (List.range w).map (fun q => (R.getD i []).getD q 0) = R.getD i [] := by
 have := A2B (R.getD i [])
 rwa [(o.at hi).1] at this
theorem A1D {R : List (List Int)} {i : Nat} (hi : i < R.length) : R.set i (R.getD i []) = R := by rw [A0x hi]; exact List.set_getElem_self hi
section
variable {p : Int} {h w : Nat} (hp : 2 ≤ p /\ p ≤ 251) (hh : h ≤ 4096) (hw : w ≤ 256) (xs : List Int) (e1 e2 e3 : Int) (x18 : List Int)
include hp hh hw
theorem A2Z {R : List (List Int)} (o : RowsOk p h w R) {t : Nat} (ht : t < h) {c : Nat} (inv det : Int) (hi : 0 ≤ inv /\ inv ≤ p - 1) (piv : List Int) :
   Goes (fun k => Aa0.l26 k p (h : Int) (w : Int) xs p (w : Int) det (t : Int) (c : Int) inv 0 e1 e2 e3 x18 p (h : Int) (w : Int) R.flatten piv)
     (fun k => Aa0.l30 k p (h : Int) (w : Int) xs p (w : Int) det (t : Int) (c : Int) 0 e1 e2 e3 x18 p (h : Int) (w : Int) (R.set t (addL p inv (List.replicate w 0) (R.getD t []))).flatten piv) := by
 have hlen := o.len;have hf : ∀ q, q < w -> 0 ≤ ((List.replicate w (0 : Int)).getD q 0 + inv * (R.getD t []).getD q 0) % p /\ ((List.replicate w (0 : Int)).getD q 0 + inv * (R.getD t []).getD q 0) % p ≤ p - 1 := fun q hq => A1E hp.1;obtain ⟨s, hs, hg⟩ := Goes.loop (R := ((Int × Int × Int × List Int) × List Int × Int × Unit) × Unit) (fun k j (s : List (List Int)) => Aa0.l26 k p (h : Int) (w : Int) xs p (w : Int) det (t : Int) (c : Int) inv (j : Int) e1 e2 e3 x18 p (h : Int) (w : Int) s.flatten piv) w (fun j s => s = R.set t (mix w (fun q => ((List.replicate w (0 : Int)).getD q 0 + inv * (R.getD t []).getD q 0) % p) (fun q => (R.getD t []).getD q 0) j)) (fun j s hj h2 => ⟨_, rfl, Goes.succ fun k => by
   have os : RowsOk p h w s := by rw [h2]; exact o.set (A1m hf (fun q hq => o.cell ht q hq) j) t
   obtain ⟨i1, i2⟩ := A0S hh hw ht hj;have hsl := os.flatLen;have hst : s.getD t [] = mix w (fun q => ((List.replicate w (0 : Int)).getD q 0 + inv * (R.getD t []).getD q 0) % p) (fun q => (R.getD t []).getD q 0) j := by rw [h2, A1c (by omega)]
   have hget : s.flatten.getD (t * w + j) 0 = (R.getD t []).getD j 0 := by rw [os.flat ht hj, hst, A0W _ _ _ _ hj, if_neg (by omega)]
   have hval : (IntKind.i64.wrap ((R.getD t []).getD j 0 * inv)).tmod p = ((List.replicate w (0 : Int)).getD j 0 + inv * (R.getD t []).getD j 0) % p := by
     have hc := o.cell ht j hj;have hm := A1j hp hc hi;rw [A0v (by omega) (by omega), A1y (by omega), Int.mul_comm];have : (List.replicate w (0 : Int)).getD j 0 = 0 := by simp [List.getD_eq_getElem?_getD, List.getElem?_replicate, hj]
     rw [this, Int.zero_add]
   rw [Aa0.l26_eq, if_pos (ltI.2 hj), i1, if_pos (idxI.2 (by omega)), if_neg (by omega), if_pos (idxI.2 (by omega))];simp only [Int.toNat_natCast];rw [hget, hval, os.flatSet _ ht hj, hst, A1z (fun q => ((List.replicate w (0 : Int)).getD q 0 + inv * (R.getD t []).getD q 0) % p) (fun q => (R.getD t []).getD q 0) hj, A0y (by omega), h2, List.set_set]⟩) 0 R (Nat.zero_le _) (by rw [A0b, A0d o ht, A1D (by omega)])
 refine hg.trans (Goes.succ fun k => ?_);rw [Aa0.l26_eq, if_neg (by simp), hs, A0u];have : addL p inv (List.replicate w 0) (R.getD t []) = (List.range w).map fun q => ((List.replicate w (0 : Int)).getD q 0 + inv * (R.getD t []).getD q 0) % p := by rw [addL, List.length_replicate]
 rw [this]
theorem A3D {R : List (List Int)} (o : RowsOk p h w R) {t i : Nat} (ht : t < h) (hi : i < h) (hne : i ≠ t) {c : Nat} (f det : Int) (hf : 0 ≤ f /\ f ≤ p - 1) (piv : List Int) :
   Goes (fun k => Aa0.l35 k p (h : Int) (w : Int) xs p (w : Int) det (t : Int) (c : Int) (i : Int) f 0 e1 e2 e3 x18 p (h : Int) (w : Int) R.flatten piv)
     (fun k => Aa0.l30 k p (h : Int) (w : Int) xs p (w : Int) det (t : Int) (c : Int) ((i + 1 : Nat) : Int) e1 e2 e3 x18 p (h : Int) (w : Int) (R.set i (addL p (p - f) (R.getD i []) (R.getD t []))).flatten piv) := by
 have hlen := o.len;have hfm : ∀ q, q < w -> 0 ≤ ((R.getD i []).getD q 0 + (p - f) * (R.getD t []).getD q 0) % p /\ ((R.getD i []).getD q 0 + (p - f) * (R.getD t []).getD q 0) % p ≤ p - 1 := fun q hq => A1E hp.1;obtain ⟨s, hs, hg⟩ := Goes.loop (R := ((Int × Int × Int × List Int) × List Int × Int × Unit) × Unit) (fun k j (s : List (List Int)) => Aa0.l35 k p (h : Int) (w : Int) xs p (w : Int) det (t : Int) (c : Int) (i : Int) f (j : Int) e1 e2 e3 x18 p (h : Int) (w : Int) s.flatten piv) w (fun j s => s = R.set i (mix w (fun q => ((R.getD i []).getD q 0 + (p - f) * (R.getD t []).getD q 0) % p) (fun q => (R.getD i []).getD q 0) j)) (fun j s hj h2 => ⟨_, rfl, Goes.succ fun k => by
   have os : RowsOk p h w s := by rw [h2]; exact o.set (A1m hfm (fun q hq => o.cell hi q hq) j) i
   obtain ⟨i1, i2⟩ := A0S hh hw hi hj;obtain ⟨t1, t2⟩ := A0S hh hw ht hj;have hsl := os.flatLen;have hsi : s.getD i [] = mix w (fun q => ((R.getD i []).getD q 0 + (p - f) * (R.getD t []).getD q 0) % p) (fun q => (R.getD i []).getD q 0) j := by rw [h2, A1c (by omega)]
   have g1 : s.flatten.getD (i * w + j) 0 = (R.getD i []).getD j 0 := by rw [os.flat hi hj, hsi, A0W _ _ _ _ hj, if_neg (by omega)]
   have g2 : s.flatten.getD (t * w + j) 0 = (R.getD t []).getD j 0 := by rw [os.flat ht hj, h2, A1d hne]
   rw [Aa0.l35_eq, if_pos (ltI.2 hj), i1, t1, if_pos (idxI.2 (by omega)), if_pos (idxI.2 (by omega))];simp only [Int.toNat_natCast];rw [g1, g2, sub_val hp (o.cell hi j hj) hf (o.cell ht j hj)];simp only [Option.bind_some];rw [if_pos (idxI.2 (by omega)), os.flatSet _ hi hj, hsi, A1z (fun q => ((R.getD i []).getD q 0 + (p - f) * (R.getD t []).getD q 0) % p) (fun q => (R.getD i []).getD q 0) hj, A0y (by omega), h2, List.set_set]⟩) 0 R (Nat.zero_le _) (by rw [A0b, A0d o hi, A1D (by omega)])
 refine hg.trans (Goes.succ fun k => ?_);rw [Aa0.l35_eq, if_neg (by simp), hs, A0u, A0y (by omega)];have : addL p (p - f) (R.getD i []) (R.getD t []) = (List.range w).map fun q => ((R.getD i []).getD q 0 + (p - f) * (R.getD t []).getD q 0) % p := by rw [addL, (o.at hi).1]
 rw [this]
theorem A2Y {R : List (List Int)} (o : RowsOk p h w R) {t c : Nat} (ht : t < h) (hc : c < w) (det : Int) (piv : List Int) :
   Goes (fun k => Aa0.l30 k p (h : Int) (w : Int) xs p (w : Int) det (t : Int) (c : Int) 0 e1 e2 e3 x18 p (h : Int) (w : Int) R.flatten piv)
     (fun k => Aa0.l30 k p (h : Int) (w : Int) xs p (w : Int) det (t : Int) (c : Int) (h : Int) e1 e2 e3 x18 p (h : Int) (w : Int) (A1A p t c R).flatten piv) := by
 have hlen := o.len;have hok : ∀ i, RowsOk p h w (mix h (A0M p t c R) (fun q => R.getD q []) i) := fun i => ⟨A2w _ _ _ _, fun r hr => by
   unfold mix at hr;obtain ⟨q, hq, rfl⟩ := List.mem_map.1 hr;have hq := List.mem_range.1 hq;have := o.at hq;unfold A0M;split
   . split
     . exact this
     . exact ⟨by rw [A0e]; exact this.1, A2j hp.1 _ _⟩
   . exact this⟩
 obtain ⟨s, hs, hg⟩ := Goes.loop (R := ((Int × Int × Int × List Int) × List Int × Int × Unit) × Unit) (fun k i (s : List (List Int)) => Aa0.l30 k p (h : Int) (w : Int) xs p (w : Int) det (t : Int) (c : Int) (i : Int) e1 e2 e3 x18 p (h : Int) (w : Int) s.flatten piv) h (fun i s => s = mix h (A0M p t c R) (fun q => R.getD q []) i) (fun i s hi h2 => ⟨_, rfl, by
   have os : RowsOk p h w s := by rw [h2]; exact hok i
   obtain ⟨i1, i2⟩ := A0S hh hw hi hc;have hsl := os.flatLen;have g1 : s.getD i [] = R.getD i [] := by rw [h2, A0W _ _ _ _ hi, if_neg (by omega)]
   have g2 : s.getD t [] = R.getD t [] := by
     rw [h2, A0W _ _ _ _ ht];split
     . exact A0Z p t c R
     . rfl
   have hcell : s.flatten.getD (i * w + c) 0 = (R.getD i []).getD c 0 := by rw [os.flat hi hc, g1]
   have E : ∀ k, Aa0.l30 (k + 1) p (h : Int) (w : Int) xs p (w : Int) det (t : Int) (c : Int) (i : Int) e1 e2 e3 x18 p (h : Int) (w : Int) s.flatten piv = _ := fun k => by
     rw [Aa0.l30_eq, if_pos (ltI.2 hi), i1, if_pos (idxI.2 (by omega)), A0y (show i < 4611686018427387904 by omega), Int.toNat_natCast, hcell]
   by_cases e : i = t
   . subst e;rw [<- A1C h (f := A0M p i c R) (g := fun q => R.getD q []) (A0Z p i c R)] at h2;refine Goes.succ fun k => ?_;rw [E, if_pos (by simp), h2]
   . by_cases z : (R.getD i []).getD c 0 = 0
     . rw [<- A1C h (f := A0M p t c R) (g := fun q => R.getD q []) (show A0M p t c R i = R.getD i [] from if_pos (.inr z))] at h2;refine Goes.succ fun k => ?_;rw [E, if_neg (by simp only [beq_iff_eq]; omega), if_pos (by rw [z]; decide), h2]
     . have ea : A0M p t c R i = addL p (p - (R.getD i []).getD c 0) (R.getD i []) (R.getD t []) := if_neg (by rintro (h | h) <;> contradiction);have hx := o.cell hi c hc;have hrow := A3D hp hh hw xs e1 e2 e3 x18 os ht hi e (c := c) ((R.getD i []).getD c 0) det hx piv;rw [g1, g2, <- ea, h2, A1z (A0M p t c R) (fun q => R.getD q []) hi, <- h2] at hrow;refine Goes.trans (Goes.succ fun k => ?_) hrow;rw [E, if_neg (by simp only [beq_iff_eq]; omega), if_neg (by rw [beq_iff_eq]; exact z)]⟩) 0 R (Nat.zero_le _) (by rw [A0b, <- hlen, A1P])
 have e : A1A p t c R = (List.range h).map (A0M p t c R) := by rw [A1A, hlen]
 rw [hs, A0u] at hg;rw [e]; exact hg
theorem A2r {R : List (List Int)} (o : RowsOk p h w R) {t a : Nat} (ht : t < h) (ha : a < h) (hne : t ≠ a) (c : Nat) (det : Int) (piv : List Int) :
   Goes (fun k => Aa0.l17 k p (h : Int) (w : Int) xs p (w : Int) det (t : Int) (c : Int) (a : Int) 0 e1 e2 e3 x18 p (h : Int) (w : Int) R.flatten piv)
     (fun k => Aa0.l17 k p (h : Int) (w : Int) xs p (w : Int) det (t : Int) (c : Int) (a : Int) (w : Int) e1 e2 e3 x18 p (h : Int) (w : Int) (A0O R t a).flatten piv) := by
 have _ := hp;have hlen := o.len;obtain ⟨s, hs, hg⟩ := Goes.loop (R := ((Int × Int × Int × List Int) × List Int × Int × Unit) × Unit) (fun k j (s : List (List Int)) => Aa0.l17 k p (h : Int) (w : Int) xs p (w : Int) det (t : Int) (c : Int) (a : Int) (j : Int) e1 e2 e3 x18 p (h : Int) (w : Int) s.flatten piv) w (fun j s => s = (R.set t (mix w (fun q => (R.getD a []).getD q 0) (fun q => (R.getD t []).getD q 0) j)).set a (mix w (fun q => (R.getD t []).getD q 0) (fun q => (R.getD a []).getD q 0) j)) (fun j s hj h2 => ⟨_, rfl, Goes.succ fun k => by
   have os : RowsOk p h w s := by rw [h2]; exact (o.set (A1m (fun q hq => o.cell ha q hq) (fun q hq => o.cell ht q hq) j) t).set (A1m (fun q hq => o.cell ht q hq) (fun q hq => o.cell ha q hq) j) a
   obtain ⟨i1, i2⟩ := A0S hh hw ht hj;obtain ⟨a1, a2⟩ := A0S hh hw ha hj;have hsl := os.flatLen;have st : s.getD t [] = mix w (fun q => (R.getD a []).getD q 0) (fun q => (R.getD t []).getD q 0) j := by rw [h2, A1d (Ne.symm hne), A1c (by omega)]
   have sa : s.getD a [] = mix w (fun q => (R.getD t []).getD q 0) (fun q => (R.getD a []).getD q 0) j := by rw [h2, A1c (by rw [List.length_set]; omega)]
   have g1 : s.flatten.getD (t * w + j) 0 = (R.getD t []).getD j 0 := by rw [os.flat ht hj, st, A0W _ _ _ _ hj, if_neg (by omega)]
   have g2 : s.flatten.getD (a * w + j) 0 = (R.getD a []).getD j 0 := by rw [os.flat ha hj, sa, A0W _ _ _ _ hj, if_neg (by omega)]
   have f1 : s.flatten.set (a * w + j) ((R.getD t []).getD j 0) = (s.set a (mix w (fun q => (R.getD t []).getD q 0) (fun q => (R.getD a []).getD q 0) (j + 1))).flatten := by rw [os.flatSet _ ha hj, sa, A1z (fun q => (R.getD t []).getD q 0) (fun q => (R.getD a []).getD q 0) hj]
   have os2 : RowsOk p h w (s.set a (mix w (fun q => (R.getD t []).getD q 0) (fun q => (R.getD a []).getD q 0) (j + 1))) := os.set (A1m (fun q hq => o.cell ht q hq) (fun q hq => o.cell ha q hq) (j + 1)) a;have f2 : (s.set a (mix w (fun q => (R.getD t []).getD q 0) (fun q => (R.getD a []).getD q 0) (j + 1))).flatten.set (t * w + j) ((R.getD a []).getD j 0) = ((R.set t (mix w (fun q => (R.getD a []).getD q 0) (fun q => (R.getD t []).getD q 0) (j + 1))).set a (mix w (fun q => (R.getD t []).getD q 0) (fun q => (R.getD a []).getD q 0) (j + 1))).flatten := by
     rw [os2.flatSet _ ht hj, A1d (Ne.symm hne), st, A1z (fun q => (R.getD a []).getD q 0) (fun q => (R.getD t []).getD q 0) hj, h2, List.set_set, List.set_comm _ _ (Ne.symm hne), List.set_set]
   have hl2 := os2.flatLen;rw [Aa0.l17_eq, if_pos (ltI.2 hj), i1, a1, if_pos (idxI.2 (by omega)), if_pos (idxI.2 (by omega)), if_pos (idxI.2 (by omega))];simp only [Int.toNat_natCast, g1, g2, f1];rw [if_pos (idxI.2 (by omega)), f2, A0y (by omega)]⟩) 0 R (Nat.zero_le _) (by rw [A0b, A0b, A0d o ht, A0d o ha, A1D (by omega), A1D (by omega)])
 rw [hs, A0u, A0u, A0d o ht, A0d o ha] at hg;exact hg
theorem A2o {R : List (List Int)} (o : RowsOk p h w R) {t c : Nat} (ht : t ≤ h) (hc : c < w) (det : Int) (piv : List Int) :
   Goes (fun k => Aa0.l11 k p (h : Int) (w : Int) xs p (w : Int) det (t : Int) (c : Int) (t : Int) e1 e2 e3 x18 p (h : Int) (w : Int) R.flatten piv)
     (fun k => Aa0.l11 k p (h : Int) (w : Int) xs p (w : Int) det (t : Int) (c : Int) ((pivA R t c : Nat) : Int) e1 e2 e3 x18 p (h : Int) (w : Int) R.flatten piv) := by
 have _ := hp;have hlen := o.len;obtain ⟨p1, p2, p3, -⟩ := A1n R t c (by omega);obtain ⟨s, hs, hg⟩ := Goes.loop (R := ((Int × Int × Int × List Int) × List Int × Int × Unit) × Unit) (fun k i (_ : Unit) => Aa0.l11 k p (h : Int) (w : Int) xs p (w : Int) det (t : Int) (c : Int) (i : Int) e1 e2 e3 x18 p (h : Int) (w : Int) R.flatten piv) (pivA R t c) (fun i _ => t ≤ i) (fun i s hi h2 => ⟨(), by omega, Goes.succ fun k => by
   obtain ⟨i1, i2⟩ := A0S hh hw (show i < h by omega) hc;have hsl := o.flatLen;rw [Aa0.l11_eq, if_pos (ltI.2 (by omega)), i1, if_pos (idxI.2 (by omega)), Int.toNat_natCast, o.flat (by omega) hc, p3 i h2 hi, if_pos (by decide), A0y (by omega)]⟩) t () p1 (Nat.le_refl _)
 exact hg
theorem A2p {R : List (List Int)} (o : RowsOk p h w R) {c : Nat} (hc : c < w) (det : Int) (piv : List Int) (hl : piv.length < h) :
   ∃ det', Goes (fun k => Aa0.l8 k p (h : Int) (w : Int) xs p (w : Int) det (piv.length : Int) (c : Int) e1 e2 e3 x18 p (h : Int) (w : Int) R.flatten piv)
     (fun k => Aa0.l8 k p (h : Int) (w : Int) xs p (w : Int) det' ((A0G p w c (R, piv)).2.length : Int) ((c + 1 : Nat) : Int) e1 e2 e3 x18 p (h : Int) (w : Int) (A0G p w c (R, piv)).1.flatten (A0G p w c (R, piv)).2) := by
 have hlen := o.len;obtain ⟨p1, p2, p3, p4⟩ := A1n R piv.length c (by omega);have start : Goes (fun k => Aa0.l8 k p (h : Int) (w : Int) xs p (w : Int) det (piv.length : Int) (c : Int) e1 e2 e3 x18 p (h : Int) (w : Int) R.flatten piv) (fun k => Aa0.l11 k p (h : Int) (w : Int) xs p (w : Int) det (piv.length : Int) (c : Int) ((pivA R piv.length c : Nat) : Int) e1 e2 e3 x18 p (h : Int) (w : Int) R.flatten piv) := Goes.trans (Goes.succ fun k => by
   rw [Aa0.l8_eq, if_pos (ltI.2 hc), if_pos (ltI.2 hl)]) (A2o hp hh hw xs e1 e2 e3 x18 o (Nat.le_of_lt hl) hc det piv)
 by_cases hpv : pivA R piv.length c < R.length
 . have hnz := p4 hpv;have ha : pivA R piv.length c < h := by omega
   have hs : A0G p w c (R, piv) = (A1A p piv.length c (A1s p w piv.length c (A0O R piv.length (pivA R piv.length c))), piv ++ [(c : Int)]) := if_pos hpv;have o2 := A2C o hl ha;have hx := o2.cell hl c hc;have hiv := A3G hp.1 (((A0O R piv.length (pivA R piv.length c)).getD piv.length []).getD c 0);have hin : Af1.F (((A0O R piv.length (pivA R piv.length c)).getD piv.length []).getD c 0, p, ()) = some ((inv_ p (((A0O R piv.length (pivA R piv.length c)).getD piv.length []).getD c 0), ()), ()) := Af1.val _ _ hp hx;have o3 := A1b (h := h) hp.1 o2 piv.length c;obtain ⟨c1, c2⟩ := A0S hh hw hl hc;have hfl := o2.flat hl hc;have hfll := o2.flatLen;have hfin : ∀ d : Int, Goes (fun k => Aa0.l26 k p (h : Int) (w : Int) xs p (w : Int) d (piv.length : Int) (c : Int) (inv_ p (((A0O R piv.length (pivA R piv.length c)).getD piv.length []).getD c 0)) 0 e1 e2 e3 x18 p (h : Int) (w : Int) (A0O R piv.length (pivA R piv.length c)).flatten piv)
       (fun k => Aa0.l8 k p (h : Int) (w : Int) xs p (w : Int) d ((A0G p w c (R, piv)).2.length : Int) ((c + 1 : Nat) : Int) e1 e2 e3 x18 p (h : Int) (w : Int) (A0G p w c (R, piv)).1.flatten (A0G p w c (R, piv)).2) := fun d => by
     refine (A2Z hp hh hw xs e1 e2 e3 x18 o2 hl (c := c) _ d hiv piv).trans ((A2Y hp hh hw xs e1 e2 e3 x18 o3 hl hc d piv).trans (Goes.succ fun k => ?_));rw [Aa0.l30_eq, if_neg (by simp), if_pos (by simp only [List.length_cons, List.length_nil, bigA]; omega), A0y (by omega), A0y (by omega), hs];simp only [List.length_append, List.length_cons, List.length_nil, Nat.zero_add]
   by_cases e : pivA R piv.length c = piv.length
   . have hsw : A0O R piv.length (pivA R piv.length c) = R := by rw [e]; exact A1u (by omega)
     rw [hsw] at hin hfin hfl hfll;refine ⟨(IntKind.i64.wrap (det * (R.getD piv.length []).getD c 0)).tmod p, start.trans (Goes.trans (Goes.succ fun k => ?_) (hfin _))⟩;rw [e] at hnz ⊢;rw [Aa0.l11_eq, if_pos (ltI.2 hl), c1, if_pos (idxI.2 (by omega)), Int.toNat_natCast, hfl, if_neg (by rw [beq_iff_eq]; exact hnz), if_neg (by simp only [beq_iff_eq]; omega), if_neg (by simp), if_pos (idxI.2 (by omega)), if_neg (by omega), hin];rfl
   . refine ⟨(IntKind.i64.wrap (IntKind.i64.wrap (p - det) * ((A0O R piv.length (pivA R piv.length c)).getD piv.length []).getD c 0)).tmod p, start.trans (Goes.trans (B := fun k => Aa0.l17 k p (h : Int) (w : Int) xs p (w : Int) (IntKind.i64.wrap (p - det)) (piv.length : Int) (c : Int) ((pivA R piv.length c : Nat) : Int) 0 e1 e2 e3 x18 p (h : Int) (w : Int) R.flatten piv) (Goes.succ fun k => ?_) ((A2r hp hh hw xs e1 e2 e3 x18 o hl ha (Ne.symm e) c (IntKind.i64.wrap (p - det)) piv).trans (Goes.trans (Goes.succ fun k => ?_) (hfin _))))⟩
     . obtain ⟨d1, d2⟩ := A0S hh hw ha hc;have hf0 := o.flat ha hc;have hfl0 := o.flatLen;rw [Aa0.l11_eq, if_pos (ltI.2 ha), d1, if_pos (idxI.2 (by omega)), Int.toNat_natCast, hf0, if_neg (by rw [beq_iff_eq]; exact hnz), if_neg (by simp only [beq_iff_eq]; omega), if_pos (by rw [bne_iff_ne]; omega)]
     . rw [Aa0.l17_eq, if_neg (by simp), c1, if_pos (idxI.2 (by omega)), if_neg (by omega), Int.toNat_natCast, hfl, hin];rfl
 . have hs : A0G p w c (R, piv) = (R, piv) := if_neg hpv;refine ⟨det, start.trans (Goes.succ fun k => ?_)⟩;rw [Aa0.l11_eq, if_neg (by simp only [decide_eq_true_eq]; omega), if_pos (by simp only [beq_iff_eq]; omega), A0y (by omega), hs]
end
theorem Aa0.val {p : Int} {h w : Nat} (hp : 2 ≤ p /\ p ≤ 251) (hh : h ≤ 4096) (hw : w ≤ 256) {R : List (List Int)} (o : RowsOk p h w R) : ∃ det, Aa0.F ((p, ((h : Int), ((w : Int), R.flatten))), ()) = some (((p, (h : Int), (w : Int), (gjN p w R w).1.flatten), (gjN p w R w).2, det, ()), ()) := by
 have hfl := o.flatLen;have h1 : h * w ≤ 4096 * 256 := Nat.mul_le_mul hh hw;have run : ∀ i, i ≤ w -> ∀ det, ∃ det', Goes (fun k => Aa0.l8 k p (h : Int) (w : Int) R.flatten p (w : Int) det ((gjN p w R (w - i)).2.length : Int) ((w - i : Nat) : Int) 0 0 0 [] p (h : Int) (w : Int) (gjN p w R (w - i)).1.flatten (gjN p w R (w - i)).2) (fun _ => some (((p, (h : Int), (w : Int), (gjN p w R w).1.flatten), (gjN p w R w).2, det', ()), ())) := by
   intro i;induction i with
   | zero =>
     intro _ det;refine ⟨det, Goes.succ fun k => ?_⟩;rw [Nat.sub_zero, Aa0.l8_eq, if_neg (by simp)]
   | succ i ih =>
     intro hi det;obtain ⟨o', hl'⟩ := A3k hp.1 o (w - (i + 1));have e : w - i = (w - (i + 1)) + 1 := by omega
     by_cases hfull : (gjN p w R (w - (i + 1))).2.length < h
     . obtain ⟨d1, g1⟩ := A2p hp hh hw R.flatten 0 0 0 [] o' (c := w - (i + 1)) (by omega) det _ hfull;obtain ⟨d2, g2⟩ := ih (by omega) d1;rw [e] at g2;exact ⟨d2, g1.trans g2⟩
     . have stay : ∀ j, gjN p w R (w - (i + 1) + j) = gjN p w R (w - (i + 1)) := by
         intro j;induction j with
         | zero => rfl
         | succ j ihj =>
           show A0G p w _ (gjN p w R (w - (i + 1) + j)) = _;rw [ihj];exact A2t (by rw [o'.len]; omega)
       have hw2 : gjN p w R w = gjN p w R (w - (i + 1)) := by have := stay (i + 1); rwa [show w - (i + 1) + (i + 1) = w by omega] at this
       refine ⟨det, Goes.succ fun k => ?_⟩;rw [Aa0.l8_eq, if_pos (ltI.2 (by omega)), if_neg (by simp only [decide_eq_true_eq]; omega), hw2]
 obtain ⟨det, g⟩ := run w (Nat.le_refl _) 1;rw [Nat.sub_self] at g;refine ⟨det, Aa0.of _ _ _ _ (Ev.of_eq (g _ (Ev.const _)) fun k => ?_)⟩;rw [Aa0.T, Ab5.val _ (by omega)];rfl
theorem Ad6.val (xs : List Int) (h : xs.length ≤ 1048576) : Ad6.F (xs, ()) = some ((xs, ()), ()) := by
 rw [Ad6.eq, Ad6.T];have hb : ([] : List Int).length + xs.length ≤ bigA := by simp only [List.length_nil, bigA]; omega
 by_cases h0 : 0 < xs.length
 . rw [if_pos h0, if_pos hb]; rfl
 . have : xs = [] := List.eq_nil_of_length_eq_zero (by omega);subst this;rw [if_neg h0];exact both_mk rfl (by rw [if_pos hb]; rfl)
theorem Ai4.val (xs : List (List Int)) (h : SmL xs) : Ai4.F (xs, ()) = some ((xs, ()), ()) := by
 have hn := h.1;refine Ai4.of _ ?_;obtain ⟨s, hs, hg⟩ := Goes.loop (R := ((List (List Int) × Unit) × Unit)) (fun k i (x : List (List Int)) => Ai4.l3 k xs (xs.length : Int) (i : Int) x) xs.length (fun i x => x = xs.take i) (fun i x hi h2 => ⟨_, rfl, Goes.succ fun k => by
   rw [Ai4.l3_eq, if_pos (ltI.2 hi), if_pos (idxI.2 hi)];simp only [Int.toNat_natCast, Ad6.val _ (h.2 _ (A0z [] hi)), Option.bind_some];rw [if_pos (by rw [h2]; simp only [List.length_take, List.length_cons, List.length_nil, bigA]; omega), A0y (by omega), h2, List.take_add_one, List.getElem?_eq_getElem hi, Option.toList_some, A0x hi]⟩) 0 [] (Nat.zero_le _) rfl
 rw [List.take_of_length_le (Nat.le_refl _)] at hs;refine Ev.of_eq (hg _ ((Ev.const _).succ fun k => ?_)) fun k => rfl;rw [Ai4.l3_eq, if_neg (by simp), hs]
def A0T (R C : Nat) (g : Nat -> Nat -> Int) : List Int := (List.range R).flatMap fun i => (List.range C).map (g i)
theorem A0t (R C : Nat) (g : Nat -> Nat -> Int) : A0T (R + 1) C g = A0T R C g ++ (List.range C).map (g R) := by simp [A0T, List.range_succ]
theorem A0B (R C : Nat) (g : Nat -> Nat -> Int) : (A0T R C g).length = R * C := by
 induction R with
 | zero => simp [A0T]
 | succ R ih => rw [A0t, List.length_append, ih, List.length_map, List.length_range, Nat.add_mul, Nat.one_mul]
theorem A1M (R C : Nat) (g : Nat -> Nat -> Int) {i j : Nat} (hi : i < R) (hj : j < C) : (A0T R C g).getD (i * C + j) 0 = g i j := by
 induction R with
 | zero => omega
 | succ R ih =>
   rw [A0t];by_cases h : i < R
   . have hlt : i * C + j < (A0T R C g).length := by
       rw [A0B];have := Nat.mul_le_mul_right C (show i + 1 ≤ R by omega);rw [Nat.add_mul, Nat.one_mul] at this; omega
     rw [List.getD_eq_getElem?_getD, List.getElem?_append_left hlt, <- List.getD_eq_getElem?_getD];exact ih h
   . obtain rfl : i = R := by omega
     rw [List.getD_eq_getElem?_getD, List.getElem?_append_right (by rw [A0B]; omega), A0B, show i * C + j - i * C = j by omega, List.getElem?_map, List.getElem?_range hj];rfl
theorem A3q (R C : Nat) (g : Nat -> Nat -> Int) (hR : R ≤ 32) (hC : C ≤ 32) : (A0T R C g).length ≤ 1024 := by
 rw [A0B]; exact Nat.mul_le_mul hR hC
theorem Ab7.val (p : Int) (R C : Nat) (f : Int × Int × Unit -> Option (Int × Unit)) (g : Nat -> Nat -> Int) (hR : R ≤ 32) (hC : C ≤ 32) (hf : ∀ i j, i < R -> j < C -> f ((i : Int), (j : Int), ()) = some (g i j, ())) :
   Ab7.F (p, (R : Int), (C : Int), f, ()) = some (((p, (R : Int), (C : Int), A0T R C g), ()), ()) := by
 refine Ab7.of _ _ _ _ ?_;obtain ⟨s, hs, hg⟩ := Goes.loop (R := ((MatV × Unit) × Unit)) (fun k i (s : List Int) => Ab7.l3 k (C : Int) f (R : Int) (i : Int) 0 0 0 [] p (R : Int) (C : Int) s) R (fun i s => s = A0T i C g) (fun i s hi h2 => by
   refine ⟨_, rfl, (Goes.succ fun k => by rw [Ab7.l3_eq, if_pos (ltI.2 hi)]).trans ?_⟩;obtain ⟨s2, hs2, hg2⟩ := Goes.loop (R := ((MatV × Unit) × Unit)) (fun k j (x : List Int) => Ab7.l6 k (C : Int) f (i : Int) (R : Int) (i : Int) (C : Int) (j : Int) 0 0 0 [] p (R : Int) (C : Int) x) C (fun j x => x = A0T i C g ++ (List.range j).map (g i)) (fun j x hj h3 => ⟨_, rfl, Goes.succ fun k => by
     rw [Ab7.l6_eq, if_pos (ltI.2 hj), hf i j hi hj];simp only [Option.bind_some];have := A3q i C g (by omega) hC;rw [if_pos (by rw [h3]; simp only [List.length_append, List.length_map, List.length_range, List.length_cons, List.length_nil, bigA]; omega), A0y (by omega), h3, List.range_succ, List.map_append, List.append_assoc];rfl⟩) 0 s (Nat.zero_le _) (by simp [h2])
   refine hg2.trans (Goes.succ fun k => ?_);rw [Ab7.l6_eq, if_neg (by simp), A0y (by omega), hs2, A0t]) 0 [] (Nat.zero_le _) rfl
 refine Ev.of_eq (hg _ ((Ev.const _).succ fun k => ?_)) fun k => rfl;rw [Ab7.l3_eq, if_neg (by simp), hs]
def A0Q (m : MatV) : MatV := (m.1, m.2.2.1, m.2.1, A0T m.2.2.1.toNat m.2.1.toNat fun i j => m.2.2.2.getD (j * m.2.2.1.toNat + i) 0)
theorem A0R {r c i j : Nat} (hr : r ≤ 32) (hc : c ≤ 32) (hi : i < r) (hj : j < c) : IntKind.i64.wrap (IntKind.i64.wrap ((i : Int) * (c : Int)) + (j : Int)) = ((i * c + j : Nat) : Int) /\ i * c + j < r * c := by
 have h1 : i * c ≤ 32 * 32 := Nat.mul_le_mul (by omega) hc;have e : (i : Int) * (c : Int) = ((i * c : Nat) : Int) := by simp
 have h2 := Nat.mul_le_mul_right c (show i + 1 ≤ r by omega);rw [Nat.add_mul, Nat.one_mul] at h2;refine ⟨?_, by omega⟩;rw [e, A0v (x := ((i * c : Nat) : Int)) (by omega) (by omega), A0v (by omega) (by omega)];omega
theorem Ag2.val (m : MatV) (h : MatOk m) : Ag2.F (m, ()) = some ((A0Q m, ()), ()) := by
 obtain ⟨p, r, c, xs⟩ := m;obtain ⟨-, hr, hc, hl, -⟩ := h;obtain ⟨r, rfl⟩ := Int.eq_ofNat_of_zero_le hr.1;obtain ⟨c, rfl⟩ := Int.eq_ofNat_of_zero_le hc.1;have hl' : xs.length = r * c := by
   have e : (r : Int) * (c : Int) = ((r * c : Nat) : Int) := by simp
   have hl2 : (xs.length : Int) = (r : Int) * (c : Int) := hl;omega
 have hr' : r ≤ 32 := by have := hr.2; simp only [] at this; omega
 have hc' : c ≤ 32 := by have := hc.2; simp only [] at this; omega
 rw [Ag2.eq, Ag2.T, Ab7.val p c r _ (fun i j => xs.getD (j * c + i) 0) hc' hr' (fun i j hi hj => by
   show (Ao2.F ((i : Int), (j : Int), (p, (r : Int), (c : Int), xs), ())).map (·.1) = _;obtain ⟨e1, e2⟩ := A0R hr' hc' hj hi;rw [Ao2.eq, Ao2.T, Ah3.eq, Ah3.T, e1, if_pos (by omega)];simp only [Option.bind_some, Int.toNat_natCast];rfl)]
 rfl
theorem A2M {m : MatV} (h : MatOk m) : MatOk (A0Q m) := by
 obtain ⟨p, r, c, xs⟩ := m;obtain ⟨hp, hr, hc, hl, ha⟩ := h;obtain ⟨r, rfl⟩ := Int.eq_ofNat_of_zero_le hr.1;obtain ⟨c, rfl⟩ := Int.eq_ofNat_of_zero_le hc.1;refine ⟨hp, hc, hr, ?_, ?_⟩
 . show ((A0T c r _).length : Int) = (c : Int) * (r : Int);rw [A0B]; simp
 . intro a ham;simp only [A0Q, A0T, List.mem_flatMap, List.mem_map, List.mem_range, Int.toNat_natCast] at ham;obtain ⟨i, hi, j, hj, rfl⟩ := ham;have hr' : r ≤ 32 := by have := hr.2; simp only [] at this; omega
   have hc' : c ≤ 32 := by have := hc.2; simp only [] at this; omega
   obtain ⟨-, e2⟩ := A0R hr' hc' hj hi;have hl2 : (xs.length : Int) = (r : Int) * (c : Int) := hl;have e : (r : Int) * (c : Int) = ((r * c : Nat) : Int) := by simp
   have hl3 : xs.length = r * c := by rw [e] at hl2; exact Int.ofNat_inj.1 hl2
   exact ha _ (A0z 0 (by rw [hl3]; exact e2))
theorem A1V {R C : Nat} {g : Nat -> Nat -> Int} {ys : List Int} (hl : ys.length = R * C) (h : ∀ i j, i < R -> j < C -> ys.getD (i * C + j) 0 = g i j) : ys = A0T R C g := by
 refine List.ext_getElem (by rw [hl, A0B]) fun n h1 h2 => ?_;rw [<- A0x (d := 0) h1, <- A0x (d := 0) h2];by_cases hC : C = 0
 . subst hC; rw [hl] at h1; omega
 have hn : n < R * C := by omega
 have hi : n / C < R := Nat.div_lt_of_lt_mul (by rw [Nat.mul_comm]; exact hn);have hj : n % C < C := Nat.mod_lt _ (by omega);have e : n / C * C + n % C = n := by rw [Nat.mul_comm]; exact Nat.div_add_mod n C
 rw [<- e, h _ _ hi hj, A1M _ _ _ hi hj]
theorem MatOk.nat {m : MatV} (h : MatOk m) : ∃ R C : Nat, m.2.1 = (R : Int) /\ m.2.2.1 = (C : Int) /\ R ≤ 32 /\ C ≤ 32 /\ m.2.2.2.length = R * C /\ (2 ≤ m.1 /\ m.1 ≤ 251) /\ A0J 0 (m.1 - 1) m.2.2.2 := by
 obtain ⟨p, r, c, xs⟩ := m;obtain ⟨hp, hr, hc, hl, ha⟩ := h;obtain ⟨r, rfl⟩ := Int.eq_ofNat_of_zero_le hr.1;obtain ⟨c, rfl⟩ := Int.eq_ofNat_of_zero_le hc.1;have hl2 : (xs.length : Int) = (r : Int) * (c : Int) := hl;have e : (r : Int) * (c : Int) = ((r * c : Nat) : Int) := by simp
 have hr2 : (r : Int) ≤ 32 := hr.2;have hc2 : (c : Int) ≤ 32 := hc.2;exact ⟨r, c, rfl, rfl, by omega, by omega, by rw [e] at hl2; exact Int.ofNat_inj.1 hl2, hp.1, ha⟩
def rowL (xs : List Int) (C i : Nat) : List Int := (xs.take ((i + 1) * C)).drop (i * C)
theorem A0U {xs : List Int} {R C i : Nat} (hl : xs.length = R * C) (hi : i < R) : (rowL xs C i).length = C := by
 have h2 := Nat.mul_le_mul_right C (show i + 1 ≤ R by omega);have e : (i + 1) * C = i * C + C := by rw [Nat.add_mul, Nat.one_mul]
 simp only [rowL, List.length_drop, List.length_take];omega
theorem A1p {xs : List Int} {C i k : Nat} (hk : k < C) : (rowL xs C i).getD k 0 = xs.getD (i * C + k) 0 := by
 have e : (i + 1) * C = i * C + C := by rw [Nat.add_mul, Nat.one_mul]
 simp only [rowL, List.getD_eq_getElem?_getD, List.getElem?_drop, List.getElem?_take];rw [if_pos (by omega)]
theorem A1a {xs : List Int} {C i : Nat} {x : Int} (h : x ∈ rowL xs C i) : x ∈ xs := List.mem_of_mem_take (List.mem_of_mem_drop h)
theorem rowWrap {R C i : Nat} (hR : R ≤ 1024) (hC : C ≤ 1024) (hi : i < R) : IntKind.i64.wrap ((i : Int) * (C : Int)) = ((i * C : Nat) : Int) /\ IntKind.i64.wrap ((IntKind.i64.wrap ((i : Int) + 1)) * (C : Int)) = (((i + 1) * C : Nat) : Int) /\ i * C ≤ (i + 1) * C /\ (i + 1) * C ≤ R * C := by
 have h1 : (i + 1) * C ≤ 1024 * 1024 := Nat.mul_le_mul (by omega) hC;have h0 : i * C ≤ (i + 1) * C := Nat.mul_le_mul_right C (by omega);have e : (i : Int) * (C : Int) = ((i * C : Nat) : Int) := by simp
 have e2 : ((i + 1 : Nat) : Int) * (C : Int) = (((i + 1) * C : Nat) : Int) := by simp
 refine ⟨?_, ?_, h0, Nat.mul_le_mul_right C (by omega)⟩
 . rw [e, A0v (by omega) (by omega)]
 . rw [A0y (by omega), e2, A0v (by omega) (by omega)]
theorem Af6.val (p : Int) (R C : Nat) (xs : List Int) (hR : R ≤ 1024) (hC : C ≤ 1024) (hl : xs.length = R * C) (i : Nat) (hi : i < R) (r : Int) : Af6.F ((p, r, (C : Int), xs), (i : Int), ()) = some ((rowL xs C i, ()), ()) := by
 obtain ⟨e1, e2, e3, e4⟩ := rowWrap hR hC hi;rw [Af6.eq, Af6.T, e1, e2, if_pos (by omega)];simp only [cutL, Int.toNat_natCast, rowL]
def A0o (xs : List Int) (R C : Nat) : List (List Int) := (List.range R).map (rowL xs C)
theorem Ae5.val (p : Int) (R C : Nat) (xs : List Int) (hR : R ≤ 1024) (hC : C ≤ 1024) (hl : xs.length = R * C) : Ae5.F ((p, (R : Int), (C : Int), xs), ()) = some ((A0o xs R C, ()), ()) := by
 refine Ae5.of _ _ _ _ ?_;obtain ⟨s, hs, hg⟩ := Goes.loop (R := ((List (List Int) × Unit) × Unit)) (fun k i (s : List (List Int)) => Ae5.l3 k (R : Int) (i : Int) p (R : Int) (C : Int) xs s) R (fun i s => s = (List.range i).map (rowL xs C)) (fun i s hi h2 => ⟨_, rfl, Goes.succ fun k => by
   have hrl := A0U hl hi;rw [Ae5.l3_eq, if_pos (ltI.2 hi), Af6.val p R C xs hR hC hl i hi];simp only [Option.bind_some];rw [Ad6.val _ (by omega)];simp only [Option.bind_some];rw [if_pos (by rw [h2]; simp only [List.length_map, List.length_range, List.length_cons, List.length_nil, bigA]; omega), A0y (by omega), h2, List.range_succ, List.map_append];rfl⟩) 0 [] (Nat.zero_le _) rfl
 refine Ev.of_eq (hg _ ((Ev.const _).succ fun k => ?_)) fun k => rfl;rw [Ae5.l3_eq, if_neg (by simp), hs]; rfl
theorem A2W (xs : List Int) {R C i : Nat} (hi : i < R) : (A0o xs R C).getD i [] = rowL xs C i := by
 simp [A0o, List.getD_eq_getElem?_getD, hi]
theorem A1r (xs : List Int) (R C : Nat) : (A0o xs R C).length = R := by simp [A0o]
theorem A2V : ∀ (h w : Nat) (xs : List Int), xs.length = h * w -> (A0o xs h w).flatten = xs := by
 intro h w xs hl;have key : ∀ i, i ≤ h -> ((List.range i).map (rowL xs w)).flatten = xs.take (i * w) := by
   intro i;induction i with
   | zero => intro _; simp
   | succ i ih =>
     intro hi;have e : (i + 1) * w = i * w + w := by rw [Nat.add_mul, Nat.one_mul]
     rw [List.range_succ, List.map_append, List.flatten_append, ih (by omega)];simp only [List.map_cons, List.map_nil, List.flatten_cons, List.flatten_nil, List.append_nil, rowL];have h1 : xs.take (i * w) = (xs.take ((i + 1) * w)).take (i * w) := by rw [List.take_take]; congr 1; omega
     rw [h1, List.take_append_drop]
 have := key h (Nat.le_refl _);rw [A0o, this, <- hl, List.take_length]
theorem rows_ok {m : MatV} (h : MatOk m) {R C : Nat} (hr : m.2.1 = (R : Int)) (hc : m.2.2.1 = (C : Int)) (hl : m.2.2.2.length = R * C) : RowsOk m.1 R C (A0o m.2.2.2 R C) := by
 refine ⟨by simp [A0o], fun r hr' => ?_⟩;unfold A0o at hr';obtain ⟨i, hi, rfl⟩ := List.mem_map.1 hr';exact ⟨A0U hl (List.mem_range.1 hi), fun x hx => h.2.2.2.2 x (A1a hx)⟩
def A1G (m : MatV) : Nat := (gjN m.1 m.2.2.1.toNat (A0o m.2.2.2 m.2.1.toNat m.2.2.1.toNat) m.2.2.1.toNat).2.length
theorem A0n {m : MatV} (h : MatOk m) : Am7.F (m, ()) = some ((((A1G m : Nat) : Int), ()), ()) /\ Am8.F (m, ()) = some ((((A1G m : Nat) : Int), ()), ()) /\ A1G m ≤ 32 := by
 obtain ⟨R, C, hr, hc, hR, hC, hl, hp, ha⟩ := h.nat;have o := rows_ok h hr hc hl;obtain ⟨d1, e1⟩ := Ac5.val hp (by omega) (by omega) o;obtain ⟨d2, e2⟩ := Aa0.val hp (by omega) (by omega) o;rw [A2V R C _ hl] at e2;have e0 := Ae5.val m.1 R C m.2.2.2 (by omega) (by omega) hl;have hrk : A1G m = (gjN m.1 C (A0o m.2.2.2 R C) C).2.length := by rw [A1G, hr, hc]; rfl
 have hle := (A3k hp.1 o C).2;obtain ⟨p, r, c, xs⟩ := m;obtain rfl : r = (R : Int) := hr;obtain rfl : c = (C : Int) := hc;refine ⟨?_, ?_, by omega⟩
 . rw [Am7.eq, Am7.T, e0];simp only [Option.bind_some, e1];rw [Aa6.eq, Aa6.T, hrk]; rfl
 . rw [Am8.eq, Am8.T, e2, hrk]; rfl
def lexc : List Int -> List Int -> Int
 | [], [] => 0
 | [], _ :: _ => -1
 | _ :: _, [] => 1
 | a :: u, b :: v => if cmpI a b ≠ 0 then cmpI a b else lexc u v
theorem A0A (x y : Int) : (x < y /\ cmpI x y = -1) ∨ (x = y /\ cmpI x y = 0) ∨ (y < x /\ cmpI x y = 1) := by
 unfold cmpI;by_cases h : x < y
 . exact .inl ⟨h, if_pos h⟩
 . by_cases h2 : x > y
   . exact .inr (.inr ⟨h2, by rw [if_neg h, if_pos h2]⟩)
   . exact .inr (.inl ⟨by omega, by rw [if_neg h, if_neg h2]⟩)
theorem A1l : ∀ (a b : List Int), lexc a b = 0 ↔ a = b
 | [], [] => by simp [lexc]
 | [], _ :: _ => by simp [lexc]
 | _ :: _, [] => by simp [lexc]
 | a :: u, b :: v => by
   rcases A0A a b with ⟨h, e⟩ | ⟨h, e⟩ | ⟨h, e⟩
   . simp [lexc, e]; intro h'; omega
   . subst h; simp [lexc, e, A1l u v]
   . simp [lexc, e]; intro h'; omega
theorem A1N : ∀ (a b c : List Int), lexc a b < 0 -> lexc b c < 0 -> lexc a c < 0
 | [], [], c, h1, _ => by simp [lexc] at h1
 | [], _ :: _, [], _, h2 => by simp [lexc] at h2
 | [], _ :: _, _ :: _, _, _ => by simp [lexc]
 | _ :: _, [], c, h1, _ => by simp [lexc] at h1
 | _ :: _, _ :: _, [], _, h2 => by simp [lexc] at h2
 | a :: u, b :: v, c :: w, h1, h2 => by
   have ih := A1N u v w;simp only [lexc] at h1 h2 ⊢;rcases A0A a b with ⟨g1, e1⟩ | ⟨g1, e1⟩ | ⟨g1, e1⟩ <;> rcases A0A b c with ⟨g2, e2⟩ | ⟨g2, e2⟩ | ⟨g2, e2⟩ <;> rcases A0A a c with ⟨g3, e3⟩ | ⟨g3, e3⟩ | ⟨g3, e3⟩ <;> simp [e1, e2, e3] at h1 h2 ⊢ <;> first | omega | exact ih h1 h2
def cmpS (a b : List Int) : Int := if cmpI a.length b.length ≠ 0 then cmpI a.length b.length else lexc a b
theorem A0L (a b : List Int) : cmpS a b = 0 ↔ a = b := by
 unfold cmpS;rcases A0A a.length b.length with ⟨h, e⟩ | ⟨h, e⟩ | ⟨h, e⟩
 . simp [e]; intro h'; rw [h'] at h; omega
 . simp [e, A1l]
 . simp [e]; intro h'; rw [h'] at h; omega
theorem A0Y (a b c : List Int) (h1 : cmpS a b < 0) (h2 : cmpS b c < 0) : cmpS a c < 0 := by
 unfold cmpS at *;rcases A0A a.length b.length with ⟨g1, e1⟩ | ⟨g1, e1⟩ | ⟨g1, e1⟩ <;> rcases A0A b.length c.length with ⟨g2, e2⟩ | ⟨g2, e2⟩ | ⟨g2, e2⟩ <;> rcases A0A a.length c.length with ⟨g3, e3⟩ | ⟨g3, e3⟩ | ⟨g3, e3⟩ <;> simp [e1, e2, e3] at h1 h2 ⊢ <;> first | omega | exact A1N a b c h1 h2
theorem A2P {a b : List Int} (h : a.length < b.length) : cmpS a b < 0 := by
 unfold cmpS;rcases A0A a.length b.length with ⟨g, e⟩ | ⟨g, e⟩ | ⟨g, e⟩
 . simp [e]
 . omega
 . omega
theorem Ak0.val (x y : Int) : Ak0.F (x, y, ()) = some ((cmpI x y, ()), ()) := by
 rw [Ak0.eq, Ak0.T, Ak2.eq, Ak2.T, Ak2.eq, Ak2.T];simp only [Option.bind_some, bne_self_eq_false, Bool.false_eq_true, if_false, decide_eq_true_eq, cmpI]
 repeat' split
 all_goals rfl
theorem A1i {a b : List Int} {i : Nat} (ha : i < a.length) (hb : i < b.length) : lexc (a.drop i) (b.drop i) = if cmpI (a.getD i 0) (b.getD i 0) ≠ 0 then cmpI (a.getD i 0) (b.getD i 0) else lexc (a.drop (i + 1)) (b.drop (i + 1)) := by
 rw [List.drop_eq_getElem_cons ha, List.drop_eq_getElem_cons hb, A0x ha, A0x hb]; rfl
theorem Ai1.val (a b : List Int) (ha : a.length ≤ 1048576) (hb : b.length ≤ 1048576) : Ai1.F (a, b, ()) = some ((lexc a b, ()), ()) := by
 obtain ⟨r, hr, hq⟩ := Ev.loop (σ := Unit) (R := (Int × Unit) × Unit) (fun k i _ => Ai1.l2 k a b a a.length (i : Int)) a.length (fun i _ => i ≤ b.length /\ lexc a b = lexc (a.drop i) (b.drop i)) (fun r => r = ((lexc a b, ()), ()))
   (fun i s hi ⟨h1, h2⟩ => by
     have E := fun k => Ai1.l2_eq k a b a a.length (i : Int);simp only [if_pos (ltI.2 hi), if_pos (idxI.2 hi), Int.toNat_natCast, A0y (show i < 4611686018427387904 by omega)] at E;by_cases hib : i < b.length
     . simp only [if_neg (show ¬ decide ((i : Int) ≥ (b.length : Int)) = true by simp; omega), if_pos (idxI.2 hib), Ak1.val, Option.bind_some] at E;have hd := A1i hi hib;obtain ⟨cc, hcc⟩ : ∃ cc, cmpI (a.getD i 0) (b.getD i 0) = cc := ⟨_, rfl⟩;rw [hcc] at hd;simp only [hcc] at E;by_cases hc : cc = 0
       . refine .inr ⟨(), ⟨by omega, by rw [h2, hd, if_neg (by simp [hc])]⟩, Goes.succ fun k => by rw [E, if_neg (by simp [hc])]⟩
       . exact .inl ⟨_, (Ev.const _).succ fun k => by rw [E, if_pos (by simp [hc])], by rw [h2, hd, if_pos hc]⟩
     . refine .inl ⟨_, (Ev.const _).succ fun k => by rw [E, if_pos (by simp; omega)], ?_⟩;rw [h2, List.drop_eq_getElem_cons hi, List.drop_of_length_le (show b.length ≤ i by omega)]; rfl)
   (fun s ⟨h1, h2⟩ => by
     by_cases hl : a.length < b.length
     . refine ⟨_, (Ev.const _).succ fun k => by rw [Ai1.l2_eq, if_neg (by simp), if_pos (by simp; omega)], ?_⟩;rw [h2, List.drop_of_length_le (Nat.le_refl _), List.drop_eq_getElem_cons hl]; rfl
     . refine ⟨_, (Ev.const _).succ fun k => by rw [Ai1.l2_eq, if_neg (by simp), if_neg (by simp; omega)], ?_⟩;rw [h2, List.drop_of_length_le (Nat.le_refl _), List.drop_of_length_le (by omega)]; rfl) 0 () (Nat.zero_le _) ⟨Nat.zero_le _, rfl⟩
 subst hq;exact Ai1.of _ _ (hr.of_eq fun k => rfl)
theorem Ad2.val (a b : List Int) (ha : a.length ≤ 1048576) (hb : b.length ≤ 1048576) : Ad2.F (a, b, ()) = some ((cmpS a b, ()), ()) := by
 rw [Ad2.eq, Ad2.T, Ak0.val, Ai1.val a b ha hb];simp only [Option.bind_some, Ah2.val2, cmpS]
theorem Ah0.val (a b : List Int) (ha : a.length ≤ 1048576) : Ah0.F (a, b, ()) = some ((decide (cmpS a b < 0), ()), ()) := by
 by_cases hl : a.length = b.length
 . obtain ⟨r, hr, hq⟩ := Ev.loop (σ := Unit) (R := (Bool × Unit) × Unit) (fun k i _ => Ah0.l4 k a b (i : Int)) a.length (fun i _ => lexc a b = lexc (a.drop i) (b.drop i)) (fun r => r = ((decide (lexc a b < 0), ()), ()))
     (fun i s hi h2 => by
       have hib : i < b.length := by omega
       have E := fun k => Ah0.l4_eq k a b (i : Int);simp only [if_pos (ltI.2 hi), if_pos (idxI.2 hi), if_pos (idxI.2 hib), Int.toNat_natCast, A0y (show i < 4611686018427387904 by omega)] at E;have hd := A1i hi hib;obtain ⟨ai, hai⟩ : ∃ ai, a.getD i 0 = ai := ⟨_, rfl⟩;obtain ⟨bi, hbi⟩ : ∃ bi, b.getD i 0 = bi := ⟨_, rfl⟩;rw [hai, hbi] at hd;simp only [hai, hbi] at E;rcases A0A ai bi with ⟨g, e⟩ | ⟨g, e⟩ | ⟨g, e⟩
       . refine .inl ⟨_, (Ev.const _).succ fun k => by rw [E, if_pos (by simp; omega)], ?_⟩;rw [h2, hd, if_pos (by rw [e]; omega), e]; simp [g]
       . exact .inr ⟨(), by rw [h2, hd, if_neg (by rw [e]; simp)], Goes.succ fun k => by rw [E, if_neg (by simp [g])]⟩
       . refine .inl ⟨_, (Ev.const _).succ fun k => by rw [E, if_pos (by simp; omega)], ?_⟩;rw [h2, hd, if_pos (by rw [e]; omega), e]; simp; omega)
     (fun s h2 => ⟨_, (Ev.const _).succ fun k => by rw [Ah0.l4_eq, if_neg (by simp)], by rw [h2, List.drop_of_length_le (Nat.le_refl _), List.drop_of_length_le (by omega)]; rfl⟩) 0 () (Nat.zero_le _) rfl
   subst hq;refine Ah0.of _ _ (hr.of_eq fun k => ?_) |>.trans ?_
   . rw [Ah0.T, if_neg (by simp [hl])]; rfl
   . have : cmpS a b = lexc a b := by
       unfold cmpS;rcases A0A a.length b.length with ⟨g, e⟩ | ⟨g, e⟩ | ⟨g, e⟩
       . omega
       . simp [e]
       . omega
     rw [this]
 . have : decide (cmpS a b < 0) = decide ((a.length : Int) < (b.length : Int)) := by
     unfold cmpS;rcases A0A a.length b.length with ⟨g, e⟩ | ⟨g, e⟩ | ⟨g, e⟩
     . simp [e]; omega
     . omega
     . simp [e]; omega
   rw [this];exact Ah0.of _ _ ((Ev.const _).of_eq fun k => by rw [Ah0.T, if_pos (by simp; omega)])
def A0V (xs : List (List Int)) : Prop := ∀ i j, i < j -> j < xs.length -> cmpS (xs.getD i []) (xs.getD j []) < 0
theorem A1Q {xs : List (List Int)} (h : ∀ i, 0 < i -> i < xs.length -> cmpS (xs.getD (i - 1) []) (xs.getD i []) < 0) : A0V xs := by
 intro i j;induction j with
 | zero => intro h1; omega
 | succ j ih =>
   intro h1 h2;have h3 := h (j + 1) (by omega) h2;simp only [Nat.add_sub_cancel] at h3;by_cases hij : i = j
   . rw [hij]; exact h3
   . exact A0Y _ _ _ (ih (by omega) (by omega)) h3
theorem wrapU {x : Int} (h1 : 0 ≤ x) (h2 : x < 18446744073709551616) : IntKind.u64.wrap x = x := by
 have e : (2 : Int) ^ (IntKind.u64).bits = 18446744073709551616 := by decide
 unfold IntKind.wrap;simp only [e, show IntKind.u64.signed = false from rfl, Bool.false_and, Bool.false_eq_true, if_false];omega
theorem midI {i j : Nat} (h : i + j < 4611686018427387904) : IntKind.i64.wrap ((IntKind.u64.wrap (IntKind.i64.wrap ((i : Int) + (j : Int)))).fdiv (2 ^ (min (1 : Int).toNat IntKind.u64.bits))) = (((i + j) / 2 : Nat) : Int) := by
 rw [A0v (x := (i : Int) + (j : Int)) (by omega) (by omega), wrapU (by omega) (by omega)];have e : (2 : Int) ^ (min (1 : Int).toNat IntKind.u64.bits) = ((2 : Nat) : Int) := by decide
 rw [e, show (i : Int) + (j : Int) = ((i + j : Nat) : Int) by omega, <- Int.ofNat_fdiv, A0v (by omega) (by omega)]
theorem binSearch.val (xs : List (List Int)) (t : List Int) (hs : A0V xs) (h1 : SmL xs) (h2 : t.length ≤ 1048576) :
   ∃ r : Int, ∃ b : Bool, Am2.F (xs, t, Ad2.cloG (()), ()) = some ((r, (b, ())), ()) /\ 0 ≤ r /\ (b = true ↔ t ∈ xs) /\ (b = true -> r.toNat < xs.length /\ xs.getD r.toNat [] = t) := by
 have hn := h1.1;have hcmp : ∀ i, i < xs.length -> Ad2.cloG (()) (xs.getD i [], t, ()) = some (cmpS (xs.getD i []) t, ()) := fun i hi => by
   show (Ad2.F (xs.getD i [], t, ())).map (·.1) = _;rw [Ad2.val _ _ (h1.2 _ (A0z _ hi)) h2]; rfl
 have key : ∀ d i j : Nat, j - i ≤ d -> i ≤ j -> j ≤ xs.length -> (∀ m, m < i -> cmpS (xs.getD m []) t < 0) -> (∀ m, j ≤ m -> m < xs.length -> ¬ cmpS (xs.getD m []) t < 0) →
     ∃ r : Int, ∃ b : Bool, Ev (fun k => Am2.l3 k xs t (Ad2.cloG (())) xs.length (i : Int) (j : Int)) ((r, (b, ())), ()) /\ 0 ≤ r /\ (b = true ↔ t ∈ xs) /\ (b = true -> r.toNat < xs.length /\ xs.getD r.toNat [] = t) := by
   intro d;induction d with
   | zero =>
     intro i j hd hij hj hlo hhi;obtain rfl : i = j := by omega
     have E := fun k => Am2.l3_eq k xs t (Ad2.cloG (())) xs.length (i : Int) (i : Int);simp only [if_neg (show ¬ decide ((i : Int) < (i : Int)) = true by simp)] at E;by_cases hi : i < xs.length
     . simp only [if_pos (ltI.2 hi), if_pos (idxI.2 hi), Int.toNat_natCast, hcmp i hi, Option.bind_some] at E;refine ⟨_, _, (Ev.const _).succ E, by omega, ?_, fun hb => ?_⟩
       rotate_left
       . simp only [beq_iff_eq, A0L] at hb;rw [Int.toNat_natCast]; exact ⟨hi, hb⟩
       simp only [beq_iff_eq, A0L];refine ⟨fun h => h ▸ A0z [] hi, fun h => ?_⟩;obtain ⟨m, hm, e⟩ := List.getElem_of_mem h;have e' : xs.getD m [] = t := by rw [A0x hm]; exact e
       rcases Nat.lt_trichotomy m i with h3 | h3 | h3
       . have := hlo m h3;rw [e', (A0L t t).2 rfl] at this; omega
       . rw [<- h3]; exact e'
       . have := hs i m h3 hm;rw [e'] at this;exact absurd this (hhi i (Nat.le_refl _) hi)
     . simp only [if_neg (show ¬ decide ((i : Int) < (xs.length : Int)) = true by simp; omega)] at E;refine ⟨_, _, (Ev.const _).succ E, by omega, ?_, fun hb => by cases hb⟩;simp only [Bool.false_eq_true, false_iff];intro h;obtain ⟨m, hm, e⟩ := List.getElem_of_mem h;have e' : xs.getD m [] = t := by rw [A0x hm]; exact e
       have := hlo m (by omega);rw [e', (A0L t t).2 rfl] at this; omega
   | succ d ih =>
     intro i j hd hij hj hlo hhi;by_cases he : i = j
     . exact ih i j (by omega) hij hj hlo hhi
     have E := fun k => Am2.l3_eq k xs t (Ad2.cloG (())) xs.length (i : Int) (j : Int);have hm : (i + j) / 2 < xs.length := by omega
     simp only [if_pos (show decide ((i : Int) < (j : Int)) = true by simp; omega), if_neg (show ¬ (1 : Int) < 0 by omega), midI (show i + j < 4611686018427387904 by omega), if_pos (idxI.2 hm), Int.toNat_natCast, hcmp _ hm, Option.bind_some, A0y (show (i + j) / 2 < 4611686018427387904 by omega)] at E;by_cases hc : cmpS (xs.getD ((i + j) / 2) []) t < 0
     . obtain ⟨r, b, hr, h⟩ := ih ((i + j) / 2 + 1) j (by omega) (by omega) hj (fun m hm2 => by
         by_cases h3 : m = (i + j) / 2
         . rw [h3]; exact hc
         . exact A0Y _ _ _ (hs m ((i + j) / 2) (by omega) hm) hc) hhi
       exact ⟨r, b, hr.succ fun k => by rw [E, if_pos (by simpa using hc)], h⟩
     . obtain ⟨r, b, hr, h⟩ := ih i ((i + j) / 2) (by omega) (by omega) (by omega) hlo (fun m hm2 hm3 h4 => by
         by_cases h3 : m = (i + j) / 2
         . rw [h3] at h4; exact hc h4
         . exact hc (A0Y _ _ _ (hs ((i + j) / 2) m (by omega) hm3) h4))
       exact ⟨r, b, hr.succ fun k => by rw [E, if_neg (by simpa using hc)], h⟩
 obtain ⟨r, b, hr, h⟩ := key xs.length 0 xs.length (by omega) (Nat.zero_le _) (Nat.le_refl _) (fun m hm => by omega) (fun m h3 h4 => by omega);exact ⟨r, b, Am2.of _ _ _ (hr.of_eq fun k => rfl), h⟩
theorem Ad4.val (xs : List (List Int)) (t : List Int) (hs : A0V xs) (h1 : SmL xs) (h2 : t.length ≤ 1048576) : ∃ r : Int, Ad4.F (xs, t, ()) = some ((r, ()), ()) /\ (r < 0 ↔ t ∉ xs) := by
 obtain ⟨r, b, hr, h3, h4, -⟩ := binSearch.val xs t hs h1 h2;rw [Ad4.eq, Ad4.T, hr];simp only [Option.bind_some];cases b with
 | true => exact ⟨r, by rw [if_neg (by simp)], by simp [h4.1 rfl]; omega⟩
 | false => exact ⟨-1, by rw [if_pos (by simp)], by simp; intro h; exact absurd (h4.2 h) (by simp)⟩
theorem A1R {xs : List (List Int)} (hs : A0V xs) {i j : Nat} (hi : i < xs.length) (hj : j < xs.length) (h : xs.getD i [] = xs.getD j []) : i = j := by
 rcases Nat.lt_trichotomy i j with h1 | h1 | h1
 . have := hs i j h1 hj;rw [h, (A0L _ _).2 rfl] at this; omega
 . exact h1
 . have := hs j i h1 hi;rw [h, (A0L _ _).2 rfl] at this; omega
theorem Ad4.val2 (xs : List (List Int)) (j : Nat) (hj : j < xs.length) (hs : A0V xs) (h1 : SmL xs) : Ad4.F (xs, xs.getD j [], ()) = some (((j : Int), ()), ()) := by
 obtain ⟨r, b, hr, h3, h4, h5⟩ := binSearch.val xs (xs.getD j []) hs h1 (h1.2 _ (A0z _ hj));have hb : b = true := h4.2 (A0z _ hj);obtain ⟨h6, h7⟩ := h5 hb;have := A1R hs h6 hj h7;rw [Ad4.eq, Ad4.T, hr, hb];simp only [Option.bind_some, Bool.not_true, Bool.false_eq_true, if_false];rw [show r = (j : Int) by omega]
theorem Af0.same (xs ys : List Int) (h : Sm xs) : ∃ b, Af0.F (xs, ys, ()) = some ((b, ()), ()) /\ (b = true ↔ xs = ys) := by
 have hn : xs.length ≤ 1048576 := h;by_cases hl : xs.length = ys.length
 . obtain ⟨b, hb, hb'⟩ := A0X (fun k i => Af0.l4 k xs ys (i : Int)) xs ys 0 hl (fun i hi => ⟨xs.getD i 0 == ys.getD i 0, by simp, fun k => by
     rw [Af0.l4_eq, if_pos (ltI.2 hi), if_pos (idxI.2 hi), if_pos (idx2 (hl ▸ hi))]; simp only [Int.toNat_natCast]; rw [A0y (by omega)]; rfl⟩) (fun k => by rw [Af0.l4_eq, if_neg (by simp)])
   exact ⟨b, Af0.of _ _ (hb.of_eq fun k => by rw [Af0.T, if_neg (by simp [hl])]; rfl), hb'⟩
 . exact ⟨false, Af0.of _ _ ((Ev.const _).of_eq fun k => by rw [Af0.T, if_pos (by simp; omega)]), by simp; intro e; exact hl (by rw [e])⟩
def A0F (s : List Int) (k : Nat) : List Int := s.take k ++ s.drop (k + 1)
theorem A0N {s : List Int} {k : Nat} (h : k < s.length) : (A0F s k).length = s.length - 1 := by simp [A0F]; omega
def A1v (s : List Int) : Prop := (1 ≤ s.length /\ s.length ≤ 4) /\ A0J 0 9 s /\ A2d s
def CplxOk (c : List (List Int)) : Prop := c.length ≤ 48 /\ ∀ i, i < c.length -> A1v (c.getD i []) /\ (0 < i -> cmpS (c.getD (i - 1) []) (c.getD i []) < 0) /\ (1 < (c.getD i []).length -> ∀ k, k < (c.getD i []).length -> A0F (c.getD i []) k ∈ c)
theorem CplxOk.sorted {c : List (List Int)} (h : CplxOk c) : A0V c := A1Q fun i h0 hi => (h.2 i hi).2.1 h0
theorem CplxOk.small {c : List (List Int)} (h : CplxOk c) : SmL c := ⟨by have := h.1; omega, fun x hx => by
 obtain ⟨j, hj, rfl⟩ := List.getElem_of_mem hx;have := (h.2 j hj).1.1.2;rw [A0x hj] at this;unfold Sm; omega⟩
theorem Ac1.val (c : List (List Int)) (s : List Int) (h : SmL c) : ∃ r : Int, Ac1.F (c, s, ()) = some ((r, ()), ()) /\ (r < 0 ↔ s ∉ c) := by
 have hn := h.1;obtain ⟨v, hv, r, hv', hr⟩ := Ev.loop (σ := Unit) (R := (Int × Unit) × Unit) (fun k i _ => Ac1.l2 k c s (i : Int)) c.length (fun i _ => ∀ j, j < i -> c.getD j [] ≠ s) (fun v => ∃ r : Int, v = ((r, ()), ()) /\ (r < 0 ↔ s ∉ c))
   (fun i _ hi hI => by
     have E := fun k => Ac1.l2_eq k c s (i : Int);obtain ⟨b, hb, hb'⟩ := Af0.same (c.getD i []) s (h.2 _ (A0z _ hi));simp only [if_pos (ltI.2 hi), if_pos (idxI.2 hi), Int.toNat_natCast, hb, Option.bind_some, A0y (show i < 4611686018427387904 by omega)] at E;cases b with
     | true =>
       have hm : s ∈ c := hb'.1 rfl ▸ A0z [] hi;exact .inl ⟨_, (Ev.const _).succ fun k => by rw [E, if_pos rfl], _, rfl, by simp [hm]⟩
     | false =>
       refine .inr ⟨(), fun j hj => ?_, Goes.succ fun k => by rw [E, if_neg (by simp)]⟩;by_cases hji : j = i
       . rw [hji]; exact fun e => absurd (hb'.2 e) (by simp)
       . exact hI j (by omega))
   (fun _ hI => ⟨_, (Ev.const _).succ fun k => by rw [Ac1.l2_eq, if_neg (by simp)], _, rfl, by
     have : s ∉ c := fun hm => by
       obtain ⟨j, hj, e⟩ := List.getElem_of_mem hm;exact hI j hj (by rw [A0x hj]; exact e)
     simp [this]⟩) 0 () (Nat.zero_le _) (by intro j hj; omega)
 subst hv';exact ⟨r, Ac1.of _ _ (hv.of_eq fun k => rfl), hr⟩
theorem Ac1.val2 (c : List (List Int)) (n : Nat) (hn : n < c.length) (hs : A0V c) (h : SmL c) : Ac1.F (c, c.getD n [], ()) = some (((n : Int), ()), ()) := by
 have hl := h.1;obtain ⟨v, hv, hv'⟩ := Ev.loop (σ := Unit) (R := (Int × Unit) × Unit) (fun k i _ => Ac1.l2 k c (c.getD n []) (i : Int)) c.length (fun i _ => i ≤ n) (fun v => v = (((n : Int), ()), ()))
   (fun i _ hi hI => by
     have E := fun k => Ac1.l2_eq k c (c.getD n []) (i : Int);obtain ⟨b, hb, hb'⟩ := Af0.same (c.getD i []) (c.getD n []) (h.2 _ (A0z _ hi));simp only [if_pos (ltI.2 hi), if_pos (idxI.2 hi), Int.toNat_natCast, hb, Option.bind_some, A0y (show i < 4611686018427387904 by omega)] at E;cases b with
     | true =>
       have := A1R hs hi hn (hb'.1 rfl);exact .inl ⟨_, (Ev.const _).succ fun k => by rw [E, if_pos rfl], by rw [this]⟩
     | false =>
       refine .inr ⟨(), ?_, Goes.succ fun k => by rw [E, if_neg (by simp)]⟩;have : i ≠ n := fun e => absurd (hb'.2 (by rw [e])) (by simp);omega)
   (fun _ hI => by omega) 0 () (Nat.zero_le _) (Nat.zero_le _)
 subst hv';exact Ac1.of _ _ (hv.of_eq fun k => rfl)
theorem cutA (s : List Int) (k : Nat) : cutL s (0 : Int) (k : Int) = s.take k := by simp [cutL]
theorem cutB (s : List Int) (k : Nat) : cutL s ((k : Nat) : Int) (s.length : Int) = s.drop k := by simp [cutL]
theorem Af4.val (s : List Int) (k : Nat) (hk : k < s.length) (hs : s.length ≤ 1048576) : Af4.F (s, (k : Int), ()) = some ((A0F s k, ()), ()) := by
 rw [Af4.eq, Af4.T, if_pos (by omega), cutA, Ab5.eq, Ab5.T, if_pos (by simp only [List.length_nil, List.length_take, bigA]; omega)];simp only [Option.bind_some];rw [A0y (by omega), if_pos (by omega), cutB, if_pos (by simp only [List.nil_append, List.length_take, List.length_drop, bigA]; omega)];rfl
theorem Ae6.val2 (a b : List Int) (ha : a.length ≤ 1048576) (hb : b.length ≤ 1048576) : Ae6.F ([a, b], ()) = some ((a ++ b, ()), ()) := by
 have w1 : IntKind.i64.wrap (0 + (a.length : Int)) = (a.length : Int) := by rw [A0v (by omega) (by omega)]; omega
 have w2 : IntKind.i64.wrap ((a.length : Int) + (b.length : Int)) = (a.length : Int) + (b.length : Int) := A0v (by omega) (by omega);have w3 : IntKind.i64.wrap ((0 : Int) + 1) = 1 := A0v (by omega) (by omega);have w4 : IntKind.i64.wrap ((1 : Int) + 1) = 2 := A0v (by omega) (by omega);refine Ae6.of _ ⟨6, fun k hk => ?_⟩;obtain ⟨k, rfl⟩ : ∃ j, k = j + 1 + 1 + 1 + 1 + 1 + 1 := ⟨k - 6, by omega⟩;show Ae6.T (k + 1 + 1 + 1 + 1 + 1 + 1) [a, b] = _;have e0 : ((([a, b] : List (List Int)).length : Nat) : Int) = 2 := rfl;rw [Ae6.T, e0, Ae6.l3_eq, if_pos (by decide), if_pos (by rw [e0]; decide)];simp only [Int.toNat_zero, List.getD_cons_zero, w1, w3];rw [if_neg (by simp only [decide_eq_true_eq]; omega), Ae6.l3_eq, if_pos (by decide), if_pos (by rw [e0]; decide)];simp only [show (1 : Int).toNat = 1 from rfl, List.getD_cons_succ, List.getD_cons_zero, w2, w4];rw [if_neg (by simp only [decide_eq_true_eq]; omega), Ae6.l3_eq, if_neg (by decide), if_pos (by simp only [bigN]; omega), e0, Ae6.l11_eq, if_pos (by decide), if_pos (by rw [e0]; decide)];simp only [Int.toNat_zero, List.getD_cons_zero, w3];rw [if_pos (by simp only [List.length_nil, bigA]; omega), Ae6.l11_eq, if_pos (by decide), if_pos (by rw [e0]; decide)];simp only [show (1 : Int).toNat = 1 from rfl, List.getD_cons_succ, List.getD_cons_zero, w4, List.nil_append];rw [if_pos (by simp only [bigA]; omega), Ae6.l11_eq, if_neg (by decide)]
def A0I (s : List Int) : List (List Int) := if 1 < s.length then (List.range s.length).map (A0F s) else []
theorem Ac6.val (s : List Int) (hs : s.length ≤ 1048576) : Ac6.F (s, ()) = some ((A0I s, ()), ()) := by
 by_cases h1 : 1 < s.length
 . obtain ⟨r, hr, hg⟩ := Goes.loop (R := (List (List Int) × Unit) × Unit) (fun k i (x : List (List Int)) => Ac6.l3 k s s.length (i : Int) x) s.length (fun i x => x = (List.range i).map (A0F s)) (fun i x hi hx => ⟨_, rfl, Goes.succ fun k => by
     rw [Ac6.l3_eq, if_pos (ltI.2 hi), if_pos (by simp; omega), if_pos (by omega), A0y (by omega), if_pos (by omega), cutA, cutB, Ae6.val2 _ _ (by simp; omega) (by simp; omega)];simp only [Option.bind_some];rw [if_pos (by rw [hx]; simp only [List.length_map, List.length_range, List.length_cons, List.length_nil, bigA]; omega), hx, List.range_succ, List.map_append];rfl⟩) 0 [] (Nat.zero_le _) rfl
   have : A0I s = r := by rw [A0I, if_pos h1, hr]
   rw [this];exact Ac6.of _ ((hg _ ((Ev.const _).succ fun k => by rw [Ac6.l3_eq, if_neg (by simp)])).of_eq fun k => rfl)
 . obtain ⟨r, hr, hg⟩ := Goes.loop (R := (List (List Int) × Unit) × Unit) (fun k i (x : List (List Int)) => Ac6.l3 k s s.length (i : Int) x) s.length (fun i x => x = []) (fun i x hi hx => ⟨_, hx, Goes.succ fun k => by
     rw [Ac6.l3_eq, if_pos (ltI.2 hi), if_neg (by simp; omega), A0y (by omega)]⟩) 0 [] (Nat.zero_le _) rfl
   have : A0I s = r := by rw [A0I, if_neg h1, hr]
   rw [this];exact Ac6.of _ ((hg _ ((Ev.const _).succ fun k => by rw [Ac6.l3_eq, if_neg (by simp)])).of_eq fun k => rfl)
theorem Ak6.val (s : List Int) (hs : s.length ≤ 1048576) : ∃ v, Ak6.F (s, ()) = some ((v, ()), ()) /\ (v = true ↔ A1v s) := by
 obtain ⟨v1, h1, h1'⟩ := Ag1.val s (by omega);have h2 := Ad7.val s (An0.cloG (())) (fun a => !decide (0 ≤ a /\ a ≤ 9)) (fun a _ => by
   show (An0.F (a, ())).map (·.1) = _;rw [An0.eq, An0.T, An8.eq, An8.T, Aa7.val]; rfl) (by omega)
 rw [Ak6.eq, Ak6.T, h1, h2];simp only [Option.bind_some];unfold A1v;by_cases g1 : 1 ≤ s.length
 . by_cases g2 : s.length ≤ 4
   . rw [if_pos (by simp; omega), if_pos (by simp; omega)];cases v1 with
     | true =>
       refine ⟨_, by rw [if_pos rfl], ?_⟩;have hr := h1'.1 rfl;simp only [Bool.not_eq_true', List.any_eq_false, Bool.not_eq_eq_eq_not, Bool.not_true, A0J, g1, g2, hr, and_self, and_true, true_and];simp
     | false => exact ⟨false, by rw [if_neg (by simp)], by simp; intro _ _ _ hr; exact absurd (h1'.2 hr) (by simp)⟩
   . exact ⟨false, by rw [if_pos (by simp; omega), if_neg (by simp; omega)], by simp; intro _ h; omega⟩
 . exact ⟨false, by rw [if_neg (by simp; omega)], by simp; intro h; omega⟩
theorem Am4.val (s : List Int) (hs : s.length ≤ 1048576) : ∃ v, Am4.F (s, ()) = some ((v, ()), ()) /\ (v = true ↔ A1v s) := by
 obtain ⟨v1, h1, h1'⟩ := Aj4.val s 0 9 (by omega);rw [Am4.eq, Am4.T, h1, Aa4.val];simp only [Option.bind_some];unfold A1v;by_cases g : 1 ≤ (s.length : Int) /\ (s.length : Int) ≤ 4
 . rw [if_pos (by simp only [decide_eq_true_eq]; exact g)];exact ⟨v1, rfl, h1'.trans ⟨fun h => ⟨by omega, h⟩, fun h => h.2⟩⟩
 . exact ⟨false, by rw [if_neg (by simp only [decide_eq_true_eq]; exact g)], by simp; intro a b; omega⟩
theorem Aa5.val (c : List (List Int)) (h : SmL c) : ∃ v, Aa5.F (c, ()) = some ((v, ()), ()) /\ (v = true ↔ CplxOk c) := by
 by_cases hn : c.length ≤ 48
 . obtain ⟨v, hv, hv'⟩ := Ev.loop (σ := Unit) (R := (Bool × Unit) × Unit) (fun k i _ => Aa5.l4 k c (i : Int)) c.length (fun i _ => ∀ j, j < i -> A1v (c.getD j []) /\ (0 < j -> cmpS (c.getD (j - 1) []) (c.getD j []) < 0) /\ (1 < (c.getD j []).length -> ∀ k, k < (c.getD j []).length -> A0F (c.getD j []) k ∈ c)) (fun r => ∃ v, r = ((v, ()), ()) /\ (v = true ↔ CplxOk c))
     (fun i _ hi hI => by
       have hsm : (c.getD i []).length ≤ 1048576 := h.2 _ (A0z _ hi);obtain ⟨s, hs⟩ : ∃ s, c.getD i [] = s := ⟨_, rfl⟩;have E := fun k => Aa5.l4_eq k c (i : Int);obtain ⟨b, hb, hb'⟩ := Am4.val s (hs ▸ hsm);rw [hs] at hsm;simp only [if_pos (ltI.2 hi), if_pos (idxI.2 hi), Int.toNat_natCast, hs, hb, Option.bind_some] at E;have bad : (¬ (A1v s /\ (0 < i -> cmpS (c.getD (i - 1) []) s < 0) /\ (1 < s.length -> ∀ k, k < s.length -> A0F s k ∈ c))) -> ∃ v, (((false, ()), ()) : (Bool × Unit) × Unit) = ((v, ()), ()) /\ (v = true ↔ CplxOk c) := fun hno => ⟨false, rfl, by simp; intro hc; exact hno (by have := hc.2 i hi; rw [hs] at this; exact this)⟩;cases b with
       | false => exact .inl ⟨_, (Ev.const _).succ fun k => by rw [E]; rfl, bad fun hc => absurd (hb'.2 hc.1) (by simp)⟩
       | true =>
         have hsimp := hb'.1 rfl;simp only [Bool.not_true, Bool.false_eq_true, if_false] at E;have inner : (∃ r, Ev (fun k => Aa5.l10 k c (i : Int) s ((0 : Nat) : Int)) r /\ r = ((false, ()), ()) /\ ¬ (1 < s.length -> ∀ k, k < s.length -> A0F s k ∈ c)) ∨ ((1 < s.length -> ∀ k, k < s.length -> A0F s k ∈ c) /\ Goes (fun k => Aa5.l10 k c (i : Int) s ((0 : Nat) : Int)) (fun k => Aa5.l4 k c ((i + 1 : Nat) : Int))) := by
           by_cases h1 : 1 < s.length
           . by_cases hall : ∀ k, k < s.length -> A0F s k ∈ c
             . refine .inr ⟨fun _ => hall, ?_⟩;obtain ⟨_, _, hg⟩ := Goes.loop (σ := Unit) (R := (Bool × Unit) × Unit) (fun k j _ => Aa5.l10 k c (i : Int) s (j : Int)) s.length (fun _ _ => True) (fun j _ hj _ => ⟨(), trivial, Goes.succ fun k => by
                 obtain ⟨r, hr, hr'⟩ := Ac1.val c (A0F s j) h;rw [Aa5.l10_eq, if_pos (ltI.2 hj), if_pos (by simp; omega), Af4.val s j hj hsm];simp only [Option.bind_some, hr];rw [if_neg (by simp only [decide_eq_true_eq, hr']; exact fun hh => hh (hall j hj)), A0y (by omega)]⟩) 0 () (Nat.zero_le _) trivial
               exact hg.trans (Goes.succ fun k => by rw [Aa5.l10_eq, if_neg (by simp), A0y (by omega)])
             . left;obtain ⟨v, hv, hv'⟩ := Ev.loop (σ := Unit) (R := (Bool × Unit) × Unit) (fun k j _ => Aa5.l10 k c (i : Int) s (j : Int)) s.length (fun j _ => ∀ k, k < j -> A0F s k ∈ c) (fun r => r = ((false, ()), ())) (fun j _ hj hJ => by
                 obtain ⟨r, hr, hr'⟩ := Ac1.val c (A0F s j) h;have E2 := fun k => Aa5.l10_eq k c (i : Int) s (j : Int);simp only [if_pos (ltI.2 hj), if_pos (show decide ((s.length : Int) > 1) = true by simp; omega), Af4.val s j hj hsm, Option.bind_some, hr, A0y (show j < 4611686018427387904 by omega)] at E2;by_cases hd : A0F s j ∈ c
                 . refine .inr ⟨(), fun k hk => ?_, Goes.succ fun k => by rw [E2, if_neg (by simp only [decide_eq_true_eq, hr']; exact fun hh => hh hd)]⟩;by_cases hkj : k = j
                   . rw [hkj]; exact hd
                   . exact hJ k (by omega)
                 . exact .inl ⟨_, (Ev.const _).succ fun k => by rw [E2, if_pos (by simp only [decide_eq_true_eq, hr']; exact hd)], rfl⟩) (fun _ hJ => absurd hJ hall) 0 () (Nat.zero_le _) (by intro k hk; omega)
               exact ⟨v, hv, hv', fun hh => hall (hh h1)⟩
           . refine .inr ⟨fun hh => absurd hh h1, Goes.succ fun k => ?_⟩;rw [Aa5.l10_eq];by_cases h0 : (0 : Nat) < s.length
             . rw [if_pos (ltI.2 h0), if_neg (by simp; omega), A0y (by omega)]
             . rw [if_neg (by simp only [decide_eq_true_eq]; omega), A0y (by omega)]
         have pre : ((0 < i -> cmpS (c.getD (i - 1) []) s < 0) /\ ∀ k, Aa5.l4 (k + 1) c (i : Int) = Aa5.l10 k c (i : Int) s ((0 : Nat) : Int)) ∨ ((∀ k, Aa5.l4 (k + 1) c (i : Int) = some ((false, ()), ())) /\ ¬ (0 < i -> cmpS (c.getD (i - 1) []) s < 0)) := by
           by_cases h0 : 0 < i
           . have h1 : i - 1 < c.length := by omega
             simp only [if_pos (show decide ((i : Int) > 0) = true by simp; omega), A2b h0 (show i < 4611686018427387904 by omega), if_pos (idxI.2 h1), Int.toNat_natCast, Ah0.val _ s (h.2 _ (A0z _ h1)), Option.bind_some] at E;by_cases hlt : cmpS (c.getD (i - 1) []) s < 0
             . exact .inl ⟨fun _ => hlt, fun k => by rw [E, if_neg (by simp only [decide_eq_true hlt]; simp)]; rfl⟩
             . exact .inr ⟨fun k => by rw [E, if_pos (by simp only [decide_eq_false hlt]; rfl)], fun hh => hlt (hh h0)⟩
           . simp only [if_neg (show ¬ decide ((i : Int) > 0) = true by simp; omega)] at E;exact .inl ⟨fun h => absurd h h0, fun k => by rw [E]; rfl⟩
         rcases pre with ⟨hlt, E3⟩ | ⟨E4, hno⟩
         . rcases inner with ⟨r, hr, rfl, hno⟩ | ⟨hyes, hg⟩
           . exact .inl ⟨_, hr.succ E3, bad fun hc => hno hc.2.2⟩
           . refine .inr ⟨(), fun j hj => ?_, (Goes.succ E3).trans hg⟩;by_cases hji : j = i
             . rw [hji, hs]; exact ⟨hsimp, hlt, hyes⟩
             . exact hI j (by omega)
         . exact .inl ⟨_, (Ev.const _).succ E4, bad fun hc => hno hc.2.1⟩)
     (fun _ hI => ⟨_, (Ev.const _).succ fun k => by rw [Aa5.l4_eq, if_neg (by simp)], true, rfl, by simp; exact ⟨hn, hI⟩⟩) 0 () (Nat.zero_le _) (by intro j hj; omega)
   obtain ⟨b, rfl, hb⟩ := hv';exact ⟨b, Aa5.of _ (hv.of_eq fun k => by rw [Aa5.T, if_neg (by simp; omega)]; rfl), hb⟩
 . exact ⟨false, Aa5.of _ ((Ev.const _).of_eq fun k => by rw [Aa5.T, if_pos (by simp; omega)]), by simp; intro hc; exact hn hc.1⟩
theorem mem_faces {s f : List Int} : f ∈ A0I s ↔ 1 < s.length /\ ∃ k, k < s.length /\ A0F s k = f := by
 unfold A0I;by_cases h : 1 < s.length
 . rw [if_pos h]; simp [h]
 . rw [if_neg h]; simp [h]
theorem A1I {c : List (List Int)} {i m : Nat} (h : m < i) : (c.take i).getD m [] = c.getD m [] := by
 simp only [List.getD_eq_getElem?_getD, List.getElem?_take, h, if_true]
theorem A2q {c : List (List Int)} {i m : Nat} (h : m < i) (hm : m < c.length) : c.getD m [] ∈ c.take i := by
 rw [<- A1I h];exact A0z [] (by simp; omega)
def OkAt (c : List (List Int)) (j : Nat) : Prop := A1v (c.getD j []) /\ (0 < j -> cmpS (c.getD (j - 1) []) (c.getD j []) < 0) /\ ∀ f ∈ A0I (c.getD j []), f ∈ c.take j
theorem A1X (c : List (List Int)) : (c.length ≤ 48 /\ ∀ j, j < c.length -> OkAt c j) ↔ CplxOk c := by
 constructor
 . rintro ⟨h1, h2⟩;refine ⟨h1, fun i hi => ⟨(h2 i hi).1, (h2 i hi).2.1, fun hl k hk => List.mem_of_mem_take ((h2 i hi).2.2 _ (mem_faces.2 ⟨hl, k, hk, rfl⟩))⟩⟩
 . intro h;refine ⟨h.1, fun j hj => ⟨(h.2 j hj).1, (h.2 j hj).2.1, fun f hf => ?_⟩⟩;obtain ⟨hl, k, hk, rfl⟩ := mem_faces.1 hf;have hm := (h.2 j hj).2.2 hl k hk;obtain ⟨m, hm1, e⟩ := List.getElem_of_mem hm;have e' : c.getD m [] = A0F (c.getD j []) k := by rw [A0x hm1]; exact e
   have hlen := A0N hk;have hshort : cmpS (A0F (c.getD j []) k) (c.getD j []) < 0 := A2P (by omega);by_cases hmj : m < j
   . rw [<- e']; exact A2q hmj hm1
   . exfalso;by_cases hmj2 : m = j
     . rw [hmj2] at e';rw [<- e', (A0L _ _).2 rfl] at hshort; omega
     . have h3 := h.sorted j m (by omega) hm1;rw [e'] at h3;have := A0Y _ _ _ hshort h3;rw [(A0L _ _).2 rfl] at this; omega
theorem Af7.val (c : List (List Int)) (h : SmL c) : ∃ v, Af7.F (c, ()) = some ((v, ()), ()) /\ (v = true ↔ CplxOk c) := by
 have hn := h.1;obtain ⟨v, hv, hv'⟩ := Ev.loop (σ := Unit) (R := (Bool × Unit) × Unit) (fun k i _ => Af7.l2 k c c.length (i : Int) c) c.length (fun i _ => ∀ j, j < i -> OkAt c j) (fun r => ∃ v, r = ((v, ()), ()) /\ (v = true ↔ c.length ≤ 48 /\ ∀ j, j < c.length -> OkAt c j))
   (fun i _ hi hI => by
     have hsm : (c.getD i []).length ≤ 1048576 := h.2 _ (A0z _ hi);have hsorted : A0V (c.take i) := A1Q fun m h0 hm => by
       have hm' : m < i := by simp at hm; omega
       rw [A1I (by omega), A1I hm'];exact (hI m hm').2.1 h0
     have hsmall : SmL (c.take i) := ⟨by simp; omega, fun x hx => h.2 x (List.mem_of_mem_take hx)⟩;have hclo : ∀ f : List Int, f.length ≤ 1048576 -> Ak5.cloG (c, (i : Int), ()) (f, ()) = some (decide (f ∉ c.take i), ()) := fun f hf => by
       show (Ak5.F (f, c, (i : Int), ())).map (·.1) = _;obtain ⟨r, hr, hr'⟩ := Ad4.val (c.take i) f hsorted hsmall hf;rw [Ak5.eq, Ak5.T, if_pos (by omega)];have : cutL c (0 : Int) (i : Int) = c.take i := by simp [cutL]
       rw [this, hr];simp only [Option.bind_some, Option.map_some, hr']
     obtain ⟨s, hs⟩ : ∃ s, c.getD i [] = s := ⟨_, rfl⟩;have E := fun k => Af7.l2_eq k c c.length (i : Int) c;obtain ⟨b, hb, hb'⟩ := Ak6.val s (hs ▸ hsm);rw [hs] at hsm;have hfl : ∀ f ∈ A0I s, f.length ≤ 1048576 := fun f hf => by
       obtain ⟨_, k, hk, rfl⟩ := mem_faces.1 hf;have := A0N hk; omega
     have hcf := Aj9.val (A0I s) (Ak5.cloG (c, (i : Int), ())) (fun f => decide (f ∉ c.take i)) (fun f hf => hclo f (hfl f hf)) (by
       unfold A0I; split
       . simp; omega
       . simp)
     simp only [if_pos (ltI.2 hi), if_pos (idxI.2 hi), Int.toNat_natCast, hs, hb, Option.bind_some, Ac6.val s hsm, hcf, A0y (show i < 4611686018427387904 by omega)] at E;have bad : ¬ OkAt c i -> ∃ v, (((false, ()), ()) : (Bool × Unit) × Unit) = ((v, ()), ()) /\ (v = true ↔ c.length ≤ 48 /\ ∀ j, j < c.length -> OkAt c j) := fun hno => ⟨false, rfl, by simp only [Bool.false_eq_true, false_iff]; exact fun hc => hno (hc.2 i hi)⟩;cases b with
     | false => exact .inl ⟨_, (Ev.const _).succ fun k => by rw [E]; rfl, bad fun hc => absurd (hb'.2 (hs ▸ hc.1)) (by simp)⟩
     | true =>
       have hsimp := hb'.1 rfl;simp only [Bool.not_true, Bool.false_eq_true, if_false] at E;have pre : ((0 < i -> cmpS (c.getD (i - 1) []) s < 0) /\ ∀ k, Af7.l2 (k + 1) c c.length (i : Int) c = if ((A0I s).any fun f => decide (f ∉ c.take i)) = true then some ((false, ()), ()) else Af7.l2 k c c.length ((i + 1 : Nat) : Int) c) ∨ ((∀ k, Af7.l2 (k + 1) c c.length (i : Int) c = some ((false, ()), ())) /\ ¬ (0 < i -> cmpS (c.getD (i - 1) []) s < 0)) := by
         by_cases h0 : 0 < i
         . have h1 : i - 1 < c.length := by omega
           simp only [if_pos (show decide ((i : Int) > 0) = true by simp; omega), A2b h0 (show i < 4611686018427387904 by omega), if_pos (idxI.2 h1), Int.toNat_natCast, Ad2.val _ s (h.2 _ (A0z _ h1)) hsm, Option.bind_some] at E;by_cases hlt : cmpS (c.getD (i - 1) []) s < 0
           . exact .inl ⟨fun _ => hlt, fun k => by rw [E, if_neg (by simp only [decide_eq_true_eq]; omega)]⟩
           . exact .inr ⟨fun k => by rw [E, if_pos (by simp only [decide_eq_true_eq]; omega)], fun hh => hlt (hh h0)⟩
         . simp only [if_neg (show ¬ decide ((i : Int) > 0) = true by simp; omega)] at E;exact .inl ⟨fun h => absurd h h0, fun k => by rw [E]⟩
       rcases pre with ⟨hlt, E3⟩ | ⟨E4, hno⟩
       . by_cases hf : ∀ f ∈ A0I s, f ∈ c.take i
         . refine .inr ⟨(), fun j hj => ?_, Goes.succ fun k => by rw [E3, if_neg (by simp only [List.any_eq_true, decide_eq_true_eq, not_exists, not_and, Classical.not_not]; exact hf)]⟩;by_cases hji : j = i
           . rw [hji]; exact ⟨hs ▸ hsimp, fun h0 => by rw [hs]; exact hlt h0, fun f hff => hf f (hs ▸ hff)⟩
           . exact hI j (by omega)
         . refine .inl ⟨_, (Ev.const _).succ fun k => by rw [E3, if_pos (by simp only [List.any_eq_true, decide_eq_true_eq]; simpa using hf)], bad fun hc => hf fun f hff => hc.2.2 f (hs ▸ hff)⟩
       . exact .inl ⟨_, (Ev.const _).succ E4, bad fun hc => hno (by have := hc.2.1; rw [hs] at this; exact this)⟩)
   (fun _ hI => ⟨_, (Ev.const _).succ fun k => by rw [Af7.l2_eq, if_neg (by simp)], _, rfl, by simp only [decide_eq_true_eq]; exact ⟨fun h1 => ⟨by omega, hI⟩, fun h1 => by omega⟩⟩) 0 () (Nat.zero_le _) (by intro j hj; omega)
 obtain ⟨b, rfl, hb⟩ := hv';exact ⟨b, Af7.of _ (hv.of_eq fun k => rfl), hb.trans (A1X c)⟩
def A1B (c : List (List Int)) (f : List Int) : Nat := c.findIdx fun x => decide (x = f)
theorem A0a {c : List (List Int)} {f : List Int} (h : f ∈ c) : A1B c f < c.length /\ c.getD (A1B c f) [] = f := by
 have h1 : A1B c f < c.length := List.findIdx_lt_length_of_exists ⟨f, h, by simp⟩;refine ⟨h1, ?_⟩;rw [A0x h1];have := List.findIdx_getElem (p := fun x => decide (x = f)) (xs := c) (w := h1);exact of_decide_eq_true this
def fcs (c : List (List Int)) (i : Nat) : List Int := (A0I (c.getD i [])).map fun f => ((A1B c f : Nat) : Int)
theorem A0K (c : List (List Int)) (i : Nat) : (fcs c i).length = if 1 < (c.getD i []).length then (c.getD i []).length else 0 := by
 unfold fcs A0I;split <;> simp
theorem A2f {c : List (List Int)} (h : CplxOk c) {i : Nat} (hi : i < c.length) {x : Int} (hx : x ∈ fcs c i) : ∃ j : Nat, x = j /\ j < c.length := by
 simp only [fcs, List.mem_map] at hx;obtain ⟨f, hf, rfl⟩ := hx;have := ((A1X c).2 h).2 i hi;exact ⟨_, rfl, (A0a (List.mem_of_mem_take (this.2.2 f hf))).1⟩
theorem A1U {c : List (List Int)} (h : CplxOk c) {i : Nat} (hi : i < c.length) {f : List Int} (hf : f ∈ A0I (c.getD i [])) : f ∈ c :=
 List.mem_of_mem_take ((((A1X c).2 h).2 i hi).2.2 f hf)
theorem A3w {c : List (List Int)} (h : CplxOk c) {f : List Int} (hf : f ∈ c) : Ac1.F (c, f, ()) = some ((((A1B c f : Nat) : Int), ()), ()) := by
 obtain ⟨h1, h2⟩ := A0a hf;have := Ac1.val2 c (A1B c f) h1 h.sorted h.small
 rwa [h2] at this
theorem A2X {c : List (List Int)} (h : CplxOk c) {f : List Int} (hf : f ∈ c) : Ad4.F (c, f, ()) = some ((((A1B c f : Nat) : Int), ()), ()) := by
 obtain ⟨h1, h2⟩ := A0a hf;have := Ad4.val2 c (A1B c f) h1 h.sorted h.small
 rwa [h2] at this
theorem Ab8.val (c : List (List Int)) (h : CplxOk c) (i : Nat) (hi : i < c.length) : Ab8.F (c, (i : Int), ()) = some ((fcs c i, ()), ()) := by
 have h4 := (h.2 i hi).1.1.2;obtain ⟨s, hs⟩ : ∃ s, c.getD i [] = s := ⟨_, rfl⟩;rw [hs] at h4;have hmem : ∀ f ∈ A0I s, f ∈ c := fun f hf => A1U h hi (hs ▸ hf);have hfc : fcs c i = (A0I s).map fun f => ((A1B c f : Nat) : Int) := by rw [fcs, hs]
 refine Ab8.of _ _ (Ev.of_eq (N := fun k => Ab8.l4 k c s ((0 : Nat) : Int) []) ?_ fun k => by rw [Ab8.T, if_pos (by omega)]; simp only [Int.toNat_natCast, hs]; rfl);by_cases h1 : 1 < s.length
 . have hf : A0I s = (List.range s.length).map (A0F s) := by rw [A0I, if_pos h1]
   obtain ⟨x, hx, hg⟩ := Goes.loop (R := ((List Int × Unit) × Unit)) (fun k j (x : List Int) => Ab8.l4 k c s (j : Int) x) s.length (fun j x => x = ((List.range j).map (A0F s)).map fun f => ((A1B c f : Nat) : Int)) (fun j x hj h2 => ⟨_, rfl, Goes.succ fun k => by
     have hm : A0F s j ∈ c := hmem _ (by rw [hf]; exact List.mem_map.2 ⟨j, List.mem_range.2 hj, rfl⟩);rw [Ab8.l4_eq, if_pos (ltI.2 hj), if_pos (by simp only [decide_eq_true_eq]; omega), Af4.val s j hj (by omega)];simp only [Option.bind_some, A3w h hm];rw [if_pos (by rw [h2]; simp only [List.length_map, List.length_range, List.length_cons, List.length_nil, bigA]; omega), A0y (by omega), h2, List.range_succ, List.map_append, List.map_append];rfl⟩) 0 [] (Nat.zero_le _) rfl
   rw [hfc, hf];refine hg _ ((Ev.const _).succ fun k => ?_);rw [Ab8.l4_eq, if_neg (by simp), hx]
 . have hf : A0I s = [] := by rw [A0I, if_neg h1]
   rw [hfc, hf];refine (Ev.const _).succ fun k => ?_;rw [Ab8.l4_eq];by_cases h0 : (0 : Nat) < s.length
   . rw [if_pos (ltI.2 h0), if_neg (by simp only [decide_eq_true_eq]; omega)]; rfl
   . rw [if_neg (by simp only [decide_eq_true_eq]; omega)]; rfl
theorem A0g {c : List (List Int)} (h : CplxOk c) {i : Nat} (hi : i < c.length) : (A0I (c.getD i [])).length ≤ 4 := by
 have h4 := (h.2 i hi).1.1.2;unfold A0I; split
 . simpa using h4
 . simp
theorem Ab4.val (c : List (List Int)) (h : CplxOk c) (i : Nat) (hi : i < c.length) : Ab4.F (c, (i : Int), ()) = some ((fcs c i, ()), ()) := by
 have h4 := (h.2 i hi).1.1.2;have h5 := A0g h hi;obtain ⟨fs, hfs⟩ : ∃ fs, A0I (c.getD i []) = fs := ⟨_, rfl⟩;have hmem : ∀ f ∈ fs, f ∈ c := fun f hf => A1U h hi (hfs ▸ hf);have hfc : fcs c i = fs.map fun f => ((A1B c f : Nat) : Int) := by rw [fcs, hfs]
 rw [hfs] at h5;refine Ab4.of _ _ (Ev.of_eq (N := fun k => Ab4.l3 k (fs.length : Int) ((0 : Nat) : Int) c [] fs) ?_ fun k => by rw [Ab4.T, if_pos (by omega)]; simp only [Int.toNat_natCast]; rw [Ac6.val _ (by omega), hfs]; rfl);obtain ⟨x, hx, hg⟩ := Goes.loop (R := ((List Int × Unit) × Unit)) (fun k j (x : List Int) => Ab4.l3 k (fs.length : Int) (j : Int) c x fs) fs.length (fun j x => x = (fs.take j).map fun f => ((A1B c f : Nat) : Int)) (fun j x hj h2 => ⟨_, rfl, Goes.succ fun k => by
   rw [Ab4.l3_eq, if_pos (ltI.2 hj), if_pos (idxI.2 hj)];simp only [Int.toNat_natCast, A2X h (hmem _ (A0z [] hj)), Option.bind_some];rw [if_pos (by rw [h2]; simp only [List.length_map, List.length_take, List.length_cons, List.length_nil, bigA]; omega), A0y (by omega), h2, List.take_add_one, List.getElem?_eq_getElem hj, Option.toList_some, List.map_append, A0x hj];rfl⟩) 0 [] (Nat.zero_le _) rfl
 rw [List.take_of_length_le (Nat.le_refl _)] at hx;rw [hfc];refine hg _ ((Ev.const _).succ fun k => ?_);rw [Ab4.l3_eq, if_neg (by simp), hx]
def off (c : List (List Int)) : Nat -> Nat
 | 0 => 0
 | s + 1 => off c s + (fcs c s).length
def A3v (c : List (List Int)) (s : Nat) : List A2O := (List.range (fcs c s).length).map fun (j : Nat) => ((s : Int), (j : Int), (fcs c s).getD j 0)
def arr (c : List (List Int)) (n : Nat) : List A2O := (List.range n).flatMap (A3v c)
theorem A1S (c : List (List Int)) (n : Nat) : arr c (n + 1) = arr c n ++ A3v c n := by simp [arr, List.range_succ]
theorem A0P (c : List (List Int)) (n : Nat) : (arr c n).length = off c n := by
 induction n with
 | zero => rfl
 | succ n ih => rw [A1S, List.length_append, ih, A3v, List.length_map, List.length_range, off]
theorem A0l {c : List (List Int)} (h : CplxOk c) {n : Nat} (hn : n ≤ c.length) : off c n ≤ 4 * n := by
 induction n with
 | zero => exact Nat.le_refl _
 | succ n ih =>
   have h5 := A0g h (show n < c.length by omega);have := ih (by omega);have e : (fcs c n).length = (A0I (c.getD n [])).length := by simp [fcs]
   rw [off, e]; omega
theorem A2E (c : List (List Int)) {n s j : Nat} (hs : s < n) (hj : j < (fcs c s).length) : (arr c n).getD (off c s + j) (0, 0, 0) = ((s : Int), (j : Int), (fcs c s).getD j 0) := by
 induction n with
 | zero => omega
 | succ n ih =>
   rw [A1S, List.getD_eq_getElem?_getD];by_cases h : s < n
   . have hmono : ∀ a b, a ≤ b -> off c a ≤ off c b := fun a b hab => by
       induction hab with
       | refl => exact Nat.le_refl _
       | step _ ih => exact Nat.le_trans ih (Nat.le_add_right _ _)
     have h1 := hmono (s + 1) n (by omega);rw [off] at h1;rw [List.getElem?_append_left (by rw [A0P]; omega), <- List.getD_eq_getElem?_getD];exact ih h
   . obtain rfl : s = n := by omega
     rw [List.getElem?_append_right (by rw [A0P]; omega), A0P, show off c s + j - off c s = j by omega, A3v, List.getElem?_map, List.getElem?_range hj];rfl
theorem Ae4.val (c : List (List Int)) (h : CplxOk c) : Ae4.F (c, ()) = some ((arr c c.length, ()), ()) := by
 have hn := h.1;refine Ae4.of _ (Ev.of_eq (N := fun k => Ae4.l3 k (c.length : Int) ((0 : Nat) : Int) c []) ?_ fun k => by rw [Ae4.T, Ao1.eq, Ao1.T]; rfl);obtain ⟨x, hx, hg⟩ := Goes.loop (R := ((List A2O × Unit) × Unit)) (fun k i (x : List A2O) => Ae4.l3 k (c.length : Int) (i : Int) c x) c.length (fun i x => x = arr c i) (fun i x hi h2 => by
   have hoff := A0l h (show i ≤ c.length by omega);have h5 := A0g h hi;have e5 : (fcs c i).length = (A0I (c.getD i [])).length := by simp [fcs]
   refine ⟨_, rfl, (Goes.succ fun k => by rw [Ae4.l3_eq, if_pos (ltI.2 hi), Ab4.val c h i hi]).trans ?_⟩;obtain ⟨y, hy, hg2⟩ := Goes.loop (R := ((List A2O × Unit) × Unit)) (fun k j (y : List A2O) => Ae4.l6 k (i : Int) (c.length : Int) (i : Int) ((fcs c i).length : Int) (j : Int) c y (fcs c i)) (fcs c i).length (fun j y => y = arr c i ++ (List.range j).map fun (j : Nat) => ((i : Int), (j : Int), (fcs c i).getD j 0)) (fun j y hj h3 => ⟨_, rfl, Goes.succ fun k => by
     rw [Ae4.l6_eq, if_pos (ltI.2 hj), if_pos (idxI.2 hj), if_pos (by rw [h3]; simp only [List.length_append, List.length_map, List.length_range, List.length_cons, List.length_nil, A0P, bigA]; omega), A0y (by omega), h3, List.range_succ, List.map_append, List.append_assoc];simp only [Int.toNat_natCast];rfl⟩) 0 x (Nat.zero_le _) (by simp [h2])
   refine hg2.trans (Goes.succ fun k => ?_);rw [Ae4.l6_eq, if_neg (by simp), A0y (by omega), hy, A1S];rfl) 0 [] (Nat.zero_le _) rfl
 refine hg _ ((Ev.const _).succ fun k => ?_);rw [Ae4.l3_eq, if_neg (by simp), hx]
theorem Ac4.val (c : List (List Int)) (h : CplxOk c) (s : Nat) (hs : s ≤ c.length) (j : Nat) (hj : j ≤ 1000) : Ac4.F (c, (s : Int), (j : Int), ()) = some ((((off c s + j : Nat) : Int), ()), ()) := by
 have hn := h.1;have hos := A0l h hs;refine Ac4.of _ _ _ (Ev.of_eq (N := fun k => Ac4.l3 k c (s : Int) (j : Int) 0 ((0 : Nat) : Int)) ?_ fun k => rfl);obtain ⟨x, hx, hg⟩ := Goes.loop (R := ((Int × Unit) × Unit)) (fun k i (x : Int) => Ac4.l3 k c (s : Int) (j : Int) x (i : Int)) s (fun i x => x = (off c i : Int)) (fun i x hi h2 => ⟨_, rfl, Goes.succ fun k => by
   have hic : i < c.length := by omega
   have hoff := A0l h (show i ≤ c.length by omega);have h4 := (h.2 i hic).1.1.2;rw [Ac4.l3_eq, if_pos (ltI.2 hi), if_pos (idxI.2 hic)];simp only [Int.toNat_natCast];rw [off, A0K];by_cases h1 : 1 < (c.getD i []).length
   . rw [if_pos (by simp only [decide_eq_true_eq]; omega), if_pos (idxI.2 hic), if_pos h1, A0v (by omega) (by omega), A0y (by omega), h2];congr 1
   . rw [if_neg (by simp only [decide_eq_true_eq]; omega), if_neg h1, A0y (by omega), h2];rfl⟩) 0 0 (Nat.zero_le _) rfl
 refine hg _ ((Ev.const _).succ fun k => ?_);rw [Ac4.l3_eq, if_neg (by simp), hx, A0v (by omega) (by omega)];congr 3
def A0w (c : List (List Int)) (d : Int) (i : Nat) : List Int := ((List.range i).filter fun j => ((c.getD j []).length : Int) == d + 1).map fun (j : Nat) => (j : Int)
theorem A0c (c : List (List Int)) (d : Int) (i : Nat) : A0w c d (i + 1) = if ((c.getD i []).length : Int) == d + 1 then A0w c d i ++ [(i : Int)] else A0w c d i := by
 simp only [A0w, List.range_succ, List.filter_append, List.map_append];split
 . rename_i h; rw [List.filter_cons_of_pos (by exact h)]; simp
 . rename_i h; rw [List.filter_cons_of_neg (by exact h)]; simp
theorem A0E (c : List (List Int)) (d : Int) (i : Nat) : (A0w c d i).length ≤ i := by
 simp only [A0w, List.length_map];exact Nat.le_trans (List.length_filter_le _ _) (by simp)
theorem A1F {c : List (List Int)} {d : Int} {i : Nat} {x : Int} (h : x ∈ A0w c d i) : ∃ j : Nat, x = j /\ j < i := by
 simp only [A0w, List.mem_map, List.mem_filter, List.mem_range] at h;obtain ⟨j, ⟨h1, -⟩, rfl⟩ := h;exact ⟨j, rfl, h1⟩
theorem Ae9.val (c : List (List Int)) (d : Int) (hd : -1 ≤ d /\ d ≤ 1000) (hn : c.length ≤ 1048576) : Ae9.F (c, d, ()) = some ((A0w c d c.length, ()), ()) := by
 refine Ae9.of _ _ ?_;obtain ⟨s, hs, hg⟩ := Goes.loop (R := ((List Int × Unit) × Unit)) (fun k i (x : List Int) => Ae9.l3 k c d (i : Int) x) c.length (fun i x => x = A0w c d i) (fun i x hi h2 => ⟨_, rfl, Goes.succ fun k => by
   have hl := A0E c d i;rw [Ae9.l3_eq, if_pos (ltI.2 hi), if_pos (idxI.2 hi), A0v (x := d + 1) (by omega) (by omega), A0c];simp only [Int.toNat_natCast];by_cases h : (((c.getD i []).length : Int) == d + 1) = true
   . rw [if_pos h, if_pos h, if_pos (by rw [h2]; simp only [List.length_cons, List.length_nil, bigA]; omega), A0y (by omega), h2]
   . rw [if_neg h, if_neg h, A0y (by omega), h2]⟩) 0 [] (Nat.zero_le _) rfl
 refine Ev.of_eq (hg _ ((Ev.const _).succ fun k => ?_)) fun k => rfl;rw [Ae9.l3_eq, if_neg (by simp), hs]
theorem Ac8.val (c : List (List Int)) (d : Int) (hd : -1 ≤ d /\ d ≤ 1000) (hn : c.length ≤ 1048576) : Ac8.F (c, d, ()) = some ((A0w c d c.length, ()), ()) := by
 refine Ac8.of _ _ ?_;obtain ⟨s, hs, hg⟩ := Goes.loop (R := ((List Int × Unit) × Unit)) (fun k i (x : List Int) => Ac8.l3 k d c (c.length : Int) (i : Int) x) c.length (fun i x => x = A0w c d i) (fun i x hi h2 => ⟨_, rfl, Goes.succ fun k => by
   have hl := A0E c d i;rw [Ac8.l3_eq, if_pos (ltI.2 hi), if_pos (idxI.2 hi), A0v (x := d + 1) (by omega) (by omega), A0c, Aa6.eq, Aa6.T];simp only [Int.toNat_natCast, Option.bind_some];by_cases h : (((c.getD i []).length : Int) == d + 1) = true
   . rw [if_pos h, if_pos h, if_pos (by rw [h2]; simp only [List.length_cons, List.length_nil, bigA]; omega), A0y (by omega), h2]
   . rw [if_neg h, if_neg h, A0y (by omega), h2]⟩) 0 [] (Nat.zero_le _) rfl
 refine Ev.of_eq (hg _ ((Ev.const _).succ fun k => ?_)) fun k => rfl;rw [Ac8.l3_eq, if_neg (by simp), hs]
def sumL (st : List Int) (js : List Int) : Int := js.foldl (fun acc j => IntKind.i64.wrap (acc + st.getD j.toNat 0)) 0
theorem Ac2.val (c : List (List Int)) (st : List Int) (d : Int) (hd : -1 ≤ d /\ d ≤ 1000) (hn : c.length ≤ 1048576) (hs : st.length = c.length) : Ac2.F (c, st, d, ()) = some ((sumL st (A0w c d c.length), ()), ()) := by
 have hl := A0E c d c.length;refine Ac2.of _ _ _ (Ev.of_eq (N := fun k => Ac2.l4 k st 0 ((0 : Nat) : Int) (A0w c d c.length)) ?_ fun k => by rw [Ac2.T, Ae9.val c d hd hn]; rfl);refine Goes.foldl (L := fun k i s => Ac2.l4 k st s (i : Int) (A0w c d c.length)) (A0w c d c.length) 0 (fun acc j => IntKind.i64.wrap (acc + st.getD j.toNat 0)) (fun k i s hi => ?_) 0 _ ((Ev.const _).succ fun k => by rw [Ac2.l4_eq, if_neg (by simp)]; rfl);obtain ⟨j, hj, hjc⟩ := A1F (A0z (0 : Int) hi);rw [Ac2.l4_eq, if_pos (ltI.2 hi), if_pos (idxI.2 hi)];simp only [Int.toNat_natCast];rw [if_pos (by rw [hj]; omega), A0y (by omega)]
theorem Aa3.val (c : List (List Int)) (p : Int) (st : List Int) (ms : List MatV) (d : Int) (hd : -1 ≤ d /\ d ≤ 1000) (hn : c.length ≤ 1048576) (hs : st.length = c.length) : Aa3.F ((c, (p, (st, ms))), d, ()) = some ((sumL st (A0w c d c.length), ()), ()) := by
 have hl := A0E c d c.length;refine Aa3.of _ _ _ _ _ (Ev.of_eq (N := fun k => Aa3.l3 k 0 (A0w c d c.length).length ((0 : Nat) : Int) c p st ms (A0w c d c.length)) ?_ fun k => by rw [Aa3.T, Ac8.val c d hd hn]; rfl);refine Goes.foldl (L := fun k i s => Aa3.l3 k s (A0w c d c.length).length (i : Int) c p st ms (A0w c d c.length)) (A0w c d c.length) 0 (fun acc j => IntKind.i64.wrap (acc + st.getD j.toNat 0)) (fun k i s hi => ?_) 0 _ ((Ev.const _).succ fun k => by rw [Aa3.l3_eq, if_neg (by simp)]; rfl);obtain ⟨j, hj, hjc⟩ := A1F (A0z (0 : Int) hi);rw [Aa3.l3_eq, if_pos (ltI.2 hi), if_pos (idxI.2 hi)];simp only [Int.toNat_natCast];rw [if_pos (by rw [hj]; omega), A0y (by omega)]
def A2v (c : List (List Int)) (st : List Int) : Prop := st.length = c.length /\ A0J 0 3 st /\ ∀ k : Nat, k < 4 -> sumL st (A0w c k c.length) ≤ 32
theorem Ah1.val (c : List (List Int)) (st : List Int) (hn : c.length ≤ 1048576) (hs : st.length ≤ 1048576) : ∃ v, Ah1.F (c, st, ()) = some ((v, ()), ()) /\ (v = true ↔ A2v c st) := by
 obtain ⟨v1, h1, h1'⟩ := Ae8.val st (c.length : Int) 4 (by omega);rw [A0v (x := (4 : Int) - 1) (by omega) (by omega)] at h1';cases v1 with
 | false => exact ⟨false, Ah1.of _ _ ((Ev.const _).of_eq fun k => by rw [Ah1.T, h1]; rfl), by simp only [Bool.false_eq_true, false_iff]; exact fun h => absurd (h1'.2 ⟨by have := h.1; omega, h.2.1⟩) (by simp)⟩
 | true =>
   obtain ⟨hl, ha⟩ := h1'.1 rfl;obtain ⟨v, hv, hv'⟩ := Ev.allP (L := fun k i => Ah1.l4 k c st (i : Int)) (a := ()) (b := ()) (n := 4) (fun i => sumL st (A0w c i c.length) ≤ 32) true (fun i hi => by
     have E := fun k => Ah1.l4_eq k c st (i : Int);simp only [if_pos (show decide ((i : Int) ≤ 3) = true by simp; omega), Ac2.val c st (i : Int) (by omega) hn (by omega), Option.bind_some, A0y (show i < 4611686018427387904 by omega)] at E;by_cases h : sumL st (A0w c i c.length) ≤ 32
     . exact .inl ⟨h, fun k => by rw [E, if_neg (by simp only [decide_eq_true_eq]; omega)]⟩
     . exact .inr ⟨h, fun k => by rw [E, if_pos (by simp only [decide_eq_true_eq]; omega)]⟩) ((Ev.const _).succ fun k => by rw [Ah1.l4_eq, if_neg (by simp)]) 0 (Nat.zero_le _)
   exact ⟨v, Ah1.of _ _ (hv.of_eq fun k => by rw [Ah1.T, h1]; rfl), hv'.trans ⟨fun ⟨_, h⟩ => ⟨by omega, ha, fun k hk => h k (Nat.zero_le _) hk⟩, fun h => ⟨rfl, fun k _ hk => h.2.2 k hk⟩⟩⟩
theorem Ae3.val (c : List (List Int)) (st : List Int) (hn : c.length ≤ 1048576) (hs : st.length ≤ 1048576) : ∃ v, Ae3.F (c, st, ()) = some ((v, ()), ()) /\ (v = true ↔ A2v c st) := by
 by_cases hl : st.length = c.length
 . have hcf := Ad7.val st (An1.cloG (())) (fun a => !decide (0 ≤ a /\ a ≤ 3)) (fun a _ => by
     show (An1.F (a, ())).map (·.1) = _;rw [An1.eq, An1.T, Aa7.val]; rfl) (by omega)
   by_cases ha : A0J 0 3 st
   . have hany : (st.any fun a => !decide (0 ≤ a /\ a ≤ 3)) = false := by
       simp only [List.any_eq_false]; intro x hx; simp only [Bool.not_eq_true', decide_eq_false_iff_not, Classical.not_not]; exact ha x hx
     obtain ⟨v, hv, hv'⟩ := Ev.allP (L := fun k i => Ae3.l4 k st (i : Int) c) (a := ()) (b := ()) (n := 4) (fun i => sumL st (A0w c i c.length) ≤ 32) true (fun i hi => by
       have E := fun k => Ae3.l4_eq k st (i : Int) c;simp only [if_pos (show decide ((i : Int) < 4) = true by simp; omega), Aa3.val c 0 st [] (i : Int) (by omega) hn (by omega), Option.bind_some, A0y (show i < 4611686018427387904 by omega)] at E;by_cases h : sumL st (A0w c i c.length) ≤ 32
       . exact .inl ⟨h, fun k => by rw [E, if_neg (by simp only [decide_eq_true_eq]; omega)]⟩
       . exact .inr ⟨h, fun k => by rw [E, if_pos (by simp only [decide_eq_true_eq]; omega)]⟩) ((Ev.const _).succ fun k => by rw [Ae3.l4_eq, if_neg (by simp)]) 0 (Nat.zero_le _)
     exact ⟨v, Ae3.of _ _ (hv.of_eq fun k => by rw [Ae3.T, if_neg (by simp [hl]), hcf, hany]; rfl), hv'.trans ⟨fun ⟨_, h⟩ => ⟨hl, ha, fun k hk => h k (Nat.zero_le _) hk⟩, fun h => ⟨rfl, fun k _ hk => h.2.2 k hk⟩⟩⟩
   . have hany : (st.any fun a => !decide (0 ≤ a /\ a ≤ 3)) = true := by
       refine Classical.byContradiction fun hc => ha fun x hx => ?_;simp only [Bool.not_eq_true, List.any_eq_false, Bool.not_eq_true', decide_eq_false_iff_not, Classical.not_not] at hc;exact hc x hx
     exact ⟨false, Ae3.of _ _ ((Ev.const _).of_eq fun k => by rw [Ae3.T, if_neg (by simp [hl]), hcf, hany]; rfl), by simp only [Bool.false_eq_true, false_iff]; exact fun h => ha h.2.1⟩
 . exact ⟨false, Ae3.of _ _ ((Ev.const _).of_eq fun k => by rw [Ae3.T, if_pos (by simp; omega)]), by simp only [Bool.false_eq_true, false_iff]; exact fun h => hl h.1⟩
def A2x (c : List (List Int)) (p : Int) (st : List Int) (m : MatV) (i j : Nat) : Prop := MatOk m /\ m.1 = p /\ m.2.1 = st.getD i 0 /\ m.2.2.1 = st.getD ((fcs c i).getD j 0).toNat 0
def A2D (s : ShfV) (i : Nat) : Prop := ∀ j, j < (fcs s.1 i).length -> A2x s.1 s.2.1 s.2.2.1 (s.2.2.2.getD (off s.1 i + j) (0, 0, 0, [])) i j
def A0q (s : ShfV) : Prop := CplxOk s.1 /\ A0s s.2.1 /\ A2v s.1 s.2.2.1 /\ s.2.2.2.length = off s.1 s.1.length /\ ∀ i, i < s.1.length -> A2D s i
theorem A3B (c : List (List Int)) {a b : Nat} (h : a ≤ b) : off c a ≤ off c b := by
 induction h with
 | refl => exact Nat.le_refl _
 | step _ ih => exact Nat.le_trans ih (Nat.le_add_right _ _)
theorem A2L {c : List (List Int)} {i j : Nat} (hi : i < c.length) (hj : j < (fcs c i).length) : off c i + j < off c c.length := by
 have := A3B c (show i + 1 ≤ c.length by omega);rw [off] at this; omega
theorem Am6.val (c : List (List Int)) (p : Int) (st : List Int) (ms : List MatV) (m : MatV) (h : CplxOk c) (hst : st.length = c.length) (hm : m.2.2.2.length < 4611686018427387904) (i j : Nat) (hi : i < c.length) (hj : j < (fcs c i).length) :
   ∃ v, Am6.F ((c, (p, (st, ms))), (i : Int), (j : Int), m, ()) = some ((v, ()), ()) /\ (v = true ↔ A2x c p st m i j) := by
 obtain ⟨q, r, cc, xs⟩ := m;obtain ⟨v1, h1, h1'⟩ := Af2.val (q, r, cc, xs) hm;obtain ⟨x, hx, hxc⟩ := A2f h hi (A0z (0 : Int) hj);rw [Am6.eq, Am6.T, Ab8.val c h i hi];simp only [Option.bind_some];rw [if_pos (by omega), h1];simp only [Option.bind_some, Int.toNat_natCast];unfold A2x;cases v1 with
 | false => exact ⟨false, by rw [if_neg (by simp)], by simp only [Bool.false_eq_true, false_iff]; exact fun hh => absurd (h1'.2 hh.1) (by simp)⟩
 | true =>
   have hmat := h1'.1 rfl;rw [if_pos rfl];by_cases e1 : q = p
   . rw [if_pos (by simp [e1]), if_pos (by omega)];by_cases e2 : r = st.getD i 0
     . rw [if_pos (by simp only [beq_iff_eq]; exact e2), if_pos (by rw [hx]; omega)];exact ⟨_, rfl, by simp only [beq_iff_eq]; exact ⟨fun e3 => ⟨hmat, e1, e2, e3⟩, fun hh => hh.2.2.2⟩⟩
     . exact ⟨false, by rw [if_neg (by simp only [beq_iff_eq]; exact e2)], by simp only [Bool.false_eq_true, false_iff]; exact fun hh => e2 hh.2.2.1⟩
   . exact ⟨false, by rw [if_neg (by simp only [beq_iff_eq]; exact e1)], by simp only [Bool.false_eq_true, false_iff]; exact fun hh => e1 hh.2.1⟩
theorem Aa1.val (s : ShfV) (hsm : SmSh s) : ∃ v, Aa1.F (s, ()) = some ((v, ()), ()) /\ (v = true ↔ A0q s) := by
 obtain ⟨c, p, st, ms⟩ := s;obtain ⟨hc, hst, hms⟩ := hsm;have hc : SmL c := hc;have hst : st.length ≤ 1048576 := hst;have hms : SmMs ms := hms;unfold A0q;simp only [];obtain ⟨v1, h1, h1'⟩ := Aa5.val c hc;obtain ⟨v2, h2, h2'⟩ := Ag9.val p;obtain ⟨v3, h3, h3'⟩ := Ah1.val c st hc.1 hst;have h2p : Ah7.F (p, ()) = some ((v2, ()), ()) := by rw [Ah7.eq, Ah7.T, h2]; rfl
 cases v1 with
 | false => exact ⟨false, Aa1.of _ _ _ _ ((Ev.const _).of_eq fun k => by rw [Aa1.T, h1]; rfl), by simp only [Bool.false_eq_true, false_iff]; exact fun hh => absurd (h1'.2 hh.1) (by simp)⟩
 | true =>
 cases v2 with
 | false => exact ⟨false, Aa1.of _ _ _ _ ((Ev.const _).of_eq fun k => by rw [Aa1.T, h1, h2p]; rfl), by simp only [Bool.false_eq_true, false_iff]; exact fun hh => absurd (h2'.2 hh.2.1) (by simp)⟩
 | true =>
 cases v3 with
 | false => exact ⟨false, Aa1.of _ _ _ _ ((Ev.const _).of_eq fun k => by rw [Aa1.T, h1, h2p, h3]; rfl), by simp only [Bool.false_eq_true, false_iff]; exact fun hh => absurd (h3'.2 hh.2.2.1) (by simp)⟩
 | true =>
 have hcx := h1'.1 rfl;have hstalk := h3'.1 rfl;have hcl := hcx.1;have hoff := A0l hcx (Nat.le_refl c.length);have h4 : An4.F (c, ()) = some ((((off c c.length : Nat) : Int), ()), ()) := by
   have := Ac4.val c hcx c.length (Nat.le_refl _) 0 (by omega);rw [An4.eq, An4.T, show (0 : Int) = ((0 : Nat) : Int) from rfl, this]; rfl
 by_cases hlen : ms.length = off c c.length
 . obtain ⟨v, hv, b, rfl, hb⟩ := Ev.loop (σ := Unit) (R := (Bool × Unit) × Unit) (fun k i _ => Aa1.l4 k c p st ms (i : Int)) c.length (fun i _ => ∀ n, n < i -> A2D (c, p, st, ms) n) (fun r => ∃ b, r = ((b, ()), ()) /\ (b = true ↔ ∀ n, n < c.length -> A2D (c, p, st, ms) n))
     (fun i _ hi hI => by
       have E4 : ∀ k, Aa1.l4 (k + 1) c p st ms (i : Int) = Aa1.l7 k c p st ms (i : Int) ((0 : Nat) : Int) := fun k => by rw [Aa1.l4_eq, if_pos (ltI.2 hi)]; rfl
       have hlc := (hcx.2 i hi).1.1;have step : ∀ j, j < (fcs c i).length -> ∃ v, (v = true ↔ A2x c p st (ms.getD (off c i + j) (0, 0, 0, [])) i j) /\ ∀ k, Aa1.l7 (k + 1) c p st ms (i : Int) (j : Int) = if (!v) = true then some ((false, ()), ()) else Aa1.l7 k c p st ms (i : Int) ((j + 1 : Nat) : Int) := fun j hj => by
         have hlt := A2L hi hj;have hj2 := hj;rw [A0K] at hj2;have h1l : 1 < (c.getD i []).length := by
           by_cases hh : 1 < (c.getD i []).length
           . exact hh
           . rw [if_neg hh] at hj2; omega
         rw [if_pos h1l] at hj2;have hml : (ms.getD (off c i + j) (0, 0, 0, [])).2.2.2.length < 4611686018427387904 := by
           have : (ms.getD (off c i + j) (0, 0, 0, [])).2.2.2.length ≤ 1048576 := hms.2 _ (A0z _ (by omega));omega
         obtain ⟨v, hv, hv'⟩ := Am6.val c p st ms (ms.getD (off c i + j) (0, 0, 0, [])) hcx hstalk.1 hml i j hi hj;refine ⟨v, hv', fun k => ?_⟩;rw [Aa1.l7_eq, if_pos (idxI.2 hi)];simp only [Int.toNat_natCast];rw [if_pos (by simp only [decide_eq_true_eq]; omega), if_pos (idxI.2 hi), if_pos (by simp only [decide_eq_true_eq]; omega), Ac4.val c hcx i (by omega) j (by omega)];simp only [Option.bind_some, Int.toNat_natCast];rw [if_pos (by omega), hv];simp only [Option.bind_some];rw [A0y (by omega)]
       have stop : ∀ k, Aa1.l7 (k + 1) c p st ms (i : Int) (((fcs c i).length : Nat) : Int) = Aa1.l4 k c p st ms ((i + 1 : Nat) : Int) := fun k => by
         rw [Aa1.l7_eq, if_pos (idxI.2 hi), A0K];simp only [Int.toNat_natCast];by_cases h1l : 1 < (c.getD i []).length
         . rw [if_pos h1l, if_neg (by simp), A0y (by omega)]
         . rw [if_neg h1l, if_pos (by simp only [decide_eq_true_eq]; omega), if_pos (idxI.2 hi), if_neg (by simp only [decide_eq_true_eq]; omega), A0y (by omega)]
       by_cases hP : A2D (c, p, st, ms) i
       . refine .inr ⟨(), fun n hn => ?_, (Goes.succ E4).trans ?_⟩
         . by_cases hni : n = i
           . rw [hni]; exact hP
           . exact hI n (by omega)
         . obtain ⟨_, _, hg⟩ := Goes.loop (σ := Unit) (R := (Bool × Unit) × Unit) (fun k j _ => Aa1.l7 k c p st ms (i : Int) (j : Int)) (fcs c i).length (fun _ _ => True) (fun j _ hj _ => ⟨(), trivial, by
             obtain ⟨v, hv, hv2⟩ := step j hj;have : v = true := hv.2 (hP j hj);subst this;exact Goes.succ fun k => by rw [hv2]; rfl⟩) 0 () (Nat.zero_le _) trivial
           exact hg.trans (Goes.succ stop)
       . left;obtain ⟨v, hv, hv'⟩ := Ev.loop (σ := Unit) (R := (Bool × Unit) × Unit) (fun k j _ => Aa1.l7 k c p st ms (i : Int) (j : Int)) (fcs c i).length (fun j _ => ∀ n, n < j -> A2x c p st (ms.getD (off c i + n) (0, 0, 0, [])) i n) (fun r => r = ((false, ()), ())) (fun j _ hj hJ => by
           obtain ⟨v, hv, hv2⟩ := step j hj;cases v with
           | false => exact .inl ⟨_, (Ev.const _).succ fun k => by rw [hv2]; rfl, rfl⟩
           | true =>
             refine .inr ⟨(), fun n hn => ?_, Goes.succ fun k => by rw [hv2]; rfl⟩;by_cases hnj : n = j
             . rw [hnj]; exact hv.1 rfl
             . exact hJ n (by omega)) (fun _ hJ => absurd (fun j hj => hJ j hj) hP) 0 () (Nat.zero_le _) (by intro n hn; omega)
         subst hv';exact ⟨_, hv.succ E4, false, rfl, by simp only [Bool.false_eq_true, false_iff]; exact fun hh => hP (hh i hi)⟩)
     (fun _ hI => ⟨_, (Ev.const _).succ fun k => by rw [Aa1.l4_eq, if_neg (by simp)], true, rfl, by simp only [true_iff]; exact hI⟩) 0 () (Nat.zero_le _) (by intro n hn; omega)
   refine ⟨b, Aa1.of _ _ _ _ (hv.of_eq fun k => ?_), hb.trans ⟨fun hh => ⟨hcx, h2'.1 rfl, hstalk, hlen, hh⟩, fun hh => hh.2.2.2.2⟩⟩;rw [Aa1.T, h1, h2p, h3, h4];simp only [Option.bind_some, Bool.not_true, Bool.false_eq_true, if_false];rw [if_neg (by simp [hlen])]; rfl
 . refine ⟨false, Aa1.of _ _ _ _ ((Ev.const _).of_eq fun k => ?_), by simp only [Bool.false_eq_true, false_iff]; exact fun hh => hlen hh.2.2.2.1⟩;rw [Aa1.T, h1, h2p, h3, h4];simp only [Option.bind_some, Bool.not_true, Bool.false_eq_true, if_false];rw [if_pos (by simp; omega)]
theorem Al0.val (m : MatV) (p a b : Int) (hm : m.2.2.2.length < 4611686018427387904) : ∃ v, Al0.F (m, p, a, b, ()) = some ((v, ()), ()) /\ (v = true ↔ MatOk m /\ m.1 = p /\ m.2.1 = b /\ m.2.2.1 = a) := by
 obtain ⟨q, r, cc, xs⟩ := m;obtain ⟨v1, h1, h1'⟩ := Af8.val (q, r, cc, xs) hm;rw [Al0.eq, Al0.T, h1];simp only [Option.bind_some];cases v1 with
 | false => exact ⟨false, by rw [if_neg (by simp)], by simp only [Bool.false_eq_true, false_iff]; exact fun hh => absurd (h1'.2 hh.1) (by simp)⟩
 | true =>
   have hmat := h1'.1 rfl;rw [if_pos rfl];by_cases e1 : q = p
   . rw [if_pos (by simp only [beq_iff_eq]; exact e1)];by_cases e2 : r = b
     . rw [if_pos (by simp only [beq_iff_eq]; exact e2)];exact ⟨_, rfl, by simp only [beq_iff_eq]; exact ⟨fun e3 => ⟨hmat, e1, e2, e3⟩, fun hh => hh.2.2.2⟩⟩
     . exact ⟨false, by rw [if_neg (by simp only [beq_iff_eq]; exact e2)], by simp only [Bool.false_eq_true, false_iff]; exact fun hh => e2 hh.2.2.1⟩
   . exact ⟨false, by rw [if_neg (by simp only [beq_iff_eq]; exact e1)], by simp only [Bool.false_eq_true, false_iff]; exact fun hh => e1 hh.2.1⟩
theorem A2i {c : List (List Int)} : ∀ {n q : Nat}, q < off c n -> ∃ s, s < n /\ ∃ j, j < (fcs c s).length /\ q = off c s + j := by
 intro n;induction n with
 | zero => intro q h; simp [off] at h
 | succ n ih =>
   intro q h;by_cases hq : q < off c n
   . obtain ⟨s, hs, j, hj, e⟩ := ih hq;exact ⟨s, by omega, j, hj, e⟩
   . rw [off] at h;exact ⟨n, by omega, q - off c n, by omega, by omega⟩
theorem Ab6.val (s : ShfV) (hsm : SmSh s) : ∃ v, Ab6.F (s, ()) = some ((v, ()), ()) /\ (v = true ↔ A0q s) := by
 obtain ⟨c, p, st, ms⟩ := s;obtain ⟨hc, hst, hms⟩ := hsm;have hc : SmL c := hc;have hst : st.length ≤ 1048576 := hst;have hms : SmMs ms := hms;unfold A0q;simp only [];obtain ⟨v1, h1, h1'⟩ := Af7.val c hc;obtain ⟨v2, h2, h2'⟩ := Ad9.val p;obtain ⟨v3, h3, h3'⟩ := Ae3.val c st hc.1 hst;cases v1 with
 | false => exact ⟨false, Ab6.of _ _ _ _ ((Ev.const _).of_eq fun k => by rw [Ab6.T, h1]; rfl), by simp only [Bool.false_eq_true, false_iff]; exact fun hh => absurd (h1'.2 hh.1) (by simp)⟩
 | true =>
 cases v2 with
 | false => exact ⟨false, Ab6.of _ _ _ _ ((Ev.const _).of_eq fun k => by rw [Ab6.T, h1, h2]; rfl), by simp only [Bool.false_eq_true, false_iff]; exact fun hh => absurd (h2'.2 hh.2.1) (by simp)⟩
 | true =>
 cases v3 with
 | false => exact ⟨false, Ab6.of _ _ _ _ ((Ev.const _).of_eq fun k => by rw [Ab6.T, h1, h2, h3]; rfl), by simp only [Bool.false_eq_true, false_iff]; exact fun hh => absurd (h3'.2 hh.2.2.1) (by simp)⟩
 | true =>
 have hcx := h1'.1 rfl;have hstalk := h3'.1 rfl;have hcl := hcx.1;have hoff := A0l hcx (Nat.le_refl c.length);have hal := A0P c c.length;obtain ⟨A, hA⟩ : ∃ A, arr c c.length = A := ⟨_, rfl⟩;rw [hA] at hal;obtain ⟨b, hb, hb'⟩ := Ev.allP (L := fun k q => Ab6.l5 k (A.length : Int) (q : Int) c p st ms A) (a := ()) (b := ()) (n := A.length) (fun q => q < ms.length /\ ∀ i j, i < c.length -> j < (fcs c i).length -> q = off c i + j -> A2x c p st (ms.getD q (0, 0, 0, [])) i j) ((A.length : Int) == (ms.length : Int)) (fun q hq => by
   obtain ⟨i, hi, j, hj, e⟩ := A2i (show q < off c c.length by omega);have hg := A2E c hi hj;rw [<- e, hA] at hg;obtain ⟨x, hx, hxc⟩ := A2f hcx hi (A0z (0 : Int) hj);have E := fun k => Ab6.l5_eq k (A.length : Int) (q : Int) c p st ms A;simp only [if_pos (ltI.2 hq), if_pos (idxI.2 hq), Int.toNat_natCast, hg, A0y (show q < 4611686018427387904 by omega)] at E;have huniq : ∀ i' j', i' < c.length -> j' < (fcs c i').length -> q = off c i' + j' -> i' = i /\ j' = j := fun i' j' hi' hj' e' => by
     have g2 := A2E c hi' hj';rw [<- e', hA, hg] at g2;simp only [Prod.mk.injEq, Int.ofNat_inj] at g2;exact ⟨g2.1.symm, g2.2.1.symm⟩
   by_cases hqm : q < ms.length
   . have hml : (ms.getD q (0, 0, 0, [])).2.2.2.length < 4611686018427387904 := by
       have : (ms.getD q (0, 0, 0, [])).2.2.2.length ≤ 1048576 := hms.2 _ (A0z _ hqm);omega
     obtain ⟨v, hv, hv'⟩ := Al0.val (ms.getD q (0, 0, 0, [])) p (st.getD ((fcs c i).getD j 0).toNat 0) (st.getD i 0) hml;have hst2 := hstalk.1;simp only [if_neg (show ¬ decide ((q : Int) ≥ (ms.length : Int)) = true by simp only [decide_eq_true_eq]; omega), if_pos (idxI.2 hqm), if_pos (show 0 ≤ (fcs c i).getD j 0 /\ (fcs c i).getD j 0 < (st.length : Int) by rw [hx]; omega), if_pos (show 0 ≤ (i : Int) /\ (i : Int) < (st.length : Int) by omega), hv, Option.bind_some] at E;cases v with
     | true => exact .inl ⟨⟨hqm, fun i' j' hi' hj' e' => by obtain ⟨rfl, rfl⟩ := huniq i' j' hi' hj' e'; exact hv'.1 rfl⟩, fun k => by rw [E]; rfl⟩
     | false => exact .inr ⟨fun hh => absurd (hv'.2 (hh.2 i j hi hj e)) (by simp), fun k => by rw [E]; rfl⟩
   . exact .inr ⟨fun hh => hqm hh.1, fun k => by rw [E, if_pos (by simp only [decide_eq_true_eq]; omega)]⟩) ((Ev.const _).succ fun k => by rw [Ab6.l5_eq, if_neg (by simp)]) 0 (Nat.zero_le _)
 refine ⟨b, Ab6.of _ _ _ _ (hb.of_eq fun k => ?_), hb'.trans ?_⟩
 . rw [Ab6.T, h1, h2, h3, Ae4.val c hcx, hA]; rfl
 . simp only [beq_iff_eq, Int.ofNat_inj];constructor
   . rintro ⟨e, hall⟩;refine ⟨hcx, h2'.1 rfl, hstalk, by omega, fun i hi j hj => ?_⟩;have := A2L hi hj;exact (hall (off c i + j) (Nat.zero_le _) (by omega)).2 i j hi hj rfl
   . rintro ⟨-, -, -, e, hall⟩;exact ⟨by omega, fun q _ hq => ⟨by omega, fun i j hi hj e' => e' ▸ hall i hi j hj⟩⟩
theorem Ai8.val (ms : List MatV) (hn : ms.length ≤ 1048576) (h : ∀ m ∈ ms, MatOk m) : Ai8.F (ms, ()) = some ((ms.map A0Q, ()), ()) := by
 refine Ai8.of _ ?_;obtain ⟨s, hs, hg⟩ := Goes.loop (R := ((List MatV × Unit) × Unit)) (fun k i (x : List MatV) => Ai8.l3 k ms (ms.length : Int) (i : Int) x) ms.length (fun i x => x = (ms.take i).map A0Q) (fun i x hi h2 => ⟨_, rfl, Goes.succ fun k => by
   rw [Ai8.l3_eq, if_pos (ltI.2 hi), if_pos (idxI.2 hi)];simp only [Int.toNat_natCast, Ag2.val _ (h _ (A0z (0, 0, 0, []) hi)), Option.bind_some];rw [if_pos (by rw [h2]; simp only [List.length_map, List.length_take, List.length_cons, List.length_nil, bigA]; omega), A0y (by omega), h2, List.take_add_one, List.getElem?_eq_getElem hi, Option.toList_some, List.map_append, A0x hi];rfl⟩) 0 [] (Nat.zero_le _) rfl
 rw [List.take_of_length_le (Nat.le_refl _)] at hs;refine Ev.of_eq (hg _ ((Ev.const _).succ fun k => ?_)) fun k => rfl;rw [Ai8.l3_eq, if_neg (by simp), hs]
theorem Af3.val (m : MatV) (h : MatOk m) : Af3.F (m, ()) = some ((A0Q m, ()), ()) := by
 obtain ⟨p, r, c, xs⟩ := m;obtain ⟨-, hr, hc, hl, -⟩ := h;obtain ⟨r, rfl⟩ := Int.eq_ofNat_of_zero_le hr.1;obtain ⟨c, rfl⟩ := Int.eq_ofNat_of_zero_le hc.1;have hl' : xs.length = r * c := by
   have e : (r : Int) * (c : Int) = ((r * c : Nat) : Int) := by simp
   have hl2 : (xs.length : Int) = (r : Int) * (c : Int) := hl;omega
 have hr' : r ≤ 32 := by have := hr.2; simp only [] at this; omega
 have hc' : c ≤ 32 := by have := hc.2; simp only [] at this; omega
 have hcr : c * r ≤ 1024 := Nat.mul_le_mul hc' hr';have wcr : IntKind.i64.wrap ((c : Int) * (r : Int)) = ((c * r : Nat) : Int) := by
   have e : (c : Int) * (r : Int) = ((c * r : Nat) : Int) := by simp
   rw [e]; exact A0v (by omega) (by omega)
 have hz : Ac9.F (p, (c : Int), (r : Int), ()) = some (((p, (c : Int), (r : Int), List.replicate (c * r) 0), ()), ()) := by
   rw [Ac9.eq, Ac9.T, wcr, if_pos (by simp only [bigN]; omega)];simp only [Int.toNat_natCast]
 have gs : ∀ (l : List Int) (q : Nat) (v : Int) (s : Nat), q < l.length -> (l.set q v).getD s 0 = if s = q then v else l.getD s 0 := fun l q v s hq => by
   simp only [List.getD_eq_getElem?_getD, List.getElem?_set];by_cases hqs : q = s
   . subst hqs; simp [hq]
   . simp [hqs, Ne.symm hqs]
 have inj : ∀ {a b a' b' : Nat}, b < r -> b' < r -> a * r + b = a' * r + b' -> a = a' /\ b = b' := fun {a b a' b'} hb hb' he => by
   have h1 : (a * r + b) / r = a := by rw [Nat.mul_comm, Nat.mul_add_div (by omega), Nat.div_eq_of_lt hb]; omega
   have h2 : (a' * r + b') / r = a' := by rw [Nat.mul_comm, Nat.mul_add_div (by omega), Nat.div_eq_of_lt hb']; omega
   have h3 : a = a' := by rw [<- h1, <- h2, he]
   subst h3;exact ⟨rfl, by omega⟩
 obtain ⟨y, ⟨hy1, hy2⟩, hg⟩ := Goes.loop (R := ((MatV × Unit) × Unit)) (fun k i (x : List Int) => Af3.l3 k p (r : Int) (c : Int) xs (i : Int) 0 0 0 [] p (c : Int) (r : Int) x) r (fun i x => x.length = c * r /\ ∀ b a, b < i -> a < c -> x.getD (a * r + b) 0 = xs.getD (b * c + a) 0) (fun i x hi ⟨h2, h3⟩ => by
   have inner := Goes.loop (R := ((MatV × Unit) × Unit)) (fun k j (x : List Int) => Af3.l6 k p (r : Int) (c : Int) xs (i : Int) (j : Int) 0 0 0 [] p (c : Int) (r : Int) x) c (fun j x => x.length = c * r /\ (∀ b a, b < i -> a < c -> x.getD (a * r + b) 0 = xs.getD (b * c + a) 0) /\ ∀ a, a < j -> x.getD (a * r + i) 0 = xs.getD (i * c + a) 0) (fun j x hj ⟨h4, h5, h6⟩ => by
     obtain ⟨e1, e2⟩ := A0R hr' hc' hi hj;obtain ⟨e3, e4⟩ := A0R hc' hr' hj hi;refine ⟨x.set (j * r + i) (xs.getD (i * c + j) 0), ⟨by simp [h4], fun b a hb ha => ?_, fun a ha => ?_⟩, Goes.succ fun k => ?_⟩
     . rw [gs _ _ _ _ (by omega), if_neg (fun he => by have := (inj (by omega) hi he).2; omega)]; exact h5 b a hb ha
     . rw [gs _ _ _ _ (by omega)];by_cases haj : a = j
       . rw [if_pos (by rw [haj]), haj]
       . rw [if_neg (fun he => haj (inj hi hi he).1)]; exact h6 a (by omega)
     . rw [Af3.l6_eq, if_pos (ltI.2 hj), e1, if_pos (by omega), e3, if_pos (by omega), A0y (by omega)];simp only [Int.toNat_natCast]) 0 x (Nat.zero_le _) ⟨h2, h3, fun a ha => by omega⟩
   obtain ⟨x', ⟨h4, h5, h6⟩, hg2⟩ := inner;refine ⟨x', ⟨h4, fun b a hb ha => ?_⟩, ((Goes.succ fun k => by rw [Af3.l3_eq, if_pos (ltI.2 hi)]; rfl).trans hg2).trans (Goes.succ fun k => by rw [Af3.l6_eq, if_neg (by simp), A0y (by omega)])⟩;by_cases hbi : b = i
   . rw [hbi]; exact h6 a ha
   . exact h5 b a (by omega) ha) 0 (List.replicate (c * r) 0) (Nat.zero_le _) ⟨by simp, fun b a hb => by omega⟩
 have hy : y = A0T c r fun i j => xs.getD (j * c + i) 0 := A1V hy1 fun i j hi hj => hy2 j i hj hi;refine Af3.of _ _ _ _ (Ev.of_eq (hg _ ((Ev.const _).succ fun k => ?_)) fun k => ?_)
 . rw [Af3.l3_eq, if_neg (by simp), hy]; rfl
 . rw [Af3.T];exact (congrArg (fun o => Option.bind o _) hz).trans rfl
theorem Aj5.val (c : List (List Int)) (h : CplxOk c) : Aj5.F (c, 3, ()) = some ((c, ()), ()) := by
 have hn := h.small.1;refine Aj5.of _ _ ?_;obtain ⟨s, hs, hg⟩ := Goes.loop (R := ((List (List Int) × Unit) × Unit)) (fun k i (x : List (List Int)) => Aj5.l3 k c 3 (i : Int) [] x) c.length (fun i x => x = c.take i) (fun i x hi h2 => ⟨_, rfl, Goes.succ fun k => by
   have h4 := (h.2 i hi).1.1.2;rw [Aj5.l3_eq, if_pos (ltI.2 hi), if_pos (idxI.2 hi), A0v (x := (3 : Int) + 1) (by omega) (by omega)];simp only [Int.toNat_natCast, Ab5.val _ (h.small.2 _ (A0z [] hi)), Option.bind_some];rw [if_pos (by simp only [decide_eq_true_eq]; omega), if_pos (idxI.2 hi), if_pos (by rw [h2]; simp only [List.length_take, List.length_cons, List.length_nil, bigA]; omega), A0y (by omega), h2, List.take_add_one, List.getElem?_eq_getElem hi, Option.toList_some, A0x hi]⟩) 0 [] (Nat.zero_le _) rfl
 rw [List.take_of_length_le (Nat.le_refl _)] at hs;refine Ev.of_eq (hg _ ((Ev.const _).succ fun k => ?_)) fun k => rfl;rw [Aj5.l3_eq, if_neg (by simp), hs]
def A0C (t : ShfV) : ShfV := (t.1, t.2.1, t.2.2.1, t.2.2.2.map A0Q)
theorem Ab9.val (t : ShfV) (h : CplxOk t.1) (hs : t.2.2.1.length ≤ 1048576) (hn : t.2.2.2.length ≤ 1048576) (hm : ∀ m ∈ t.2.2.2, MatOk m) : Ab9.F (t, ()) = some ((A0C t, ()), ()) := by
 obtain ⟨c, p, st, ms⟩ := t;have hs : st.length ≤ 1048576 := hs;have hn : ms.length ≤ 1048576 := hn;have hm : ∀ m ∈ ms, MatOk m := hm;have h : CplxOk c := h;refine Ab9.of _ _ _ _ ?_;obtain ⟨s, hs2, hg⟩ := Goes.loop (R := ((ShfV × Unit) × Unit)) (fun k i (x : List MatV) => Ab9.l3 k c p st ms (i : Int) [] 0 [] [] c p st x) ms.length (fun i x => x = (ms.take i).map A0Q) (fun i x hi h2 => ⟨_, rfl, Goes.succ fun k => by
   rw [Ab9.l3_eq, if_pos (ltI.2 hi), if_pos (idxI.2 hi)];simp only [Int.toNat_natCast, Af3.val _ (hm _ (A0z (0, 0, 0, []) hi)), Option.bind_some];rw [if_pos (by rw [h2]; simp only [List.length_map, List.length_take, List.length_cons, List.length_nil, bigA]; omega), A0y (by omega), h2, List.take_add_one, List.getElem?_eq_getElem hi, Option.toList_some, List.map_append, A0x hi];rfl⟩) 0 [] (Nat.zero_le _) rfl
 rw [List.take_of_length_le (Nat.le_refl _)] at hs2;refine Ev.of_eq (hg _ ((Ev.const _).succ fun k => ?_)) fun k => ?_
 . rw [Ab9.l3_eq, if_neg (by simp), hs2]; rfl
 . rw [Ab9.T, Aj5.val c h];simp only [Option.bind_some, Ab5.val st hs];rfl
theorem Ac7.val (t : ShfV) (h : SmL t.1) (hs : t.2.2.1.length ≤ 1048576) (hn : t.2.2.2.length ≤ 1048576) (hm : ∀ m ∈ t.2.2.2, MatOk m) : Ac7.F (t, ()) = some ((A0C t, ()), ()) := by
 obtain ⟨c, p, st, ms⟩ := t;rw [Ac7.eq, Ac7.T, Ai4.val c h];simp only [Option.bind_some, Ad6.val st hs, Ai8.val ms hn hm];rfl
theorem Ac3.val (xs : List Int) (h : xs.length ≤ 1099511627776) : Ac3.F (xs, ()) = some ((xs, ()), ()) := by
 refine Ac3.of xs ?_;have := Goes.fill (L := fun k i ys => Ac3.l3 k xs (i : Int) ys) xs 0 (fun k i ys hi hy => by
   rw [Ac3.l3_eq, if_pos (ltI.2 hi), if_pos (idxI.2 hi), if_pos (by omega), A0y (by omega)];simp only [Int.toNat_natCast]) (List.replicate xs.length 0) (by simp)
 refine Ev.of_eq (this _ ((Ev.const _).succ fun k => ?_)) fun k => ?_
 . rw [Ac3.l3_eq, if_neg (by simp)]
 . rw [Ac3.T, if_pos (by simp only [bigN]; omega)]; rfl
theorem Aa2.val (xs ys : List Int) (hn : xs.length < 4611686018427387904) : ∃ b, Aa2.F (xs, ys, ()) = some ((b, ()), ()) /\ (b = true ↔ xs = ys) := by
 by_cases hl : xs.length = ys.length
 . obtain ⟨b, hb, hb'⟩ := Ev.all (L := fun k i => Aa2.l4 k xs ys (i : Int)) (a := ()) (b := ()) (n := xs.length) (fun i => xs.getD i 0 == ys.getD i 0) (fun k i hi => by
     rw [Aa2.l4_eq, if_pos (ltI.2 hi), if_pos (idxI.2 hi), if_pos (by omega), A0y (by omega)];simp only [Int.toNat_natCast];exact ite_nb _ _ _) (fun k => by rw [Aa2.l4_eq, if_neg (by simp)]) 0 (Nat.zero_le _)
   refine ⟨b, Aa2.of _ _ (hb.of_eq fun k => ?_), by rw [hb', all_eq hl (fun x y => x == y) (by simp)]⟩;rw [Aa2.T, if_neg (by simp [hl])];rfl
 . refine ⟨false, Aa2.of _ _ ((Ev.const _).of_eq fun k => ?_), by simp; intro e; exact hl (by rw [e])⟩;rw [Aa2.T, if_pos (by simp; omega)]
theorem Aa2.refl (xs : List Int) (hn : xs.length < 4611686018427387904) : Aa2.F (xs, xs, ()) = some ((true, ()), ()) := by
 obtain ⟨b, hb, hb'⟩ := Aa2.val xs xs hn;rw [hb, hb'.2 rfl]
theorem Ad5.val (xs : List Int) (l : Int) (h0 : 0 ≤ l) (h1 : l ≤ 1048576) (hx : xs.length ≤ maxLen) : ∃ r, Ad5.F (xs, l, ()) = some ((r, ()), ()) /\ (r = -1 ∨ 0 ≤ r /\ r ≤ l /\ Sm xs) := by
 have : xs.length ≤ 9223372036854775807 := hx;rw [Ad5.eq, Ad5.T, A0v (by omega) (by omega)];by_cases h : l < xs.length
 . exact ⟨-1, by rw [if_pos (by simp; omega)], .inl rfl⟩
 . exact ⟨_, by rw [if_neg (by simp; omega)], .inr ⟨by omega, by omega, by unfold Sm; omega⟩⟩
theorem Ag5.val (xs : List (List Int)) (l : Int) (h0 : 0 ≤ l) (h1 : l ≤ 1048576) (hx : xs.length ≤ maxLen) (hr : ∀ x ∈ xs, x.length ≤ maxLen) : ∃ r, Ag5.F (xs, l, ()) = some ((r, ()), ()) /\ (r = -1 ∨ 0 ≤ r /\ r ≤ l /\ SmL xs) := by
 have : xs.length ≤ 9223372036854775807 := hx;by_cases h : l < xs.length
 . exact ⟨-1, Ag5.of _ _ ((Ev.const _).of_eq fun k => by rw [Ag5.T, A0v (by omega) (by omega), if_pos (by simp; omega)]), .inl rfl⟩
 obtain ⟨r, hv, h2⟩ := A2u (fun k i s => Ag5.l5 k xs s (i : Int)) xs [] Sm (fun i s hi s0 s1 => by
   have E := fun k => Ag5.l5_eq k xs s (i : Int);obtain ⟨r, hr1, hr2⟩ := Ad5.val (xs.getD i []) s s0 s1 (hr _ (A0z _ hi));simp only [if_pos (ltI.2 hi), if_pos (idxI.2 hi), Int.toNat_natCast, hr1, Option.bind_some, A0y (show i < 4611686018427387904 by omega)] at E;rcases hr2 with rfl | ⟨a, b, c⟩
   . exact .inr fun k => by rw [E, if_pos (by simp)]
   . exact .inl ⟨r, a, b, c, fun k => by rw [E, if_neg (by simp; omega)]⟩) (fun k l => by rw [Ag5.l5_eq, if_neg (by simp)]) (l - xs.length) (by omega) (by omega)
 refine ⟨r, Ag5.of _ _ (hv.of_eq fun k => by rw [Ag5.T, A0v (by omega) (by omega), if_neg (by simp; omega)]; rfl), ?_⟩;rcases h2 with h2 | ⟨a, b, c⟩
 . exact .inl h2
 . exact .inr ⟨a, by omega, by omega, c⟩
theorem Al8.val (xs : List (List Int)) (l : Int) (h0 : 0 ≤ l) (h1 : l ≤ 1048576) (hx : xs.length ≤ maxLen) (hr : ∀ x ∈ xs, x.length ≤ maxLen) : ∃ r, Al8.F (xs, l, ()) = some ((r, ()), ()) /\ (r = -1 ∨ 0 ≤ r /\ r ≤ l /\ SmL xs) := by
 obtain ⟨r, h2, h3⟩ := Ag5.val xs l h0 h1 hx hr;rw [Al8.eq, Al8.T, h2];simp only [Option.bind_some];rcases h3 with rfl | ⟨a, b, c⟩
 . exact ⟨-1, by rw [if_pos (by simp)], .inl rfl⟩
 . exact ⟨r, by rw [if_neg (by simp; omega)], .inr ⟨a, b, c⟩⟩
theorem Ah9.val (xs : List (List Int)) (h : SmL xs) : Ah9.F (xs, ()) = some ((xs, ()), ()) := by
 have hl := h.1;refine Ah9.of xs ?_;have := Goes.fill (L := fun k i ys => Ah9.l3 k xs (i : Int) ys) xs [] (fun k i ys hi hy => by
   have hs : (xs.getD i []).length ≤ 1048576 := h.2 _ (A0z _ hi);rw [Ah9.l3_eq, if_pos (ltI.2 hi), if_pos (idxI.2 hi)];simp only [Int.toNat_natCast, Ac3.val (xs.getD i []) (by omega), Option.bind_some];rw [if_pos (by omega), A0y (by omega)]) (List.replicate xs.length []) (by simp)
 refine Ev.of_eq (this _ ((Ev.const _).succ fun k => ?_)) fun k => ?_
 . rw [Ah9.l3_eq, if_neg (by simp)]
 . rw [Ah9.T, if_pos (by simp only [bigN]; omega)]; rfl
theorem Am0.val (xs : List (List Int)) (h : SmL xs) : Am0.F (xs, ()) = some ((xs, ()), ()) := by
 rw [Am0.eq, Am0.T, Ah9.val xs h]; rfl
theorem Ag3.same (xs ys : List (List Int)) (h : SmL xs) : ∃ b, Ag3.F (xs, ys, ()) = some ((b, ()), ()) /\ (b = true ↔ xs = ys) := by
 have hn := h.1;by_cases hl : xs.length = ys.length
 . obtain ⟨b, hb, hb'⟩ := A0X (fun k i => Ag3.l4 k xs ys (i : Int)) xs ys [] hl (fun i hi => by
     have hs : (xs.getD i []).length ≤ 1048576 := h.2 _ (A0z _ hi);obtain ⟨c, hc, hc'⟩ := Aa2.val (xs.getD i []) (ys.getD i []) (by omega);exact ⟨c, hc', fun k => by rw [Ag3.l4_eq, if_pos (ltI.2 hi), if_pos (idxI.2 hi), if_pos (idx2 (hl ▸ hi))]; simp only [Int.toNat_natCast, hc, Option.bind_some]; rw [A0y (by omega)]⟩) (fun k => by rw [Ag3.l4_eq, if_neg (by simp)])
   exact ⟨b, Ag3.of _ _ (hb.of_eq fun k => by rw [Ag3.T, if_neg (by simp [hl])]; rfl), hb'⟩
 . exact ⟨false, Ag3.of _ _ ((Ev.const _).of_eq fun k => by rw [Ag3.T, if_pos (by simp; omega)]), by simp; intro e; exact hl (by rw [e])⟩
theorem Al3.same (xs ys : List (List Int)) (h : SmL xs) : ∃ b, Al3.F (xs, ys, ()) = some ((b, ()), ()) /\ (b = true ↔ xs = ys) := by
 obtain ⟨b, hb, hb'⟩ := Ag3.same xs ys h;rw [Al3.eq, Al3.T, hb];exact ⟨b, by cases b <;> rfl, hb'⟩
theorem Al9.val (m : MatV) (l : Int) (h0 : 0 ≤ l) (h1 : l ≤ 1048576) (hx : m.2.2.2.length ≤ maxLen) : ∃ r, Al9.F (m, l, ()) = some ((r, ()), ()) /\ (r = -1 ∨ 0 ≤ r /\ r ≤ l /\ SmM m) := by
 obtain ⟨a, b, c, xs⟩ := m;obtain ⟨r, h2, h3⟩ := Ad5.val xs l h0 h1 hx;rw [Al9.eq, Al9.T, h2];simp only [Option.bind_some];rcases h3 with rfl | ⟨a, b, c⟩
 . exact ⟨-1, by rw [if_pos (by simp)], .inl rfl⟩
 . exact ⟨r, by rw [if_neg (by simp; omega)], .inr ⟨a, b, c⟩⟩
theorem Ag6.val (xs : List MatV) (l : Int) (h0 : 0 ≤ l) (h1 : l ≤ 1048576) (hx : xs.length ≤ maxLen) (hr : ∀ x ∈ xs, x.2.2.2.length ≤ maxLen) : ∃ r, Ag6.F (xs, l, ()) = some ((r, ()), ()) /\ (r = -1 ∨ 0 ≤ r /\ r ≤ l /\ SmMs xs) := by
 have : xs.length ≤ 9223372036854775807 := hx;by_cases h : l < xs.length
 . exact ⟨-1, Ag6.of _ _ ((Ev.const _).of_eq fun k => by rw [Ag6.T, A0v (by omega) (by omega), if_pos (by simp; omega)]), .inl rfl⟩
 obtain ⟨r, hv, h2⟩ := A2u (fun k i s => Ag6.l5 k xs s (i : Int)) xs (0, 0, 0, []) SmM (fun i s hi s0 s1 => by
   have E := fun k => Ag6.l5_eq k xs s (i : Int);obtain ⟨r, hr1, hr2⟩ := Al9.val (xs.getD i (0, 0, 0, [])) s s0 s1 (hr _ (A0z _ hi));simp only [if_pos (ltI.2 hi), if_pos (idxI.2 hi), Int.toNat_natCast, hr1, Option.bind_some, A0y (show i < 4611686018427387904 by omega)] at E;rcases hr2 with rfl | ⟨a, b, c⟩
   . exact .inr fun k => by rw [E, if_pos (by simp)]
   . exact .inl ⟨r, a, b, c, fun k => by rw [E, if_neg (by simp; omega)]⟩) (fun k l => by rw [Ag6.l5_eq, if_neg (by simp)]) (l - xs.length) (by omega) (by omega)
 refine ⟨r, Ag6.of _ _ (hv.of_eq fun k => by rw [Ag6.T, A0v (by omega) (by omega), if_neg (by simp; omega)]; rfl), ?_⟩;rcases h2 with h2 | ⟨a, b, c⟩
 . exact .inl h2
 . exact .inr ⟨a, by omega, by omega, c⟩
theorem Am1.val (m : MatV) (h : SmM m) : Am1.F (m, ()) = some ((m, ()), ()) := by
 obtain ⟨a, b, c, xs⟩ := m;have hs : xs.length ≤ 1048576 := h;rw [Am1.eq, Am1.T, Ac3.val xs (by omega)]; rfl
theorem Ai0.val (xs : List MatV) (h : SmMs xs) : Ai0.F (xs, ()) = some ((xs, ()), ()) := by
 have hl := h.1;refine Ai0.of xs ?_;have := Goes.fill (L := fun k i ys => Ai0.l3 k xs (i : Int) ys) xs (0, 0, 0, []) (fun k i ys hi hy => by
   rw [Ai0.l3_eq, if_pos (ltI.2 hi), if_pos (idxI.2 hi)];simp only [Int.toNat_natCast, Am1.val _ (h.2 _ (A0z (0, 0, 0, []) hi)), Option.bind_some];rw [if_pos (by omega), A0y (by omega)]) (List.replicate xs.length (0, 0, 0, [])) (by simp)
 refine Ev.of_eq (this _ ((Ev.const _).succ fun k => ?_)) fun k => ?_
 . rw [Ai0.l3_eq, if_neg (by simp)]
 . rw [Ai0.T, if_pos (by simp only [bigN]; omega)]; rfl
theorem Al5.same (m n : MatV) (h : SmM m) : ∃ b, Al5.F (m, n, ()) = some ((b, ()), ()) /\ (b = true ↔ m = n) := by
 obtain ⟨a, b, c, xs⟩ := m;obtain ⟨a', b', c', ys⟩ := n;have hs : xs.length ≤ 1048576 := h;obtain ⟨e, he, he'⟩ := Aa2.val xs ys (by omega);rw [Al5.eq, Al5.T, he];simp only [Option.bind_some, Prod.mk.injEq];by_cases h1 : a = a'
 . by_cases h2 : b = b'
   . by_cases h3 : c = c'
     . rw [if_neg (by simp [h1]), if_neg (by simp [h2]), if_neg (by simp [h3])];exact ⟨e, by cases e <;> rfl, by simp [h1, h2, h3, he']⟩
     . exact ⟨false, by rw [if_neg (by simp [h1]), if_neg (by simp [h2]), if_pos (by simp [h3])], by simp [h3]⟩
   . exact ⟨false, by rw [if_neg (by simp [h1]), if_pos (by simp [h2])], by simp [h2]⟩
 . exact ⟨false, by rw [if_pos (by simp [h1])], by simp [h1]⟩
theorem Ag4.same (xs ys : List MatV) (h : SmMs xs) : ∃ b, Ag4.F (xs, ys, ()) = some ((b, ()), ()) /\ (b = true ↔ xs = ys) := by
 have hn := h.1;by_cases hl : xs.length = ys.length
 . obtain ⟨b, hb, hb'⟩ := A0X (fun k i => Ag4.l4 k xs ys (i : Int)) xs ys (0, 0, 0, []) hl (fun i hi => by
     obtain ⟨c, hc, hc'⟩ := Al5.same (xs.getD i (0, 0, 0, [])) (ys.getD i (0, 0, 0, [])) (h.2 _ (A0z _ hi));exact ⟨c, hc', fun k => by rw [Ag4.l4_eq, if_pos (ltI.2 hi), if_pos (idxI.2 hi), if_pos (idx2 (hl ▸ hi))]; simp only [Int.toNat_natCast, hc, Option.bind_some]; rw [A0y (by omega)]⟩) (fun k => by rw [Ag4.l4_eq, if_neg (by simp)])
   exact ⟨b, Ag4.of _ _ (hb.of_eq fun k => by rw [Ag4.T, if_neg (by simp [hl])]; rfl), hb'⟩
 . exact ⟨false, Ag4.of _ _ ((Ev.const _).of_eq fun k => by rw [Ag4.T, if_pos (by simp; omega)]), by simp; intro e; exact hl (by rw [e])⟩
theorem Aj8.val (s : ShfV) (l : Int) (h0 : 0 ≤ l) (h1 : l ≤ 1048576) (w1 : s.1.length ≤ maxLen) (w2 : ∀ x ∈ s.1, x.length ≤ maxLen) (w3 : s.2.2.1.length ≤ maxLen) (w4 : s.2.2.2.length ≤ maxLen) (w5 : ∀ x ∈ s.2.2.2, x.2.2.2.length ≤ maxLen) : ∃ r, Aj8.F (s, l, ()) = some ((r, ()), ()) /\ (r = -1 ∨ 0 ≤ r /\ r ≤ l /\ SmSh s) := by
 obtain ⟨a, p, b, c⟩ := s;obtain ⟨r1, e1, k1⟩ := Al8.val a l h0 h1 w1 w2;rw [Aj8.eq, Aj8.T, e1];simp only [Option.bind_some];rcases k1 with rfl | ⟨a1, b1, c1⟩
 . exact ⟨-1, by rw [if_pos (by simp)], .inl rfl⟩
 rw [if_neg (by simp; omega)];obtain ⟨r2, e2, k2⟩ := Ad5.val b r1 a1 (by omega) w3;rw [e2];simp only [Option.bind_some];rcases k2 with rfl | ⟨a2, b2, c2⟩
 . exact ⟨-1, by rw [if_pos (by simp)], .inl rfl⟩
 rw [if_neg (by simp; omega)];obtain ⟨r3, e3, k3⟩ := Ag6.val c r2 a2 (by omega) w4 w5;rw [e3];simp only [Option.bind_some];rcases k3 with rfl | ⟨a3, b3, c3⟩
 . exact ⟨-1, by rw [if_pos (by simp)], .inl rfl⟩
 exact ⟨r3, by rw [if_neg (by simp; omega)], .inr ⟨a3, by omega, c1, c2, c3⟩⟩
theorem Ah6.val (s : ShfV) (h : SmSh s) : Ah6.F (s, ()) = some ((s, ()), ()) := by
 obtain ⟨a, p, b, c⟩ := s;obtain ⟨h1, h2, h3⟩ := h;have h2' : b.length ≤ 1048576 := h2;rw [Ah6.eq, Ah6.T, Am0.val a h1, Ac3.val b (by omega), Ai0.val c h3]; rfl
theorem Al4.same (s t : ShfV) (h : SmSh s) : ∃ b, Al4.F (s, t, ()) = some ((b, ()), ()) /\ (b = true ↔ s = t) := by
 obtain ⟨a, p, b, c⟩ := s;obtain ⟨a', p', b', c'⟩ := t;obtain ⟨h1, h2, h3⟩ := h;have h2' : b.length ≤ 1048576 := h2;obtain ⟨v1, e1, k1⟩ := Al3.same a a' h1;obtain ⟨v2, e2, k2⟩ := Aa2.val b b' (by omega);obtain ⟨v3, e3, k3⟩ := Ag4.same c c' h3;rw [Al4.eq, Al4.T, e1, e2, e3];simp only [Option.bind_some, Prod.mk.injEq];by_cases hp : p = p'
 . rw [show (p != p') = false by simp [hp]];refine ⟨v1 && v2 && v3, by cases v1 <;> cases v2 <;> cases v3 <;> rfl, ?_⟩;simp only [Bool.and_eq_true, k1, k2, k3, hp, true_and, and_assoc]
 . rw [show (p != p') = true by simp [hp]];exact ⟨false, by cases v1 <;> rfl, by simp [hp]⟩
theorem shf_wf {s : ShfV} (h : wfT (.pair (.sl (.sl (.int .i64))) (.pair (.int .i64) (.pair (.sl (.int .i64)) (.sl (.pair (.int .i64) (.pair (.int .i64) (.pair (.int .i64) (.sl (.int .i64))))))))) s) : s.1.length ≤ maxLen /\ (∀ x ∈ s.1, x.length ≤ maxLen) /\ s.2.2.1.length ≤ maxLen /\ s.2.2.2.length ≤ maxLen /\ ∀ x ∈ s.2.2.2, x.2.2.2.length ≤ maxLen := by
 obtain ⟨a, p, b, c⟩ := s;obtain ⟨⟨h1, h2⟩, _, ⟨h3, _⟩, h4, h5⟩ := h;exact ⟨h1, fun x hx => (h2 x hx).1, h3, h4, fun x hx => (h5 x hx).2.2.2.1⟩
theorem Aj1.val (xs : List MatV) (f : MatV × Unit -> Option (Bool × Unit)) (p : MatV -> Bool) (hf : ∀ x ∈ xs, f (x, ()) = some (p x, ())) (hn : xs.length < 4611686018427387904) :
   ∃ r : Int, Aj1.F (xs, f, ()) = some ((r, ()), ()) /\ ((r = -1 /\ ∀ x ∈ xs, p x = false) ∨ ∃ j : Nat, j < xs.length /\ r = j /\ p (xs.getD j (0, 0, 0, [])) = true /\ ∀ i, i < j -> p (xs.getD i (0, 0, 0, [])) = false) := by
 obtain ⟨r, hr, hq⟩ := Ev.loop (σ := Unit) (R := (Int × Unit) × Unit) (fun k i _ => Aj1.l2 k xs f xs.length (i : Int)) xs.length (fun i _ => ∀ j, j < i -> p (xs.getD j (0, 0, 0, [])) = false)
   (fun r => ∃ v : Int, r = ((v, ()), ()) /\ ((v = -1 /\ ∀ x ∈ xs, p x = false) ∨ ∃ j : Nat, j < xs.length /\ v = j /\ p (xs.getD j (0, 0, 0, [])) = true /\ ∀ i, i < j -> p (xs.getD i (0, 0, 0, [])) = false))
   (fun i s hi hI => by
     have E := fun k => Aj1.l2_eq k xs f xs.length (i : Int);simp only [if_pos (ltI.2 hi), if_pos (idxI.2 hi), Int.toNat_natCast, hf _ (A0z (0, 0, 0, []) hi), Option.bind_some, A0y (show i < 4611686018427387904 by omega)] at E;cases hp : p (xs.getD i (0, 0, 0, [])) with
     | true => exact .inl ⟨_, (Ev.const _).succ fun k => by rw [E, if_pos hp], i, rfl, .inr ⟨i, hi, rfl, hp, hI⟩⟩
     | false =>
       refine .inr ⟨(), fun j hj => ?_, Goes.succ fun k => by rw [E, if_neg (by rw [hp]; simp)]⟩;by_cases hji : j = i
       . rw [hji]; exact hp
       . exact hI j (by omega))
   (fun s hI => ⟨_, (Ev.const _).succ fun k => by rw [Aj1.l2_eq, if_neg (by simp)], -1, rfl, .inl ⟨rfl, fun x hx => by
     obtain ⟨j, hj, rfl⟩ := List.getElem_of_mem hx;rw [<- A0x (d := (0, 0, 0, [])) hj]; exact hI j hj⟩⟩) 0 () (Nat.zero_le _) (by intro j hj; omega)
 obtain ⟨v, rfl, hv⟩ := hq;exact ⟨v, Aj1.of _ _ (hr.of_eq fun k => rfl), hv⟩
theorem Am3.val (xs : List MatV) (f : MatV × Unit -> Option (Bool × Unit)) (p : MatV -> Bool) (hf : ∀ x ∈ xs, f (x, ()) = some (p x, ())) (hn : xs.length < 4611686018427387904) :
   Am3.F (xs, f, ()) = some ((xs.any p, ()), ()) := by
 obtain ⟨r, hr, h⟩ := Aj1.val xs f p hf hn;rw [Am3.eq, Am3.T, hr];simp only [Option.bind_some];rcases h with ⟨rfl, h⟩ | ⟨j, hj, rfl, hp, -⟩
 . have : xs.any p = false := by simp only [List.any_eq_false]; intro x hx; simp [h x hx]
   rw [this]; rfl
 . have : xs.any p = true := List.any_eq_true.2 ⟨_, A0z (0, 0, 0, []) hj, hp⟩;rw [this]; simp
theorem A1x {m : MatV} (h : MatOk m) : SmM (A0Q m) := by
 obtain ⟨-, hr, hc, hl, -⟩ := A2M h;have := A3A hr hc;unfold SmM Sm;omega
theorem Ad8.val (t : ShfV) (h : SmSh t) : ∃ v, Ad8.F (t, ()) = some ((v, ()), ()) /\ (v = true ↔ CplxOk t.1 /\ (∀ m ∈ t.2.2.2, MatOk m) /\ A0q (A0C t)) := by
 obtain ⟨c, p, st, ms⟩ := t;obtain ⟨hc, hst, hms⟩ := h;have hc : SmL c := hc;have hst : st.length ≤ 1048576 := hst;have hms : SmMs ms := hms;have hml := hms.1;obtain ⟨v1, h1, h1'⟩ := Aa5.val c hc;cases v1 with
 | false => exact ⟨false, Ad8.of _ _ _ _ ((Ev.const _).of_eq fun k => by rw [Ad8.T, h1]; rfl), by simp only [Bool.false_eq_true, false_iff]; exact fun hh => absurd (h1'.2 hh.1) (by simp)⟩
 | true =>
 have hcx := h1'.1 rfl;by_cases hall : ∀ m ∈ ms, MatOk m
 . have hb := Ab9.val (c, p, st, ms) hcx hst hml hall;have hsm : SmSh (A0C (c, p, st, ms)) := ⟨hc, hst, by simp only [A0C, List.length_map]; exact hml, fun m hm => by
     simp only [A0C, List.mem_map] at hm;obtain ⟨m', hm', rfl⟩ := hm;exact A1x (hall m' hm')⟩
   obtain ⟨v2, h2, h2'⟩ := Aa1.val _ hsm;obtain ⟨_, _, hg⟩ := Goes.loop (σ := Unit) (R := (Bool × Unit) × Unit) (fun k i _ => Ad8.l4 k c p st ms (i : Int)) ms.length (fun _ _ => True) (fun i _ hi _ => ⟨(), trivial, Goes.succ fun k => by
     have hm := hall _ (A0z (0, 0, 0, []) hi);have hlm : (ms.getD i (0, 0, 0, [])).2.2.2.length ≤ 1048576 := hms.2 _ (A0z _ hi);obtain ⟨v, hv, hv'⟩ := Af2.val (ms.getD i (0, 0, 0, [])) (by omega);have : v = true := hv'.2 hm;subst this;rw [Ad8.l4_eq, if_pos (ltI.2 hi), if_pos (idxI.2 hi)];simp only [Int.toNat_natCast, hv, Option.bind_some];rw [if_neg (by simp), A0y (by omega)]⟩) 0 () (Nat.zero_le _) trivial
   refine ⟨v2, Ad8.of _ _ _ _ ((hg _ ((Ev.const _).succ fun k => ?_)).of_eq fun k => by rw [Ad8.T, h1]; rfl), h2'.trans ⟨fun hh => ⟨hcx, hall, hh⟩, fun hh => hh.2.2⟩⟩;rw [Ad8.l4_eq, if_neg (by simp), hb];simp only [Option.bind_some, h2]
 . obtain ⟨v, hv, hv'⟩ := Ev.loop (σ := Unit) (R := (Bool × Unit) × Unit) (fun k i _ => Ad8.l4 k c p st ms (i : Int)) ms.length (fun i _ => ∀ n, n < i -> MatOk (ms.getD n (0, 0, 0, []))) (fun r => r = ((false, ()), ())) (fun i _ hi hI => by
     have hlm : (ms.getD i (0, 0, 0, [])).2.2.2.length ≤ 1048576 := hms.2 _ (A0z _ hi);obtain ⟨v, hv, hv'⟩ := Af2.val (ms.getD i (0, 0, 0, [])) (by omega);have E := fun k => Ad8.l4_eq k c p st ms (i : Int);simp only [if_pos (ltI.2 hi), if_pos (idxI.2 hi), Int.toNat_natCast, hv, Option.bind_some, A0y (show i < 4611686018427387904 by omega)] at E;cases v with
     | false => exact .inl ⟨_, (Ev.const _).succ fun k => by rw [E]; rfl, rfl⟩
     | true =>
       refine .inr ⟨(), fun n hn => ?_, Goes.succ fun k => by rw [E]; rfl⟩;by_cases hni : n = i
       . rw [hni]; exact hv'.1 rfl
       . exact hI n (by omega)) (fun _ hI => absurd (fun m hm => by
         obtain ⟨j, hj, rfl⟩ := List.getElem_of_mem hm;have := hI j hj
         rwa [A0x hj] at this) hall) 0 () (Nat.zero_le _) (by intro n hn; omega)
   subst hv';exact ⟨false, Ad8.of _ _ _ _ (hv.of_eq fun k => by rw [Ad8.T, h1]; rfl), by simp only [Bool.false_eq_true, false_iff]; exact fun hh => hall hh.2.1⟩
theorem Aj6.val (t : ShfV) (h : SmSh t) : ∃ v, Aj6.F (t, ()) = some ((v, ()), ()) /\ (v = true ↔ CplxOk t.1 /\ (∀ m ∈ t.2.2.2, MatOk m) /\ A0q (A0C t)) := by
 obtain ⟨c, p, st, ms⟩ := t;obtain ⟨hc, hst, hms⟩ := h;have hc : SmL c := hc;have hst : st.length ≤ 1048576 := hst;have hms : SmMs ms := hms;have hml := hms.1;have hcf := Am3.val ms (Am9.cloG (())) (fun m => @decide (¬ MatOk m) (Classical.propDecidable _)) (fun m hm => by
   show (Am9.F (m, ())).map (·.1) = _;have hlm : m.2.2.2.length ≤ 1048576 := hms.2 _ hm;obtain ⟨v, hv, hv'⟩ := Af8.val m (by omega);obtain ⟨q, r, cc, xs⟩ := m;rw [Am9.eq, Am9.T, hv];simp only [Option.bind_some, Option.map_some];congr 2;cases v with
   | true => simp [hv'.1 rfl]
   | false =>
     have : ¬ MatOk (q, r, cc, xs) := fun hh => absurd (hv'.2 hh) (by simp);simp [this]) (by omega)
 rw [Aj6.eq, Aj6.T, hcf];simp only [Option.bind_some];by_cases hall : ∀ m ∈ ms, MatOk m
 . have hany : (ms.any fun m => @decide (¬ MatOk m) (Classical.propDecidable _)) = false := by
     simp only [List.any_eq_false, decide_eq_true_eq, Classical.not_not]; exact hall
   have hb := Ac7.val (c, p, st, ms) hc hst hml hall;have hsm : SmSh (A0C (c, p, st, ms)) := ⟨hc, hst, by simp only [A0C, List.length_map]; exact hml, fun m hm => by
     simp only [A0C, List.mem_map] at hm;obtain ⟨m', hm', rfl⟩ := hm;exact A1x (hall m' hm')⟩
   obtain ⟨v2, h2, h2'⟩ := Ab6.val _ hsm;exact ⟨v2, by rw [hany, if_pos (by simp), hb]; simp only [Option.bind_some, h2], h2'.trans ⟨fun hh => ⟨hh.1, hall, hh⟩, fun hh => hh.2.2⟩⟩
 . have hany : (ms.any fun m => @decide (¬ MatOk m) (Classical.propDecidable _)) = true := by
     refine Classical.byContradiction fun hno => hall fun m hm => ?_;simp only [Bool.not_eq_true, List.any_eq_false, decide_eq_true_eq, Classical.not_not] at hno;exact hno m hm
   exact ⟨false, by rw [hany, if_neg (by simp)], by simp only [Bool.false_eq_true, false_iff]; exact fun hh => hall hh.2.1⟩
theorem A0f {t : ShfV} (h : SmSh t) (hm : ∀ m ∈ t.2.2.2, MatOk m) : SmSh (A0C t) := by
 obtain ⟨hc, hst, hms⟩ := h;exact ⟨hc, hst, by simp only [A0C, List.length_map]; exact hms.1, fun m hm' => by
   simp only [A0C, List.mem_map] at hm';obtain ⟨m', hm'', rfl⟩ := hm';exact A1x (hm m' hm'')⟩
def mulM (a b : MatV) : MatV := (a.1, a.2.1, b.2.2.1, A0T a.2.1.toNat b.2.2.1.toNat fun i j => sumN (fun k => a.2.2.2.getD (i * a.2.2.1.toNat + k) 0 * b.2.2.2.getD (k * b.2.2.1.toNat + j) 0) a.2.2.1.toNat % a.1)
theorem mulM_ok {a b : MatV} (ha : MatOk a) (hb : MatOk b) : MatOk (mulM a b) := by
 obtain ⟨R, C, h1, h2, h3, h4, h5, h6, h7⟩ := ha.nat;obtain ⟨R', C', k1, k2, k3, k4, k5, k6, k7⟩ := hb.nat;refine ⟨ha.1, ha.2.1, hb.2.2.1, ?_, fun x hx => ?_⟩
 . simp only [mulM, A0B, h1, k2, Int.toNat_natCast]; simp
 . simp only [mulM, A0T, List.mem_flatMap, List.mem_map] at hx;obtain ⟨i, _, j, _, rfl⟩ := hx;exact A1E h6.1
theorem Ak9.val (p : Int) (R C : Nat) (xs : List Int) (hm : MatOk (p, (R : Int), (C : Int), xs)) : Ak9.F ((p, (R : Int), (C : Int), xs), ()) = some ((A0o (A0Q (p, (R : Int), (C : Int), xs)).2.2.2 C R, ()), ()) := by
 have hR : (R : Int) ≤ 32 := hm.2.1.2;have hC : (C : Int) ≤ 32 := hm.2.2.1.2;have ht := Ag2.val _ hm;rw [Ak9.eq, Ak9.T, ht];simp only [Option.bind_some];have := Ae5.val p C R (A0Q (p, (R : Int), (C : Int), xs)).2.2.2 (by omega) (by omega) (by simp only [A0Q, A0B, Int.toNat_natCast]);rw [show A0Q (p, (R : Int), (C : Int), xs) = (p, (C : Int), (R : Int), (A0Q (p, (R : Int), (C : Int), xs)).2.2.2) from rfl, this];rfl
theorem A3z (p : Int) (R C : Nat) (xs : List Int) {i j : Nat} (hi : i < C) (hj : j < R) : (A0Q (p, (R : Int), (C : Int), xs)).2.2.2.getD (i * R + j) 0 = xs.getD (j * C + i) 0 := by
 simp only [A0Q, Int.toNat_natCast];rw [A1M _ _ _ hi hj]
theorem Ai7.val (a b : MatV) (ha : MatOk a) (hb : MatOk b) (hp : a.1 = b.1) (hs : a.2.2.1 = b.2.1) : Ai7.F (a, b, ()) = some ((mulM a b, ()), ()) := by
 obtain ⟨R, C, h1, h2, h3, h4, h5, h6, h7⟩ := ha.nat;obtain ⟨R', C', k1, k2, k3, k4, k5, k6, k7⟩ := hb.nat;obtain ⟨p, r, c, xs⟩ := a;obtain ⟨q, r', c', ys⟩ := b;simp only [] at h1 h2 h5 h6 h7 k1 k2 k5 k6 k7 hp hs;subst h1 h2 k1 k2 hp;obtain rfl : C = R' := by omega
 have htk := A2M hb;have hal : A0J 0 (p - 1) (A0Q (p, (C : Int), (C' : Int), ys)).2.2.2 := htk.2.2.2.2;rw [Ai7.eq, Ai7.T, Ak9.val p C C' ys hb];simp only [Option.bind_some];rw [Ab7.val p R C' _ (fun i j => sumN (fun k => xs.getD (i * C + k) 0 * ys.getD (k * C' + j) 0) C % p) h3 k4 (fun i j hi hj => by
   show (An9.F ((i : Int), (j : Int), (p, (R : Int), (C : Int), xs), A0o (A0Q (p, (C : Int), (C' : Int), ys)).2.2.2 C' C, ())).map (·.1) = _;have l1 := A0U h5 hi;have l2 : (rowL (A0Q (p, (C : Int), (C' : Int), ys)).2.2.2 C j).length = C := A0U (R := C') (by simp only [A0Q, A0B, Int.toNat_natCast]) hj;rw [An9.eq, An9.T, Af6.val p R C xs (by omega) (by omega) h5 i hi];simp only [Option.bind_some, Int.toNat_natCast];rw [if_pos (by rw [A1r]; omega), A2W _ hj, Ai5.val _ _ p h6 (fun x hx => h7 x (A1a hx)) (fun x hx => hal x (A1a hx)) (by omega) (by omega)];simp only [Option.bind_some, Option.map_some, l1];congr 3;refine A2a fun k hk => ?_;rw [dotE, A1p hk, A1p hk, A3z p C C' ys hj hk])]
 simp only [Option.bind_some, mulM, Int.toNat_natCast]
theorem Ac9.val (p : Int) (R C : Nat) (hR : R ≤ 1024) (hC : C ≤ 1024) : Ac9.F (p, (R : Int), (C : Int), ()) = some (((p, (R : Int), (C : Int), List.replicate (R * C) 0), ()), ()) := by
 have h1 : R * C ≤ 1024 * 1024 := Nat.mul_le_mul hR hC;have e : (R : Int) * (C : Int) = ((R * C : Nat) : Int) := by simp
 rw [Ac9.eq, Ac9.T, e, A0v (by omega) (by omega), if_pos (by simp only [bigN]; omega)];simp only [Int.toNat_natCast]
theorem Ad1.val (a b : MatV) (ha : MatOk a) (hb : MatOk b) (hp : a.1 = b.1) (hs : a.2.2.1 = b.2.1) : Ad1.F (a, b, ()) = some ((mulM a b, ()), ()) := by
 obtain ⟨R, C, h1, h2, h3, h4, h5, h6, h7⟩ := ha.nat;obtain ⟨R', C', k1, k2, k3, k4, k5, k6, k7⟩ := hb.nat;obtain ⟨p, r, c, xs⟩ := a;obtain ⟨q, r', c', ys⟩ := b;simp only [] at h1 h2 h5 h6 h7 k1 k2 k5 k6 k7 hp hs;subst h1 h2 k1 k2 hp;obtain rfl : C = R' := by omega
 obtain ⟨f, hf⟩ : ∃ f : Nat -> Nat -> Nat -> Int, f = fun i j k => xs.getD (i * C + k) 0 * ys.getD (k * C' + j) 0 := ⟨_, rfl⟩;have hfb : ∀ i j k, i < R -> j < C' -> k < C -> 0 ≤ f i j k /\ f i j k ≤ ((62500 : Nat) : Int) := fun i j k hi hj hk => by
   rw [hf];have e1 := A2n hi hk;have e2 := A2n hk hj;exact A1j h6 (A0k h7 (by omega)) (A0k k7 (by omega))
 have hsb : ∀ i j n, i < R -> j < C' -> n ≤ C -> 0 ≤ sumN (f i j) n /\ sumN (f i j) n ≤ 2000000 := fun i j n hi hj hn => by
   have := sumN_bd (f := f i j) (n := n) fun k hk => hfb i j k hi hj (by omega);omega
 obtain ⟨y, hy1, hy2, -, hg⟩ := Goes.fillSet (R := ((MatV × Unit) × Unit)) (fun k i x => Ad1.l3 k p (R : Int) (C : Int) xs p (C : Int) (C' : Int) ys (i : Int) 0 0 0 [] p (R : Int) (C' : Int) x)
   (fun k i j x => Ad1.l6 k p (R : Int) (C : Int) xs p (C : Int) (C' : Int) ys (i : Int) (j : Int) 0 0 0 [] p (R : Int) (C' : Int) x) R C' (R * C') (fun i j => sumN (f i j) C % p) (fun i j => i * C' + j)
   (fun i j hi hj => A2n hi hj) (fun i j i' j' _ hj _ hj' he => rowInj _ _ _ _ hj hj' he)
   (fun i x hi hx => Goes.succ fun k => by rw [Ad1.l3_eq, if_pos (ltI.2 hi)]; rfl)
   (fun i j x hi hj hx => by
     refine (Goes.succ fun k => by rw [Ad1.l6_eq, if_pos (ltI.2 hj)]).trans ?_;obtain ⟨s, hs, hg⟩ := Goes.loop (R := ((MatV × Unit) × Unit)) (fun n k (s : Int) => Ad1.l10 n p (R : Int) (C : Int) xs p (C : Int) (C' : Int) ys (i : Int) (j : Int) s (k : Int) 0 0 0 [] p (R : Int) (C' : Int) x) C (fun k s => s = sumN (f i j) k) (fun k s hk h8 => ⟨_, rfl, Goes.succ fun n => by
       obtain ⟨e1, e2⟩ := A0R h3 h4 hi hk;obtain ⟨e3, e4⟩ := A0R h4 k4 hk hj;have b1 := hfb i j k hi hj hk;have b2 := hsb i j k hi hj (by omega);rw [Ad1.l10_eq, if_pos (ltI.2 hk), e1, if_pos (by omega), e3, if_pos (by omega), A0y (by omega), h8];simp only [Int.toNat_natCast];have ef : xs.getD (i * C + k) 0 * ys.getD (k * C' + j) 0 = f i j k := by rw [hf]
       rw [ef, A0v (x := f i j k) (by omega) (by omega), A0v (by omega) (by omega)];rfl⟩) 0 0 (Nat.zero_le _) rfl
     refine hg.trans (Goes.succ fun n => ?_);obtain ⟨e5, e6⟩ := A0R h3 k4 hi hj;have b2 := hsb i j C hi hj (Nat.le_refl _);rw [Ad1.l10_eq, if_neg (by simp), if_neg (by omega), e5, if_pos (by omega), A0y (by omega), hs, A1y b2.1];simp only [Int.toNat_natCast])
   (fun i x hi hx => Goes.succ fun k => by rw [Ad1.l6_eq, if_neg (by simp), A0y (by omega)]) (List.replicate (R * C') 0) (by simp)
 have hy : y = A0T R C' fun i j => sumN (fun k => xs.getD (i * C + k) 0 * ys.getD (k * C' + j) 0) C % p := A1V hy1 fun i j hi hj => by rw [hy2 i j hi hj, hf]
 refine Ad1.of _ _ _ _ _ _ _ _ (Ev.of_eq (hg _ ((Ev.const _).succ fun k => ?_)) fun k => ?_)
 . rw [Ad1.l3_eq, if_neg (by simp), hy]; simp only [mulM, Int.toNat_natCast]
 . rw [Ad1.T, Ac9.val p R C' (by omega) (by omega)]; rfl
theorem Ag7.same (xs ys : List Int) (h : Sm xs) : ∃ b, Ag7.F (xs, ys, ()) = some ((b, ()), ()) /\ (b = true ↔ xs = ys) := by
 have hn : xs.length ≤ 1048576 := h;by_cases hl : xs.length = ys.length
 . obtain ⟨b, hb, hb'⟩ := A0X (fun k i => Ag7.l4 k xs ys xs.length (i : Int)) xs ys 0 hl (fun i hi => ⟨xs.getD i 0 == ys.getD i 0, by simp, fun k => by
     rw [Ag7.l4_eq, if_pos (ltI.2 hi), if_pos (idxI.2 hi), if_pos (idx2 (hl ▸ hi))]; simp only [Int.toNat_natCast]; rw [A0y (by omega)]; rfl⟩) (fun k => by rw [Ag7.l4_eq, if_neg (by simp)])
   exact ⟨b, Ag7.of _ _ (hb.of_eq fun k => by rw [Ag7.T, if_neg (by simp [hl])]; rfl), hb'⟩
 . exact ⟨false, Ag7.of _ _ ((Ev.const _).of_eq fun k => by rw [Ag7.T, if_pos (by simp; omega)]), by simp; intro e; exact hl (by rw [e])⟩
theorem Ad0.same (m n : MatV) (h : SmM m) : ∃ b, Ad0.F (m, n, ()) = some ((b, ()), ()) /\ (b = true ↔ m = n) := by
 obtain ⟨a, b, c, xs⟩ := m;obtain ⟨a', b', c', ys⟩ := n;have hn : xs.length ≤ 1048576 := h;simp only [Prod.mk.injEq];by_cases h1 : a = a'
 . by_cases h2 : b = b'
   . by_cases h3 : c = c'
     . by_cases hl : xs.length = ys.length
       . obtain ⟨e, he, he'⟩ := A0X (fun k i => Ad0.l4 k a b c xs a' b' c' ys (i : Int)) xs ys 0 hl (fun i hi => ⟨xs.getD i 0 == ys.getD i 0, by simp, fun k => by
           rw [Ad0.l4_eq, if_pos (ltI.2 hi), if_pos (idxI.2 hi), if_pos (idx2 (hl ▸ hi))]; simp only [Int.toNat_natCast]; rw [A0y (by omega)]; rfl⟩) (fun k => by rw [Ad0.l4_eq, if_neg (by simp)])
         exact ⟨e, Ad0.of _ _ _ _ _ _ _ _ (he.of_eq fun k => by rw [Ad0.T, if_neg (by simp [h1]), if_neg (by simp [h2]), if_neg (by simp [h3]), if_neg (by simp [hl])]; rfl), by simp [h1, h2, h3, he']⟩
       . exact ⟨false, Ad0.of _ _ _ _ _ _ _ _ ((Ev.const _).of_eq fun k => by rw [Ad0.T, if_neg (by simp [h1]), if_neg (by simp [h2]), if_neg (by simp [h3]), if_pos (by simp; omega)]), by simp [h1, h2, h3]; intro e; exact hl (by rw [e])⟩
     . exact ⟨false, Ad0.of _ _ _ _ _ _ _ _ ((Ev.const _).of_eq fun k => by rw [Ad0.T, if_neg (by simp [h1]), if_neg (by simp [h2]), if_pos (by simp [h3])]), by simp [h3]⟩
   . exact ⟨false, Ad0.of _ _ _ _ _ _ _ _ ((Ev.const _).of_eq fun k => by rw [Ad0.T, if_neg (by simp [h1]), if_pos (by simp [h2])]), by simp [h2]⟩
 . exact ⟨false, Ad0.of _ _ _ _ _ _ _ _ ((Ev.const _).of_eq fun k => by rw [Ad0.T, if_pos (by simp [h1])]), by simp [h1]⟩
theorem Ak4.same (m n : MatV) (h : SmM m) : ∃ b, Ak4.F (m, n, ()) = some ((b, ()), ()) /\ (b = true ↔ m = n) := by
 obtain ⟨a, b, c, xs⟩ := m;obtain ⟨a', b', c', ys⟩ := n;obtain ⟨e, he, he'⟩ := Ag7.same xs ys h;rw [Ak4.eq, Ak4.T, he];simp only [Option.bind_some, Prod.mk.injEq];by_cases h1 : a = a'
 . by_cases h2 : b = b'
   . by_cases h3 : c = c'
     . exact ⟨e, by rw [if_pos (by simp [h1]), if_pos (by simp [h2]), if_pos (by simp [h3])], by simp [h1, h2, h3, he']⟩
     . exact ⟨false, by rw [if_pos (by simp [h1]), if_pos (by simp [h2]), if_neg (by simp [h3])], by simp [h3]⟩
   . exact ⟨false, by rw [if_pos (by simp [h1]), if_neg (by simp [h2])], by simp [h2]⟩
 . exact ⟨false, by rw [if_neg (by simp [h1])], by simp [h1]⟩
theorem Goes.find {R T : Type} {L : Nat -> Nat -> Option R} {M : Nat -> Option R} {n : Nat} (i0 : Nat) (f : Nat -> Option T) (res : T -> R)
   (hstep : ∀ i, i0 ≤ i -> i < n -> (f i = none /\ Goes (fun k => L k i) (fun k => L k (i + 1))) ∨ (∃ t, f i = some t /\ Ev (fun k => L k i) (res t)))
   (hend : Goes (fun k => L k n) M) (i : Nat) (h0 : i0 ≤ i) (hi : i ≤ n) :
   ((List.range' i (n - i)).findSome? f = none /\ Goes (fun k => L k i) M) ∨ (∃ t, (List.range' i (n - i)).findSome? f = some t /\ Ev (fun k => L k i) (res t)) := by
 have key : ∀ m i, i0 ≤ i -> i + m = n -> ((List.range' i m).findSome? f = none /\ Goes (fun k => L k i) M) ∨ (∃ t, (List.range' i m).findSome? f = some t /\ Ev (fun k => L k i) (res t)) := by
   intro m;induction m with
   | zero => intro i h0 hi; obtain rfl : i = n := by omega
             exact .inl ⟨rfl, hend⟩
   | succ m ih =>
     intro i h0 hi;rw [List.range'_succ, List.findSome?_cons];rcases hstep i h0 (by omega) with ⟨h1, h2⟩ | ⟨t, h1, h2⟩
     . rw [h1];rcases ih (i + 1) (by omega) (by omega) with ⟨h3, h4⟩ | ⟨t, h3, h4⟩
       . exact .inl ⟨h3, h2.trans h4⟩
       . exact .inr ⟨t, h3, h2 _ h4⟩
     . rw [h1]; exact .inr ⟨t, rfl, h2⟩
 exact key (n - i) i h0 (by omega)
def A0j (s : ShfV) (i j : Nat) : MatV := s.2.2.2.getD (off s.1 i + j) (0, 0, 0, [])
theorem A2e {c : List (List Int)} (h : CplxOk c) {k i : Nat} (hk : k < c.length) (hi : i < (fcs c k).length) : ∃ f : Nat, (fcs c k).getD i 0 = (f : Int) /\ f < c.length /\ c.getD f [] = A0F (c.getD k []) i /\ i < (c.getD k []).length /\ 1 < (c.getD k []).length := by
 rw [A0K] at hi;have h1 : 1 < (c.getD k []).length := by
   by_cases h1 : 1 < (c.getD k []).length
   . exact h1
   . rw [if_neg h1] at hi; omega
 rw [if_pos h1] at hi;have hf : (A0I (c.getD k [])) = (List.range (c.getD k []).length).map (A0F (c.getD k [])) := by rw [A0I, if_pos h1]
 have hm : A0F (c.getD k []) i ∈ A0I (c.getD k []) := by rw [hf]; exact List.mem_map.2 ⟨i, List.mem_range.2 hi, rfl⟩
 obtain ⟨h2, h3⟩ := A0a (A1U h hk hm);refine ⟨_, ?_, h2, h3, hi, h1⟩;rw [fcs, hf];obtain ⟨s, hs⟩ : ∃ s, c.getD k [] = s := ⟨_, rfl⟩;rw [hs] at hi ⊢;simp only [List.getD_eq_getElem?_getD, List.getElem?_map, List.getElem?_range hi, Option.map_some, Option.getD_some]
theorem Ag0.val (s : ShfV) (h : CplxOk s.1) (n : Nat) (hn : n ≤ s.1.length) : Ag0.F (s, (n : Int), ()) = some ((((off s.1 n : Nat) : Int), ()), ()) := by
 obtain ⟨c, p, st, ms⟩ := s;have h : CplxOk c := h;have hn : n ≤ c.length := hn;have hcl := h.1;have hos := A0l h hn;have hcut : cutL c (0 : Int) (n : Int) = c.take n := by simp [cutL]
 have hlen : (c.take n).length = n := by simp; omega
 refine Ag0.of _ _ _ _ _ (Ev.of_eq (N := fun k => Ag0.l3 k 0 (c.take n) (n : Int) ((0 : Nat) : Int)) ?_ fun k => by rw [Ag0.T, if_pos (by omega), hcut, hlen]; rfl);obtain ⟨x, hx, hg⟩ := Goes.loop (R := ((Int × Unit) × Unit)) (fun k i (x : Int) => Ag0.l3 k x (c.take n) (n : Int) (i : Int)) n (fun i x => x = (off c i : Int)) (fun i x hi h2 => ⟨_, rfl, Goes.succ fun k => by
   have hic : i < c.length := by omega
   have hoff := A0l h (show i ≤ c.length by omega);have h4 := (h.2 i hic).1.1.2;have ht : (c.take n).getD i [] = c.getD i [] := by simp only [List.getD_eq_getElem?_getD, List.getElem?_take, hi, if_true]
   rw [Ag0.l3_eq, if_pos (ltI.2 hi), if_pos (by rw [hlen]; omega)];simp only [Int.toNat_natCast, ht];rw [off, A0K];by_cases h1 : 1 < (c.getD i []).length
   . rw [if_pos (by simp only [decide_eq_true_eq]; omega), Aa6.eq, Aa6.T, if_pos h1];simp only [Option.bind_some];rw [A0v (by omega) (by omega), A0y (by omega), h2];congr 1
   . rw [if_neg (by simp only [decide_eq_true_eq]; omega), if_neg h1, A0y (by omega), h2];rfl⟩) 0 0 (Nat.zero_le _) rfl
 refine hg _ ((Ev.const _).succ fun k => ?_);rw [Ag0.l3_eq, if_neg (by simp), hx]
theorem Ac0.val (s : ShfV) (h : A0q s) (i j : Nat) (hi : i < s.1.length) (hj : j < (fcs s.1 i).length) : Ac0.F (s, (i : Int), (j : Int), ()) = some ((A0j s i j, ()), ()) := by
 have h1 := Ag0.val s h.1 i (by omega);have h2 := A2L hi hj;have h3 := h.2.2.2.1;have h4 := A0l h.1 (Nat.le_refl s.1.length);have h5 := h.1.1;have hT : Ac0.F (s, (i : Int), (j : Int), ()) = Ac0.T s.1 s.2.1 s.2.2.1 s.2.2.2 (i : Int) (j : Int) := Ac0.eq _ _ _ _ _ _;have hw : IntKind.i64.wrap (((off s.1 i : Nat) : Int) + (j : Int)) = ((off s.1 i + j : Nat) : Int) := by rw [A0v (by omega) (by omega)]; omega
 have h1 : Ag0.F ((s.1, (s.2.1, (s.2.2.1, s.2.2.2))), (i : Int), ()) = _ := h1;rw [hT, Ac0.T, h1];simp only [Option.bind_some, hw];rw [if_pos (by omega)];simp only [Int.toNat_natCast];rfl
theorem Ab1.val (s : ShfV) (h : A0q s) (i j : Nat) (hi : i < s.1.length) (hj : j < (fcs s.1 i).length) : Ab1.F (s, (i : Int), (j : Int), ()) = some ((A0j s i j, ()), ()) := by
 have h2 := A2L hi hj;have h3 := h.2.2.2.1;have h4 := A0l h.1 (Nat.le_refl s.1.length);have h5 := h.1.1;have h1 := Ac4.val s.1 h.1 i (by omega) j (by omega);have hT : Ab1.F (s, (i : Int), (j : Int), ()) = Ab1.T s.1 s.2.1 s.2.2.1 s.2.2.2 (i : Int) (j : Int) := Ab1.eq _ _ _ _ _ _;rw [hT, Ab1.T, h1];simp only [Option.bind_some];rw [if_pos (by omega)];simp only [Int.toNat_natCast];rfl
def fc (c : List (List Int)) (k i : Nat) : Nat := ((fcs c k).getD i 0).toNat
def sqA (s : ShfV) (k i j : Nat) : MatV := mulM (A0j s k i) (A0j s (fc s.1 k i) (j - 1))
def sqB (s : ShfV) (k i j : Nat) : MatV := mulM (A0j s k j) (A0j s (fc s.1 k j) i)
theorem A1W {s : ShfV} (h : A0q s) {i j : Nat} (hi : i < s.1.length) (hj : j < (fcs s.1 i).length) : A2x s.1 s.2.1 s.2.2.1 (A0j s i j) i j := h.2.2.2.2 i hi j hj
structure SqFit (s : ShfV) (k i j : Nat) (f : Nat) : Prop where
 at_ : (fcs s.1 k).getD i 0 = (f : Int)
 fc_ : fc s.1 k i = f
 lt : f < s.1.length
 jlt : j < (fcs s.1 f).length
 ilt : i < (fcs s.1 k).length
 dir : Ai7.F (A0j s k i, A0j s f j, ()) = some ((mulM (A0j s k i) (A0j s f j), ()), ())
 tim : Ad1.F (A0j s k i, A0j s f j, ()) = some ((mulM (A0j s k i) (A0j s f j), ()), ())
 ok : MatOk (mulM (A0j s k i) (A0j s f j))
theorem A2s {s : ShfV} (h : A0q s) {k i j : Nat} (hk : k < s.1.length) (h3 : 2 < (s.1.getD k []).length) (hi : i < (s.1.getD k []).length) (hj : j + 1 < (s.1.getD k []).length) : ∃ f, SqFit s k i j f := by
 have hil : i < (fcs s.1 k).length := by rw [A0K, if_pos (by omega)]; exact hi
 obtain ⟨f, h1, h2, h4, h5, h6⟩ := A2e h.1 hk hil;have hfl : (s.1.getD f []).length = (s.1.getD k []).length - 1 := by rw [h4]; exact A0N hi
 have hjl : j < (fcs s.1 f).length := by rw [A0K, if_pos (by omega)]; omega
 have m1 := A1W h hk hil;have m2 := A1W h h2 hjl;have hp : (A0j s k i).1 = (A0j s f j).1 := by rw [m1.2.1, m2.2.1]
 have hs : (A0j s k i).2.2.1 = (A0j s f j).2.1 := by rw [m1.2.2.2, m2.2.2.1, h1]; rfl
 exact ⟨f, h1, by rw [fc, h1, Int.toNat_natCast], h2, hjl, hil, Ai7.val _ _ m1.1 m2.1 hp hs, Ad1.val _ _ m1.1 m2.1 hp hs, mulM_ok m1.1 m2.1⟩
theorem MatOk.small {m : MatV} (h : MatOk m) : SmM m := by
 have := A3A h.2.1 h.2.2.1;have := h.2.2.2.1;unfold SmM Sm;omega
noncomputable def A1J (s : ShfV) (k i j : Nat) : Option (Nat × Nat × Nat) := @ite _ (sqA s k i j = sqB s k i j) (Classical.propDecidable _) none (some (k, i, j))
noncomputable def A2y (s : ShfV) (k n i : Nat) : Option (Nat × Nat × Nat) := (List.range' (i + 1) (n - (i + 1))).findSome? (A1J s k i)
noncomputable def A0p (s : ShfV) (k : Nat) : Option (Nat × Nat × Nat) := if (s.1.getD k []).length < 3 then none else (List.range' 0 ((s.1.getD k []).length - 0)).findSome? (A2y s k (s.1.getD k []).length)
noncomputable def A0r (s : ShfV) : Option (Nat × Nat × Nat) := (List.range' 0 (s.1.length - 0)).findSome? (A0p s)
theorem Ab3.val (s : ShfV) (h : A0q s) : Ab3.F (s, ()) = some ((match A0r s with | none => (0, 0, false, ()) | some (k, i, j) => ((k : Int), (fcs s.1 (fc s.1 k i)).getD (j - 1) 0, true, ())), ()) := by
 have hcl := h.1.1;have hT : ∀ r, Ev (fun k => Ab3.T k s.1 s.2.1 s.2.2.1 s.2.2.2) r -> Ab3.F (s, ()) = some r := fun r hr => Ab3.of _ _ _ _ hr;have res : ∀ t : Nat × Nat × Nat, ((Int × Int × Bool × Unit) × Unit) := fun t => (((t.1 : Int), (fcs s.1 (fc s.1 t.1 t.2.1)).getD (t.2.2 - 1) 0, true, ()), ());have main := Goes.find (R := ((Int × Int × Bool × Unit) × Unit)) (L := fun n k => Ab3.l2 n s.1 (s.1.length : Int) (k : Int) s.1 s.2.1 s.2.2.1 s.2.2.2) (M := fun _ => some ((0, 0, false, ()), ())) (n := s.1.length) 0 (A0p s) (fun t : Nat × Nat × Nat => (((t.1 : Int), (fcs s.1 (fc s.1 t.1 t.2.1)).getD (t.2.2 - 1) 0, true, ()), ())) (fun k _ hk => by
   have E := fun n => Ab3.l2_eq n s.1 (s.1.length : Int) (k : Int) s.1 s.2.1 s.2.2.1 s.2.2.2;simp only [if_pos (ltI.2 hk), if_pos (idxI.2 hk), Int.toNat_natCast, A0y (show k < 4611686018427387904 by omega), Ab4.val s.1 h.1 k hk, Option.bind_some] at E;by_cases h3 : (s.1.getD k []).length < 3
   . exact .inl ⟨by rw [A0p, if_pos h3], Goes.succ fun n => by rw [E, if_pos (by simp only [decide_eq_true_eq]; omega)]⟩
   obtain ⟨t, ht⟩ : ∃ t, s.1.getD k [] = t := ⟨_, rfl⟩;have h4 := (h.1.2 k hk).1.1.2;rw [ht] at h4 h3;have hw : A0p s k = (List.range' 0 (t.length - 0)).findSome? (A2y s k t.length) := by rw [A0p, ht, if_neg h3]
   rw [hw];simp only [ht] at E;have e0 : Goes (fun n => Ab3.l2 n s.1 (s.1.length : Int) (k : Int) s.1 s.2.1 s.2.2.1 s.2.2.2) (fun n => Ab3.l8 n t (k : Int) s.1 (s.1.length : Int) (k : Int) (t.length : Int) ((0 : Nat) : Int) s.1 s.2.1 s.2.2.1 s.2.2.2 (fcs s.1 k)) := Goes.succ fun n => by rw [E, if_neg (by simp only [decide_eq_true_eq]; omega)]; rfl
   have inner := Goes.find (R := ((Int × Int × Bool × Unit) × Unit)) (L := fun n i => Ab3.l8 n t (k : Int) s.1 (s.1.length : Int) (k : Int) (t.length : Int) (i : Int) s.1 s.2.1 s.2.2.1 s.2.2.2 (fcs s.1 k)) (M := fun n => Ab3.l2 n s.1 (s.1.length : Int) ((k + 1 : Nat) : Int) s.1 s.2.1 s.2.2.1 s.2.2.2) (n := t.length) 0 (A2y s k t.length) (fun t : Nat × Nat × Nat => (((t.1 : Int), (fcs s.1 (fc s.1 t.1 t.2.1)).getD (t.2.2 - 1) 0, true, ()), ())) (fun i _ hi => by
     have e1 : Goes (fun n => Ab3.l8 n t (k : Int) s.1 (s.1.length : Int) (k : Int) (t.length : Int) (i : Int) s.1 s.2.1 s.2.2.1 s.2.2.2 (fcs s.1 k)) (fun n => Ab3.l11 n t (k : Int) (i : Int) ((i + 1 : Nat) : Int) s.1 (s.1.length : Int) (k : Int) (t.length : Int) (i : Int) s.1 s.2.1 s.2.2.1 s.2.2.2 (fcs s.1 k)) := Goes.succ fun n => by rw [Ab3.l8_eq, if_pos (ltI.2 hi), A0y (by omega)]
     have deep := Goes.find (R := ((Int × Int × Bool × Unit) × Unit)) (L := fun n j => Ab3.l11 n t (k : Int) (i : Int) (j : Int) s.1 (s.1.length : Int) (k : Int) (t.length : Int) (i : Int) s.1 s.2.1 s.2.2.1 s.2.2.2 (fcs s.1 k)) (M := fun n => Ab3.l8 n t (k : Int) s.1 (s.1.length : Int) (k : Int) (t.length : Int) ((i + 1 : Nat) : Int) s.1 s.2.1 s.2.2.1 s.2.2.2 (fcs s.1 k)) (n := t.length) (i + 1) (A1J s k i) (fun t : Nat × Nat × Nat => (((t.1 : Int), (fcs s.1 (fc s.1 t.1 t.2.1)).getD (t.2.2 - 1) 0, true, ()), ())) (fun j hij hj => by
       obtain ⟨f, F⟩ := A2s h hk (by rw [ht]; omega) (show i < _ by rw [ht]; omega) (show j - 1 + 1 < _ by rw [ht]; omega);obtain ⟨g, G⟩ := A2s h hk (by rw [ht]; omega) (show j < _ by rw [ht]; omega) (show i + 1 < _ by rw [ht]; omega);have hA : sqA s k i j = mulM (A0j s k i) (A0j s f (j - 1)) := by rw [sqA, F.fc_]
       have hB : sqB s k i j = mulM (A0j s k j) (A0j s g i) := by rw [sqB, G.fc_]
       obtain ⟨b, hb, hb'⟩ := Ak4.same (mulM (A0j s k i) (A0j s f (j - 1))) (mulM (A0j s k j) (A0j s g i)) F.ok.small;have E2 := fun n => Ab3.l11_eq n t (k : Int) (i : Int) (j : Int) s.1 (s.1.length : Int) (k : Int) (t.length : Int) (i : Int) s.1 s.2.1 s.2.2.1 s.2.2.2 (fcs s.1 k);simp only [if_pos (ltI.2 hj), Ac0.val s h k i hk F.ilt, Ac0.val s h k j hk G.ilt, A2b (show 0 < j by omega) (show j < 4611686018427387904 by omega), Option.bind_some, if_pos (idxI.2 F.ilt), if_pos (idxI.2 G.ilt), Int.toNat_natCast, F.at_, G.at_, Ac0.val s h f (j - 1) F.lt F.jlt, Ac0.val s h g i G.lt G.jlt, F.dir, G.dir, hb, Ab4.val s.1 h.1 f F.lt, if_pos (idxI.2 F.jlt), A0y (show j < 4611686018427387904 by omega)] at E2;cases b with
       | true => exact .inl ⟨by rw [A1J, if_pos (by rw [hA, hB]; exact hb'.1 rfl)], Goes.succ fun n => by rw [E2, if_neg (by simp)]⟩
       | false => exact .inr ⟨(k, i, j), by rw [A1J, if_neg (by rw [hA, hB]; exact fun e => absurd (hb'.2 e) (by simp))], (Ev.const _).succ fun n => by rw [E2, if_pos (by simp)]; simp only [F.fc_]⟩) (Goes.succ fun n => by rw [Ab3.l11_eq, if_neg (by simp), A0y (by omega)]) (i + 1) (Nat.le_refl _) (by omega)
     rcases deep with ⟨d1, d2⟩ | ⟨r, d1, d2⟩
     . exact .inl ⟨d1, e1.trans d2⟩
     . exact .inr ⟨r, d1, e1 _ d2⟩) (Goes.succ fun n => by rw [Ab3.l8_eq, if_neg (by simp), A0y (by omega)]) 0 (Nat.le_refl _) (Nat.zero_le _)
   rcases inner with ⟨d1, d2⟩ | ⟨r, d1, d2⟩
   . exact .inl ⟨d1, e0.trans d2⟩
   . exact .inr ⟨r, d1, e0 _ d2⟩) (Goes.succ fun n => by rw [Ab3.l2_eq, if_neg (by simp)]) 0 (Nat.le_refl _) (Nat.zero_le _)
 rcases main with ⟨d1, d2⟩ | ⟨⟨k, i, j⟩, d1, d2⟩
 . rw [A0r, d1];exact hT _ ((d2 _ (Ev.const _)).of_eq fun n => rfl)
 . rw [A0r, d1];exact hT _ (d2.of_eq fun n => rfl)
theorem Af5.val (s : ShfV) (h : A0q s) {k i j : Nat} (hk : k < s.1.length) (h3 : 2 < (s.1.getD k []).length) (hi : i < (s.1.getD k []).length) (hj : j < (s.1.getD k []).length) (hij : i ≠ j) :
   Af5.F (s, (k : Int), (i : Int), (j : Int), ()) = some ((mulM (A0j s k i) (A0j s (fc s.1 k i) (if i < j then j - 1 else j)), ()), ()) := by
 have hT : Af5.F (s, (k : Int), (i : Int), (j : Int), ()) = Af5.T s.1 s.2.1 s.2.2.1 s.2.2.2 (k : Int) (i : Int) (j : Int) := Af5.eq _ _ _ _ _ _ _;have h4 := (h.1.2 k hk).1.1.2;have hcl := h.1.1;rw [hT, Af5.T, Ab8.val s.1 h.1 k hk];simp only [Option.bind_some];by_cases hlt : i < j
 . obtain ⟨f, F⟩ := A2s h hk h3 hi (show j - 1 + 1 < _ by omega);have g1 : Ab1.F ((s.1, (s.2.1, (s.2.2.1, s.2.2.2))), (k : Int), (i : Int), ()) = _ := Ab1.val s h k i hk F.ilt;have g2 : Ab1.F ((s.1, (s.2.1, (s.2.2.1, s.2.2.2))), (f : Int), ((j - 1 : Nat) : Int), ()) = _ := Ab1.val s h f (j - 1) F.lt F.jlt;rw [if_pos (idxI.2 F.ilt), if_pos (by simp only [decide_eq_true_eq]; omega), g1, A2b (by omega) (by omega)];simp only [Option.bind_some, Int.toNat_natCast, F.at_, g2, F.tim];rw [if_pos hlt, F.fc_]
 . obtain ⟨f, F⟩ := A2s h hk h3 hi (show j + 1 < _ by omega);have g1 : Ab1.F ((s.1, (s.2.1, (s.2.2.1, s.2.2.2))), (k : Int), (i : Int), ()) = _ := Ab1.val s h k i hk F.ilt;have g2 : Ab1.F ((s.1, (s.2.1, (s.2.2.1, s.2.2.2))), (f : Int), (j : Int), ()) = _ := Ab1.val s h f j F.lt F.jlt;rw [if_pos (idxI.2 F.ilt), if_neg (by simp only [decide_eq_true_eq]; omega), g1];simp only [Option.bind_some, Int.toNat_natCast, F.at_, g2, F.tim];rw [if_neg hlt, F.fc_]
theorem Ab2.val (s : ShfV) (h : A0q s) : Ab2.F (s, ()) = some ((match A0r s with | none => (-1, 0, 0, ()) | some (k, i, j) => ((k : Int), (i : Int), (j : Int), ())), ()) := by
 have hcl := h.1.1;have hT : ∀ r, Ev (fun k => Ab2.T k s.1 s.2.1 s.2.2.1 s.2.2.2) r -> Ab2.F (s, ()) = some r := fun r hr => Ab2.of _ _ _ _ hr;have main := Goes.find (R := ((Int × Int × Int × Unit) × Unit)) (L := fun n k => Ab2.l2 n s.1 s.2.1 s.2.2.1 s.2.2.2 (k : Int)) (M := fun _ => some ((-1, 0, 0, ()), ())) (n := s.1.length) 0 (A0p s) (fun t : Nat × Nat × Nat => (((t.1 : Int), (t.2.1 : Int), (t.2.2 : Int), ()), ())) (fun k _ hk => by
   obtain ⟨t, ht⟩ : ∃ t, s.1.getD k [] = t := ⟨_, rfl⟩;have h4 := (h.1.2 k hk).1.1;rw [ht] at h4;have e0 : Goes (fun n => Ab2.l2 n s.1 s.2.1 s.2.2.1 s.2.2.2 (k : Int)) (fun n => Ab2.l6 n s.1 s.2.1 s.2.2.1 s.2.2.2 (k : Int) (t.length : Int) ((0 : Nat) : Int)) := Goes.succ fun n => by rw [Ab2.l2_eq, if_pos (ltI.2 hk), if_pos (idxI.2 hk)]; simp only [Int.toNat_natCast, ht]; rfl
   by_cases h3 : t.length < 3
   . exact .inl ⟨by rw [A0p, ht, if_pos h3], e0.trans (Goes.succ fun n => by rw [Ab2.l6_eq, if_pos (by simp only [decide_eq_true_eq]; omega), if_neg (by simp only [decide_eq_true_eq]; omega), A0y (by omega)])⟩
   have hw : A0p s k = (List.range' 0 (t.length - 0)).findSome? (A2y s k t.length) := by rw [A0p, ht, if_neg h3]
   rw [hw];have inner := Goes.find (R := ((Int × Int × Int × Unit) × Unit)) (L := fun n i => Ab2.l6 n s.1 s.2.1 s.2.2.1 s.2.2.2 (k : Int) (t.length : Int) (i : Int)) (M := fun n => Ab2.l2 n s.1 s.2.1 s.2.2.1 s.2.2.2 ((k + 1 : Nat) : Int)) (n := t.length) 0 (A2y s k t.length) (fun t : Nat × Nat × Nat => (((t.1 : Int), (t.2.1 : Int), (t.2.2 : Int), ()), ())) (fun i _ hi => by
     have e1 : Goes (fun n => Ab2.l6 n s.1 s.2.1 s.2.2.1 s.2.2.2 (k : Int) (t.length : Int) (i : Int)) (fun n => Ab2.l9 n s.1 s.2.1 s.2.2.1 s.2.2.2 (k : Int) (t.length : Int) (i : Int) ((i + 1 : Nat) : Int)) := Goes.succ fun n => by rw [Ab2.l6_eq, if_pos (ltI.2 hi), if_pos (by simp only [decide_eq_true_eq]; omega), A0y (by omega)]
     have deep := Goes.find (R := ((Int × Int × Int × Unit) × Unit)) (L := fun n j => Ab2.l9 n s.1 s.2.1 s.2.2.1 s.2.2.2 (k : Int) (t.length : Int) (i : Int) (j : Int)) (M := fun n => Ab2.l6 n s.1 s.2.1 s.2.2.1 s.2.2.2 (k : Int) (t.length : Int) ((i + 1 : Nat) : Int)) (n := t.length) (i + 1) (A1J s k i) (fun t : Nat × Nat × Nat => (((t.1 : Int), (t.2.1 : Int), (t.2.2 : Int), ()), ())) (fun j hij hj => by
       have A := Af5.val s h hk (by rw [ht]; omega) (show i < _ by rw [ht]; omega) (show j < _ by rw [ht]; omega) (by omega);have B := Af5.val s h hk (by rw [ht]; omega) (show j < _ by rw [ht]; omega) (show i < _ by rw [ht]; omega) (by omega);rw [if_pos (by omega)] at A;rw [if_neg (by omega)] at B;have A : Af5.F ((s.1, (s.2.1, (s.2.2.1, s.2.2.2))), (k : Int), (i : Int), (j : Int), ()) = some ((sqA s k i j, ()), ()) := A;have B : Af5.F ((s.1, (s.2.1, (s.2.2.1, s.2.2.2))), (k : Int), (j : Int), (i : Int), ()) = some ((sqB s k i j, ()), ()) := B;obtain ⟨f, F⟩ := A2s h hk (by rw [ht]; omega) (show i < _ by rw [ht]; omega) (show j - 1 + 1 < _ by rw [ht]; omega);have hA : sqA s k i j = mulM (A0j s k i) (A0j s f (j - 1)) := by rw [sqA, F.fc_]
       obtain ⟨b, hb, hb'⟩ := Ad0.same (sqA s k i j) (sqB s k i j) (by rw [hA]; exact F.ok.small);have E2 := fun n => Ab2.l9_eq n s.1 s.2.1 s.2.2.1 s.2.2.2 (k : Int) (t.length : Int) (i : Int) (j : Int);simp only [if_pos (ltI.2 hj), A, B, Option.bind_some, hb, A0y (show j < 4611686018427387904 by omega)] at E2;cases b with
       | true => exact .inl ⟨by rw [A1J, if_pos (hb'.1 rfl)], Goes.succ fun n => by rw [E2, if_neg (by simp)]⟩
       | false => exact .inr ⟨(k, i, j), by rw [A1J, if_neg (fun e => absurd (hb'.2 e) (by simp))], (Ev.const _).succ fun n => by rw [E2, if_pos (by simp)]⟩) (Goes.succ fun n => by rw [Ab2.l9_eq, if_neg (by simp), A0y (by omega)]) (i + 1) (Nat.le_refl _) (by omega)
     rcases deep with ⟨d1, d2⟩ | ⟨r, d1, d2⟩
     . exact .inl ⟨d1, e1.trans d2⟩
     . exact .inr ⟨r, d1, e1 _ d2⟩) (Goes.succ fun n => by rw [Ab2.l6_eq, if_neg (by simp), A0y (by omega)]) 0 (Nat.le_refl _) (Nat.zero_le _)
   rcases inner with ⟨d1, d2⟩ | ⟨r, d1, d2⟩
   . exact .inl ⟨d1, e0.trans d2⟩
   . exact .inr ⟨r, d1, e0 _ d2⟩) (Goes.succ fun n => by rw [Ab2.l2_eq, if_neg (by simp)]) 0 (Nat.le_refl _) (Nat.zero_le _)
 rcases main with ⟨d1, d2⟩ | ⟨⟨k, i, j⟩, d1, d2⟩
 . rw [A0r, d1];exact hT _ ((d2 _ (Ev.const _)).of_eq fun n => rfl)
 . rw [A0r, d1];exact hT _ (d2.of_eq fun n => rfl)
def A1f (s : ShfV) : Prop := A0q s /\ A0r s = none
theorem Ai3.val (s : ShfV) (hs : SmSh s) : ∃ v, Ai3.F (s, ()) = some ((v, ()), ()) /\ (v = true ↔ A1f s) := by
 have hT : Ai3.F (s, ()) = Ai3.T s.1 s.2.1 s.2.2.1 s.2.2.2 := Ai3.eq _ _ _ _;obtain ⟨v, hv, hv'⟩ := Ab6.val s hs;have hv : Ab6.F ((s.1, (s.2.1, (s.2.2.1, s.2.2.2))), ()) = _ := hv;rw [hT, Ai3.T, hv];simp only [Option.bind_some];cases v with
 | false => exact ⟨false, by rw [if_pos (by simp)], by simp only [Bool.false_eq_true, false_iff]; exact fun h => absurd (hv'.2 h.1) (by simp)⟩
 | true =>
   have hok := hv'.1 rfl;have hw : Ab3.F ((s.1, (s.2.1, (s.2.2.1, s.2.2.2))), ()) = _ := Ab3.val s hok;rw [if_neg (by simp), hw];simp only [Option.bind_some];cases hwt : A0r s with
   | none => exact ⟨true, rfl, by simp [A1f, hok, hwt]⟩
   | some t => obtain ⟨k, i, j⟩ := t; exact ⟨false, rfl, by simp [A1f, hwt]⟩
theorem Ae0.val (s : ShfV) (hs : SmSh s) : ∃ v, Ae0.F (s, ()) = some ((v, ()), ()) /\ (v = true ↔ A1f s) := by
 have hT : Ae0.F (s, ()) = Ae0.T s.1 s.2.1 s.2.2.1 s.2.2.2 := Ae0.eq _ _ _ _;obtain ⟨v, hv, hv'⟩ := Aa1.val s hs;have hv : Aa1.F ((s.1, (s.2.1, (s.2.2.1, s.2.2.2))), ()) = _ := hv;rw [hT, Ae0.T, hv];simp only [Option.bind_some];cases v with
 | false => exact ⟨false, by rw [if_pos (by simp)], by simp only [Bool.false_eq_true, false_iff]; exact fun h => absurd (hv'.2 h.1) (by simp)⟩
 | true =>
   have hok := hv'.1 rfl;have hw : Ab2.F ((s.1, (s.2.1, (s.2.2.1, s.2.2.2))), ()) = _ := Ab2.val s hok;rw [if_neg (by simp), hw];simp only [Option.bind_some];cases hwt : A0r s with
   | none => exact ⟨true, rfl, by simp [A1f, hok, hwt]⟩
   | some t => obtain ⟨k, i, j⟩ := t; exact ⟨false, by simp, by simp [A1f, hwt]⟩
def CoshOk (t : ShfV) : Prop := CplxOk t.1 /\ (∀ m ∈ t.2.2.2, MatOk m) /\ A0q (A0C t)
def A2c (t : ShfV) : Prop := CoshOk t /\ A1f (A0C t)
theorem Ah8.val (t : ShfV) (h : SmSh t) : ∃ v, Ah8.F (t, ()) = some ((v, ()), ()) /\ (v = true ↔ A2c t) := by
 have hT : Ah8.F (t, ()) = Ah8.T t.1 t.2.1 t.2.2.1 t.2.2.2 := Ah8.eq _ _ _ _;obtain ⟨v1, h1, h1'⟩ := Aj6.val t h;have h1 : Aj6.F ((t.1, (t.2.1, (t.2.2.1, t.2.2.2))), ()) = _ := h1;rw [hT, Ah8.T, h1];simp only [Option.bind_some];cases v1 with
 | false => exact ⟨false, by rw [if_neg (by simp)], by simp only [Bool.false_eq_true, false_iff]; exact fun hh => absurd (h1'.2 hh.1) (by simp)⟩
 | true =>
   have hok := h1'.1 rfl;have hb : Ac7.F ((t.1, (t.2.1, (t.2.2.1, t.2.2.2))), ()) = _ := Ac7.val t h.1 h.2.1 h.2.2.1 hok.2.1;obtain ⟨v2, h2, h2'⟩ := Ai3.val _ (A0f h hok.2.1);rw [if_pos rfl, hb];simp only [Option.bind_some, h2];exact ⟨v2, rfl, h2'.trans ⟨fun hh => ⟨hok, hh⟩, fun hh => hh.2⟩⟩
theorem Ai2.val (t : ShfV) (h : SmSh t) : ∃ v, Ai2.F (t, ()) = some ((v, ()), ()) /\ (v = true ↔ A2c t) := by
 have hT : Ai2.F (t, ()) = Ai2.T t.1 t.2.1 t.2.2.1 t.2.2.2 := Ai2.eq _ _ _ _;obtain ⟨v1, h1, h1'⟩ := Ad8.val t h;have h1 : Ad8.F ((t.1, (t.2.1, (t.2.2.1, t.2.2.2))), ()) = _ := h1;rw [hT, Ai2.T, h1];simp only [Option.bind_some];cases v1 with
 | false => exact ⟨false, by rw [if_pos (by simp)], by simp only [Bool.false_eq_true, false_iff]; exact fun hh => absurd (h1'.2 hh.1) (by simp)⟩
 | true =>
   have hok := h1'.1 rfl;have hb : Ab9.F ((t.1, (t.2.1, (t.2.2.1, t.2.2.2))), ()) = _ := Ab9.val t hok.1 h.2.1 h.2.2.1 hok.2.1;obtain ⟨v2, h2, h2'⟩ := Ae0.val _ (A0f h hok.2.1);rw [if_neg (by simp), hb];simp only [Option.bind_some, h2];exact ⟨v2, rfl, h2'.trans ⟨fun hh => ⟨hok, hh⟩, fun hh => hh.2⟩⟩
def A0D (s : ShfV) (k : Int) : Int := sumL s.2.2.1 (A0w s.1 k s.1.length)
theorem Aa3.val' (s : ShfV) (h : A0q s) (k : Int) (hk : -1 ≤ k /\ k ≤ 1000) : Aa3.F (s, k, ()) = some ((A0D s k, ()), ()) := Aa3.val s.1 s.2.1 s.2.2.1 s.2.2.2 k hk (by have := h.1.1; omega) h.2.2.1.1
theorem Ac2.val' (s : ShfV) (h : A0q s) (k : Int) (hk : -1 ≤ k /\ k ≤ 1000) : Ac2.F (s.1, s.2.2.1, k, ()) = some ((A0D s k, ()), ()) := Ac2.val s.1 s.2.2.1 k hk (by have := h.1.1; omega) h.2.2.1.1
theorem A3E {s : ShfV} (h : A0q s) {k : Int} (hk : 0 ≤ k /\ k ≤ 3) : A0D s k ≤ 32 := by
 obtain ⟨n, rfl⟩ := Int.eq_ofNat_of_zero_le hk.1;exact h.2.2.1.2.2 n (by omega)
def psum (c : List (List Int)) (st : List Int) (d : Int) : Nat -> Int
 | 0 => 0
 | i + 1 => psum c st d i + if ((c.getD i []).length : Int) = d + 1 then st.getD i 0 else 0
theorem A1o {c : List (List Int)} {st : List Int} {d : Int} (ha : A0J 0 3 st) {i : Nat} (hi : i < st.length) : psum c st d i ≤ psum c st d (i + 1) /\ psum c st d (i + 1) ≤ psum c st d i + 3 := by
 have := A0k ha hi;simp only [psum]; split <;> omega
theorem A1Z {c : List (List Int)} {st : List Int} {d : Int} (ha : A0J 0 3 st) : ∀ i, i ≤ st.length -> 0 ≤ psum c st d i /\ psum c st d i ≤ 3 * (i : Int) := by
 intro i;induction i with
 | zero => intro _; simp [psum]
 | succ i ih => intro h; have := ih (by omega); have := A1o (c := c) (d := d) ha (show i < st.length by omega); omega
theorem A2l {c : List (List Int)} {st : List Int} {d : Int} (ha : A0J 0 3 st) {i j : Nat} (h : i ≤ j) (hj : j ≤ st.length) : psum c st d i ≤ psum c st d j := by
 induction h with
 | refl => exact Int.le_refl _
 | @step m h ih =>
   have h1 := A1o (c := c) (d := d) ha (show m < st.length by omega);have h2 := ih (by omega);exact Int.le_trans h2 h1.1
theorem A1t {c : List (List Int)} {st : List Int} {d : Int} (ha : A0J 0 3 st) : ∀ i, i ≤ st.length -> i ≤ 1000 -> sumL st (A0w c d i) = psum c st d i := by
 intro i;induction i with
 | zero => intro _ _; rfl
 | succ i ih =>
   intro h h2;have e := ih (by omega) (by omega);have b := A1Z (c := c) (d := d) ha i (by omega);have g := A0k ha (show i < st.length by omega);rw [A0c];by_cases hd : ((c.getD i []).length : Int) = d + 1
   . rw [if_pos (by rw [beq_iff_eq]; exact hd)];simp only [psum, sumL, List.foldl_append, List.foldl_cons, List.foldl_nil, Int.toNat_natCast];rw [if_pos hd, show List.foldl (fun acc (j : Int) => IntKind.i64.wrap (acc + st.getD j.toNat 0)) 0 (A0w c d i) = sumL st (A0w c d i) from rfl, e, A0v (by omega) (by omega)]
   . rw [if_neg (by rw [beq_iff_eq]; exact hd)];simp only [psum]; rw [if_neg hd, e]; omega
theorem A1H {s : ShfV} (h : A0q s) (k : Int) : A0D s k = psum s.1 s.2.2.1 k s.1.length := by
 have h1 := h.2.2.1.1;have h2 := h.1.1;exact A1t h.2.2.1.2.1 _ (by omega) (by omega)
theorem A2m {c : List (List Int)} {st : List Int} {d : Int} : ∀ i, (∀ j, j < i -> ((c.getD j []).length : Int) ≠ d + 1) -> psum c st d i = 0 := by
 intro i;induction i with
 | zero => intro _; rfl
 | succ i ih => intro h; simp only [psum]; rw [if_neg (h i (by omega)), ih fun j hj => h j (by omega)]; rfl
theorem A0H {s : ShfV} (h : A0q s) (k : Int) : 0 ≤ A0D s k /\ A0D s k ≤ 32 := by
 have h1 := h.2.2.1.1;have e := A1H h k;refine ⟨by rw [e]; exact (A1Z h.2.2.1.2.1 _ (by omega)).1, ?_⟩;by_cases hk : 0 ≤ k /\ k ≤ 3
 . exact A3E h hk
 . rw [e, A2m _ fun j hj => ?_]
   . omega
   . have := (h.1.2 j hj).1.1; omega
def A1k (s : ShfV) (h : Nat) : Int := psum s.1 s.2.2.1 (((s.1.getD h []).length : Int) - 1) h
theorem A2F {s : ShfV} (h : A0q s) {n : Nat} (hn : n < s.1.length) : 0 ≤ A1k s n /\ A1k s n + s.2.2.1.getD n 0 ≤ A0D s (((s.1.getD n []).length : Int) - 1) := by
 have h1 := h.2.2.1.1;have ha := h.2.2.1.2.1;refine ⟨(A1Z ha _ (by omega)).1, ?_⟩;have := A2l (c := s.1) (d := ((s.1.getD n []).length : Int) - 1) ha (show n + 1 ≤ s.1.length by omega) (by omega);simp only [psum] at this;rw [if_pos (by omega)] at this;rw [A1H h];exact this
theorem A2k {c : List (List Int)} {d : Int} {h n : Nat} (hn : h < n) (hd : ((c.getD h []).length : Int) = d + 1) : ∃ rest, A0w c d n = A0w c d h ++ ((h : Int) :: rest) := by
 induction n with
 | zero => omega
 | succ n ih =>
   rw [A0c];by_cases hh : h = n
   . subst hh;exact ⟨[], by rw [if_pos (by rw [beq_iff_eq]; exact hd)]⟩
   . obtain ⟨rest, hr⟩ := ih (by omega);split
     . exact ⟨rest ++ [(n : Int)], by rw [hr]; simp⟩
     . exact ⟨rest, hr⟩
theorem Ad3.val (s : ShfV) (h : A0q s) (n : Nat) (hn : n < s.1.length) : Ad3.F (s, (n : Int), ()) = some ((A1k s n, ()), ()) := by
 have hcl := h.1.1;have hsl := h.2.2.1.1;have ha := h.2.2.1.2.1;have h4 := (h.1.2 n hn).1.1;obtain ⟨d, hd⟩ : ∃ d : Int, d = ((s.1.getD n []).length : Int) - 1 := ⟨_, rfl⟩;obtain ⟨rest, hr⟩ := A2k (c := s.1) (d := d) hn (by omega);have hT : ∀ r, Ev (fun k => Ad3.T k s.1 s.2.1 s.2.2.1 s.2.2.2 (n : Int)) r -> Ad3.F (s, (n : Int), ()) = some r := fun r hr => Ad3.of _ _ _ _ _ hr;refine hT _ (Ev.of_eq (N := fun k => Ad3.l3 k (n : Int) 0 (((A0w s.1 d s.1.length).length : Nat) : Int) ((0 : Nat) : Int) s.1 s.2.1 s.2.2.1 s.2.2.2 (A0w s.1 d s.1.length)) ?_ fun k => ?_)
 . have hpl := A0E s.1 d n;have hfull := A0E s.1 d s.1.length;have hlen : (A0w s.1 d s.1.length).length = (A0w s.1 d n).length + (rest.length + 1) := by rw [hr]; simp
   have hg := Goes.foldl (L := fun k i (x : Int) => Ad3.l3 k (n : Int) x (((A0w s.1 d s.1.length).length : Nat) : Int) (i : Int) s.1 s.2.1 s.2.2.1 s.2.2.2 (A0w s.1 d s.1.length)) (A0w s.1 d n) 0 (fun acc j => IntKind.i64.wrap (acc + s.2.2.1.getD j.toNat 0)) (fun k i x hi => by
     obtain ⟨j, hj, hjn⟩ := A1F (A0z (0 : Int) hi);have e : (A0w s.1 d s.1.length).getD i 0 = (j : Int) := by
       rw [hr, List.getD_eq_getElem?_getD, List.getElem?_append_left hi, <- List.getD_eq_getElem?_getD, hj]
     rw [Ad3.l3_eq, if_pos (by simp only [decide_eq_true_eq]; omega), if_pos (by omega)];simp only [Int.toNat_natCast, e];rw [if_neg (by simp only [beq_iff_eq]; omega), if_pos (by omega), A0y (by omega), hj];simp only [Int.toNat_natCast]) 0
   refine hg _ ((Ev.const _).succ fun k => ?_);have e : (A0w s.1 d s.1.length).getD (A0w s.1 d n).length 0 = (n : Int) := by
     rw [hr, List.getD_eq_getElem?_getD, List.getElem?_append_right (Nat.le_refl _), Nat.sub_self]; rfl
   rw [Ad3.l3_eq, if_pos (by simp only [decide_eq_true_eq]; omega), if_pos (by omega)];simp only [Int.toNat_natCast, e];rw [if_pos (by simp), show List.foldl (fun acc (j : Int) => IntKind.i64.wrap (acc + s.2.2.1.getD j.toNat 0)) 0 (A0w s.1 d n) = sumL s.2.2.1 (A0w s.1 d n) from rfl, A1t ha _ (by omega) (by omega), A1k, hd]
 . rw [Ad3.T, if_pos (idxI.2 hn), Aa6.eq, Aa6.T];simp only [Option.bind_some, Int.toNat_natCast];rw [A0v (x := ((s.1.getD n []).length : Int) - 1) (by omega) (by omega), <- hd, Ac8.val s.1 d (by omega) (by omega)];rfl
theorem Ae1.val (s : ShfV) (h : A0q s) (n : Nat) (hn : n < s.1.length) : Ae1.F (s, (n : Int), ()) = some ((A1k s n, ()), ()) := by
 have hcl := h.1.1;have hsl := h.2.2.1.1;have ha := h.2.2.1.2.1;have hT : ∀ r, Ev (fun k => Ae1.T k s.1 s.2.1 s.2.2.1 s.2.2.2 (n : Int)) r -> Ae1.F (s, (n : Int), ()) = some r := fun r hr => Ae1.of _ _ _ _ _ hr;obtain ⟨d, hd⟩ : ∃ d : Int, d = ((s.1.getD n []).length : Int) - 1 := ⟨_, rfl⟩;obtain ⟨x, hx, hg⟩ := Goes.loop (R := ((Int × Unit) × Unit)) (fun k i (x : Int) => Ae1.l3 k s.1 s.2.1 s.2.2.1 s.2.2.2 (n : Int) x (i : Int)) n (fun i x => x = psum s.1 s.2.2.1 d i) (fun i x hi h2 => ⟨_, rfl, Goes.succ fun k => by
   have b := A1Z (c := s.1) (d := d) ha i (by omega);have g := A0k ha (show i < s.2.2.1.length by omega);rw [Ae1.l3_eq, if_pos (ltI.2 hi), if_pos (by omega), if_pos (by omega)];simp only [Int.toNat_natCast];simp only [psum];by_cases hh : (s.1.getD i []).length = (s.1.getD n []).length
   . rw [if_pos (by simp only [beq_iff_eq]; omega), if_pos (by omega), A0y (by omega), h2, A0v (by omega) (by omega), if_pos (by omega)]
   . rw [if_neg (by simp only [beq_iff_eq]; omega), A0y (by omega), h2, if_neg (by omega), Int.add_zero]⟩) 0 0 (Nat.zero_le _) rfl
 refine hT _ ((hg _ ((Ev.const _).succ fun k => ?_)).of_eq fun k => rfl);rw [Ae1.l3_eq, if_neg (by simp), hx, A1k, hd]
def zeroM (p : Int) (R C : Nat) : MatV := (p, (R : Int), (C : Int), List.replicate (R * C) 0)
theorem Al2.val (p : Int) (R C : Nat) (hR : R ≤ 32) (hC : C ≤ 32) : Al2.F (p, (R : Int), (C : Int), ()) = some ((zeroM p R C, ()), ()) := by
 rw [Al2.eq, Al2.T, Ab7.val p R C _ (fun _ _ => 0) hR hC (fun i j _ _ => by
   show (Ao3.F ((i : Int), (j : Int), ())).map (·.1) = _;rw [Ao3.eq, Ao3.T]; rfl)]
 simp only [Option.bind_some, zeroM];rw [A1V (R := R) (C := C) (g := fun _ _ => 0) (ys := List.replicate (R * C) 0) (by simp) fun i j hi hj => by
   have := A2n hi hj;simp [List.getD_eq_getElem?_getD, List.getElem?_replicate, this]]
def wr (ws : List (Nat × Int)) (x : List Int) : List Int := ws.foldl (fun x w => x.set w.1 w.2) x
theorem A2z (ws : List (Nat × Int)) : ∀ x, (wr ws x).length = x.length := by
 induction ws with
 | nil => intro x; rfl
 | cons w ws ih => intro x; show (wr ws (x.set w.1 w.2)).length = _; rw [ih]; simp
theorem A3y (ws vs : List (Nat × Int)) (x : List Int) : wr (ws ++ vs) x = wr vs (wr ws x) := by simp [wr, List.foldl_append]
theorem wr_all {P : Int -> Prop} (ws : List (Nat × Int)) : ∀ x : List Int, (∀ w ∈ ws, P w.2) -> (∀ a ∈ x, P a) -> ∀ a ∈ wr ws x, P a := by
 induction ws with
 | nil => intro x _ h; exact h
 | cons w ws ih =>
   intro x hw hx;refine ih (x.set w.1 w.2) (fun v hv => hw v (by simp [hv])) fun a ha => ?_;rcases List.mem_or_eq_of_mem_set ha with h | h
   . exact hx a h
   . rw [h]; exact hw w (by simp)
theorem Goes.writes {R : Type} (L : Nat -> Nat -> List Int -> Option R) (n Z : Nat) (w : Nat -> List (Nat × Int)) (hstep : ∀ i x, i < n -> x.length = Z -> Goes (fun k => L k i x) (fun k => L k (i + 1) (wr (w i) x))) (x : List Int) (hx : x.length = Z) :
   Goes (fun k => L k 0 x) (fun k => L k n (wr ((List.range n).flatMap w) x)) := by
 obtain ⟨y, hy, hg⟩ := Goes.loop (R := R) L n (fun i y => y = wr ((List.range i).flatMap w) x) (fun i y hi h => ⟨_, rfl, by
   have := hstep i y hi (by rw [h, A2z, hx]);rw [List.range_succ, List.flatMap_append, A3y, <- h];simpa using this⟩) 0 x (Nat.zero_le _) rfl
 rw [<- hy]; exact hg
def sgn (p : Int) (i : Nat) : Int := if i % 2 = 0 then 1 else p - 1
theorem A3H {p : Int} (hp : 2 ≤ p /\ p ≤ 251) (i : Nat) : 0 ≤ sgn p i /\ sgn p i ≤ p - 1 := by unfold sgn; split <;> omega
theorem Ak7.val (i : Nat) (p : Int) (hp : 2 ≤ p /\ p ≤ 251) : Ak7.F ((i : Int), p, ()) = some ((sgn p i, ()), ()) := by
 have e : (i : Int).tmod 2 = ((i % 2 : Nat) : Int) := by rw [A1y (by omega)]; omega
 rw [Ak7.eq, Ak7.T, if_neg (by omega), e, sgn];by_cases h : i % 2 = 0
 . rw [if_pos (by simp [h]), if_pos h]
 . rw [if_neg (by simp only [beq_iff_eq]; omega), if_neg h, A0v (by omega) (by omega)]
theorem Am5.val (i : Nat) (p : Int) (hp : 2 ≤ p /\ p ≤ 251) : Am5.F ((i : Int), p, ()) = some ((sgn p i, ()), ()) := by
 have e : (i : Int).tmod 2 = ((i % 2 : Nat) : Int) := by rw [A1y (by omega)]; omega
 rw [Am5.eq, Am5.T, if_neg (by omega), e, sgn];by_cases h : i % 2 = 0
 . rw [if_pos (by simp [h]), if_neg (by omega), if_pos h, A1y (by omega), Int.emod_eq_of_lt (by omega) (by omega)]
 . rw [if_neg (by simp only [beq_iff_eq]; omega), if_neg h, A0v (by omega) (by omega)]
def A1K (s : ShfV) (W h i a : Nat) : List (Nat × Int) := (List.range (A0j s h i).2.2.1.toNat).map fun b => (((A1k s h).toNat + a) * W + (A1k s (fc s.1 h i)).toNat + b, ((A0j s h i).2.2.2.getD (a * (A0j s h i).2.2.1.toNat + b) 0 * sgn s.2.1 i) % s.2.1)
def A1g (s : ShfV) (W h i : Nat) : List (Nat × Int) := (List.range (A0j s h i).2.1.toNat).flatMap (A1K s W h i)
def A2Q (s : ShfV) (W h : Nat) : List (Nat × Int) := (List.range (fcs s.1 h).length).flatMap (A1g s W h)
def cobW (s : ShfV) (k : Int) : List (Nat × Int) := if k < 0 then [] else (List.range (A0w s.1 (k + 1) s.1.length).length).flatMap fun n => A2Q s (A0D s k).toNat ((A0w s.1 (k + 1) s.1.length).getD n 0).toNat
def cobM (s : ShfV) (k : Int) : MatV := (s.2.1, A0D s (k + 1), A0D s k, wr (cobW s k) (List.replicate ((A0D s (k + 1)).toNat * (A0D s k).toNat) 0))
theorem A1q (n : Nat) (f : Nat -> Nat × Int) : (List.range n).map f = (List.range n).flatMap fun b => [f b] := by induction n with
 | zero => rfl
 | succ n ih => rw [List.range_succ, List.map_append, List.flatMap_append, ih]; rfl
theorem A1T {s : ShfV} (h : A0q s) (k : Int) : MatOk (cobM s k) := by
 have hp := h.2.1;obtain ⟨a1, a2⟩ := A0H h (k + 1);obtain ⟨b1, b2⟩ := A0H h k;refine ⟨hp, ⟨a1, a2⟩, ⟨b1, b2⟩, ?_, ?_⟩
 . simp only [cobM, A2z, List.length_replicate];obtain ⟨x, hx⟩ := Int.eq_ofNat_of_zero_le a1;obtain ⟨y, hy⟩ := Int.eq_ofNat_of_zero_le b1;rw [hx, hy]; simp
 . refine wr_all (P := fun a => 0 ≤ a /\ a ≤ s.2.1 - 1) _ _ (fun w hw => ?_) fun a ha => ?_
   . unfold cobW at hw;split at hw
     . cases hw
     . simp only [List.mem_flatMap, A2Q, A1g, A1K, List.mem_map] at hw;obtain ⟨_, _, _, _, _, _, _, _, rfl⟩ := hw;exact A1E hp.1.1
   . have := (List.mem_replicate.1 ha).2;have := hp.1.1;omega
structure Blk (s : ShfV) (k : Int) (h i : Nat) (f R C W H T L : Nat) : Prop where
 at_ : (fcs s.1 h).getD i 0 = (f : Int)
 flt : f < s.1.length
 fc_ : fc s.1 h i = f
 rows : (A0j s h i).2.1 = (R : Int)
 cols : (A0j s h i).2.2.1 = (C : Int)
 cells : (A0j s h i).2.2.2.length = R * C
 el : A0J 0 (s.2.1 - 1) (A0j s h i).2.2.2
 prime : (A0j s h i).1 = s.2.1
 top : A1k s h = (T : Int)
 left : A1k s f = (L : Int)
 bT : T + R ≤ H
 bL : L + C ≤ W
 bH : H ≤ 32
 bW : W ≤ 32
theorem blk {s : ShfV} (ho : A0q s) {k : Int} {h i : Nat} (hh : h < s.1.length) (hd : ((s.1.getD h []).length : Int) = k + 2) (hi : i < (fcs s.1 h).length) : ∃ f R C T L, Blk s k h i f R C (A0D s k).toNat (A0D s (k + 1)).toNat T L := by
 obtain ⟨f, h1, h2, h4, h5, h6⟩ := A2e ho.1 hh hi;have m1 := A1W ho hh hi;obtain ⟨R, C, r1, r2, r3, r4, r5, r6, r7⟩ := m1.1.nat;have hfl : (s.1.getD f []).length = (s.1.getD h []).length - 1 := by rw [h4]; exact A0N h5
 obtain ⟨a1, a2⟩ := A2F ho hh;obtain ⟨b1, b2⟩ := A2F ho h2;obtain ⟨T, hT⟩ := Int.eq_ofNat_of_zero_le a1;obtain ⟨L, hL⟩ := Int.eq_ofNat_of_zero_le b1;obtain ⟨c1, c2⟩ := A0H ho k;obtain ⟨d1, d2⟩ := A0H ho (k + 1);rw [show ((s.1.getD h []).length : Int) - 1 = k + 1 by omega] at a2;rw [show ((s.1.getD f []).length : Int) - 1 = k by omega] at b2;have eR : s.2.2.1.getD h 0 = (R : Int) := by rw [<- m1.2.2.1, r1]
 have eC : s.2.2.1.getD f 0 = (C : Int) := by rw [<- r2, m1.2.2.2, h1]; rfl
 exact ⟨f, R, C, T, L, h1, h2, by rw [fc, h1, Int.toNat_natCast], r1, r2, r5, by rw [<- m1.2.1]; exact r7, m1.2.1, hT, hL, by omega, by omega, by omega, by omega⟩
theorem A3F {T L W H R C a b : Nat} (bT : T + R ≤ H) (bL : L + C ≤ W) (bH : H ≤ 32) (bW : W ≤ 32) (ha : a < R) (hb : b < C) :
   IntKind.i64.wrap ((IntKind.i64.wrap ((IntKind.i64.wrap ((IntKind.i64.wrap ((T : Int) + (a : Int))) * (W : Int))) + (L : Int))) + (b : Int)) = (((T + a) * W + L + b : Nat) : Int) /\ (T + a) * W + L + b < H * W := by
 have h1 := A2n (R := H) (C := W) (show T + a < H by omega) (show L + b < W by omega);have h2 : H * W ≤ 32 * 32 := Nat.mul_le_mul bH bW;have e : ((T + a : Nat) : Int) * (W : Int) = (((T + a) * W : Nat) : Int) := by simp
 refine ⟨?_, by omega⟩;rw [A0v (x := (T : Int) + (a : Int)) (by omega) (by omega), show (T : Int) + (a : Int) = ((T + a : Nat) : Int) by omega, e, A0v (x := (((T + a) * W : Nat) : Int)) (by omega) (by omega), A0v (x := (((T + a) * W : Nat) : Int) + (L : Int)) (by omega) (by omega), A0v (by omega) (by omega)];omega
theorem A2K {c : List (List Int)} {d : Int} {n m : Nat} (h : m < (A0w c d n).length) : ∃ j : Nat, (A0w c d n).getD m 0 = (j : Int) /\ j < n /\ ((c.getD j []).length : Int) = d + 1 := by
 have hm := A0z (0 : Int) h;simp only [A0w, List.mem_map, List.mem_filter, List.mem_range, beq_iff_eq] at hm;obtain ⟨j, ⟨h1, h2⟩, h3⟩ := hm;exact ⟨j, h3.symm, h1, h2⟩
theorem Aa8.val (s : ShfV) (ho : A0q s) (k : Int) (hk : -1 ≤ k /\ k ≤ 10) : Aa8.F (s, k, ()) = some ((cobM s k, ()), ()) := by
 have hcl := ho.1.1;have hp := ho.2.1.1;obtain ⟨c1, c2⟩ := A0H ho k;obtain ⟨d1, d2⟩ := A0H ho (k + 1);obtain ⟨W, hW⟩ : ∃ W, (A0D s k).toNat = W := ⟨_, rfl⟩;obtain ⟨H, hH⟩ : ∃ H, (A0D s (k + 1)).toNat = H := ⟨_, rfl⟩;have eW : A0D s k = (W : Int) := by omega
 have eH : A0D s (k + 1) = (H : Int) := by omega
 obtain ⟨hs, ehs⟩ : ∃ hs, A0w s.1 (k + 1) s.1.length = hs := ⟨_, rfl⟩;have hsl : hs.length ≤ 48 := by rw [<- ehs]; have := A0E s.1 (k + 1) s.1.length; omega
 have hsat : ∀ m, m < hs.length -> ∃ j : Nat, hs.getD m 0 = (j : Int) /\ j < s.1.length /\ ((s.1.getD j []).length : Int) = k + 2 := fun m hm => by
   rw [<- ehs] at hm ⊢;obtain ⟨j, a, b, c⟩ := A2K hm;exact ⟨j, a, b, by omega⟩
 have hT : ∀ r, Ev (fun n => Aa8.T n s.1 s.2.1 s.2.2.1 s.2.2.2 k) r -> Aa8.F (s, k, ()) = some r := fun r hr => Aa8.of _ _ _ _ _ hr;have w1 : IntKind.i64.wrap (k + 1) = k + 1 := A0v (by omega) (by omega);have g1 : Aa3.F ((s.1, (s.2.1, (s.2.2.1, s.2.2.2))), k + 1, ()) = _ := Aa3.val' s ho (k + 1) (by omega);have g2 : Aa3.F ((s.1, (s.2.1, (s.2.2.1, s.2.2.2))), k, ()) = _ := Aa3.val' s ho k (by omega);have g3 := Ac8.val s.1 (k + 1) (by omega) (by omega);rw [ehs] at g3;have hM : cobM s k = (s.2.1, (H : Int), (W : Int), wr (cobW s k) (List.replicate (H * W) 0)) := by rw [cobM, eH, eW]; simp only [Int.toNat_natCast]
 rw [hM];refine hT _ (Ev.of_eq (N := fun n => Aa8.l3 n k (hs.length : Int) ((0 : Nat) : Int) s.1 s.2.1 s.2.2.1 s.2.2.2 0 0 0 [] s.2.1 (H : Int) (W : Int) (List.replicate (H * W) 0) hs) ?_ fun n => ?_)
 . by_cases hneg : k < 0
   . have : cobW s k = [] := by rw [cobW, if_pos hneg]
     rw [this];refine (Ev.const _).succ fun n => ?_;rw [Aa8.l3_eq];by_cases h0 : 0 < hs.length
     . rw [if_pos (ltI.2 h0), if_pos (idxI.2 h0), if_pos (by simp only [decide_eq_true_eq]; exact hneg)]; rfl
     . rw [if_neg (by simp only [decide_eq_true_eq]; omega)]; rfl
   . have : cobW s k = (List.range hs.length).flatMap fun n => A2Q s W (hs.getD n 0).toNat := by rw [cobW, if_neg hneg, ehs, hW]
     rw [this];have main := Goes.writes (R := ((MatV × Unit) × Unit)) (fun n m x => Aa8.l3 n k (hs.length : Int) (m : Int) s.1 s.2.1 s.2.2.1 s.2.2.2 0 0 0 [] s.2.1 (H : Int) (W : Int) x hs) hs.length (H * W) (fun n => A2Q s W (hs.getD n 0).toNat) (fun m x hm hx => by
       obtain ⟨h, e1, e2, e3⟩ := hsat m hm;have f4 : (fcs s.1 h).length ≤ 4 := by have := A0g ho.1 e2; simp only [fcs, List.length_map]; exact this
       have E3 := fun n => Aa8.l3_eq n k (hs.length : Int) (m : Int) s.1 s.2.1 s.2.2.1 s.2.2.2 0 0 0 [] s.2.1 (H : Int) (W : Int) x hs;simp only [if_pos (ltI.2 hm), if_pos (idxI.2 hm), if_neg (show ¬ decide (k < 0) = true by simp only [decide_eq_true_eq]; exact hneg), Int.toNat_natCast, e1, Ab4.val s.1 ho.1 h e2, Option.bind_some] at E3;refine (Goes.succ E3).trans ?_;rw [e1, Int.toNat_natCast];refine (Goes.writes (R := ((MatV × Unit) × Unit)) (fun n i x => Aa8.l7 n k (h : Int) (hs.length : Int) (m : Int) ((fcs s.1 h).length : Int) (i : Int) s.1 s.2.1 s.2.2.1 s.2.2.2 0 0 0 [] s.2.1 (H : Int) (W : Int) x hs (fcs s.1 h)) (fcs s.1 h).length (H * W) (A1g s W h) (fun i x hi hx => by
         obtain ⟨f, R, C, T, L, B⟩ := blk ho e2 e3 hi;rw [hW, hH] at B;have q1 : Ac0.F ((s.1, (s.2.1, (s.2.2.1, s.2.2.2))), (h : Int), (i : Int), ()) = _ := Ac0.val s ho h i e2 hi;have q2 : Ad3.F ((s.1, (s.2.1, (s.2.2.1, s.2.2.2))), (h : Int), ()) = _ := Ad3.val s ho h e2;have q3 : Ad3.F ((s.1, (s.2.1, (s.2.2.1, s.2.2.2))), (f : Int), ()) = _ := Ad3.val s ho f B.flt;rw [B.top] at q2;rw [B.left] at q3;have E7 := fun n => Aa8.l7_eq n k (h : Int) (hs.length : Int) (m : Int) ((fcs s.1 h).length : Int) (i : Int) s.1 s.2.1 s.2.2.1 s.2.2.2 0 0 0 [] s.2.1 (H : Int) (W : Int) x hs (fcs s.1 h);simp only [if_pos (ltI.2 hi), if_pos (idxI.2 hi), Int.toNat_natCast, B.at_, q1, q2, q3, Option.bind_some, B.rows, B.cols, B.prime] at E7;refine (Goes.succ E7).trans ?_;have ew : A1g s W h i = (List.range R).flatMap (A1K s W h i) := by rw [A1g, B.rows, Int.toNat_natCast]
         rw [ew];refine (Goes.writes (R := ((MatV × Unit) × Unit)) (fun n a x => Aa8.l12 n k (h : Int) (i : Int) (T : Int) (L : Int) (hs.length : Int) (m : Int) ((fcs s.1 h).length : Int) (i : Int) (R : Int) (a : Int) s.1 s.2.1 s.2.2.1 s.2.2.2 0 0 0 [] s.2.1 (H : Int) (W : Int) x s.2.1 (R : Int) (C : Int) (A0j s h i).2.2.2 hs (fcs s.1 h)) R (H * W) (A1K s W h i) (fun a x ha hx => by
           refine (Goes.succ fun n => by rw [Aa8.l12_eq, if_pos (ltI.2 ha)]).trans ?_;have ew3 : A1K s W h i a = (List.range C).flatMap fun b => [((T + a) * W + L + b, ((A0j s h i).2.2.2.getD (a * C + b) 0 * sgn s.2.1 i) % s.2.1)] := by
             rw [A1K, B.cols, B.top, B.fc_, B.left]; simp only [Int.toNat_natCast]; exact A1q _ _
           rw [ew3];refine (Goes.writes (R := ((MatV × Unit) × Unit)) (fun n b x => Aa8.l15 n k (h : Int) (i : Int) (T : Int) (L : Int) (a : Int) (hs.length : Int) (m : Int) ((fcs s.1 h).length : Int) (i : Int) (R : Int) (a : Int) (C : Int) (b : Int) s.1 s.2.1 s.2.2.1 s.2.2.2 0 0 0 [] s.2.1 (H : Int) (W : Int) x s.2.1 (R : Int) (C : Int) (A0j s h i).2.2.2 hs (fcs s.1 h)) C (H * W) (fun b => [((T + a) * W + L + b, ((A0j s h i).2.2.2.getD (a * C + b) 0 * sgn s.2.1 i) % s.2.1)]) (fun b x hb hx => Goes.succ fun n => by
             obtain ⟨p1, p2⟩ := A3F B.bT B.bL B.bH B.bW ha hb;have bT := B.bT;have bL := B.bL;have bH := B.bH;have bW := B.bW;obtain ⟨e5, e6⟩ := A0R (show R ≤ 32 by omega) (show C ≤ 32 by omega) ha hb;have hce := B.cells;have hel := A1j hp (A0k B.el (show a * C + b < (A0j s h i).2.2.2.length by omega)) (A3H hp i);have hat : Ah3.F ((s.2.1, ((R : Int), ((C : Int), (A0j s h i).2.2.2))), (a : Int), (b : Int), ()) = some (((A0j s h i).2.2.2.getD (a * C + b) 0, ()), ()) := by
               rw [Ah3.eq, Ah3.T, e5, if_pos (by omega)]; rfl
             rw [Aa8.l15_eq, if_pos (ltI.2 hb), hat];simp only [Option.bind_some, Ak7.val i s.2.1 hp, p1];rw [if_neg (by omega), if_pos (by omega), A0y (by omega)];simp only [Int.toNat_natCast];rw [A0v (x := (A0j s h i).2.2.2.getD (a * C + b) 0 * sgn s.2.1 i) (by omega) (by omega), A1y (by omega)];rfl) x hx).trans (Goes.succ fun n => by
               have bT := B.bT;have bH := B.bH;rw [Aa8.l15_eq, if_neg (by simp), A0y (by omega)])) x hx).trans (Goes.succ fun n => by rw [Aa8.l12_eq, if_neg (by simp), A0y (by omega)])) x hx).trans (Goes.succ fun n => by rw [Aa8.l7_eq, if_neg (by simp), A0y (by omega)]; rfl)) (List.replicate (H * W) 0) (by simp)
     refine main _ ((Ev.const _).succ fun n => ?_);rw [Aa8.l3_eq, if_neg (by simp)]
 . rw [Aa8.T, w1, g1, g2, eH, eW];simp only [Option.bind_some];rw [Al2.val s.2.1 H W (by omega) (by omega), g3];rfl
end Go.Proofs.YtjimdbbeilfkfaaGreat
