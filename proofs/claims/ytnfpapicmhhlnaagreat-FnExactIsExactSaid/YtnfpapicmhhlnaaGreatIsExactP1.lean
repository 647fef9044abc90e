/- What the functions answer. -/
import Derived.Test.YtnfpapicmhhlnaaGreatIsExactG1
namespace Go.Proofs.YtnfpapicmhhlnaaGreat
open Go Go.Vm
set_option linter.unusedVariables false
set_option linter.unusedSimpArgs false
abbrev A3k := Int × Int × Int
theorem A0w {x : Int} (h1 : -9223372036854775808 ≤ x) (h2 : x ≤ 9223372036854775807) : IntKind.i64.wrap x = x := by
 have e : (2 : Int) ^ (IntKind.i64).bits = 18446744073709551616 := by decide
 have e2 : (2 : Int) ^ ((IntKind.i64).bits - 1) = 9223372036854775808 := by decide
 unfold IntKind.wrap;simp only [e, e2, show IntKind.i64.signed = true from rfl, Bool.true_and, decide_eq_true_eq];split <;> omega
theorem A0y {i : Nat} (h : i < 4611686018427387904) : IntKind.i64.wrap ((i : Int) + 1) = ((i + 1 : Nat) : Int) := by
 rw [A0w (by omega) (by omega)]; omega
theorem idxI {α : Type} {xs : List α} {i : Nat} : (0 ≤ (i : Int) /\ (i : Int) < (xs.length : Int)) ↔ i < xs.length := by omega
theorem ltI {i n : Nat} : (decide ((i : Int) < (n : Int))) = true ↔ i < n := by simp
theorem A0x {α : Type} {xs : List α} {i : Nat} {d : α} (h : i < xs.length) : xs.getD i d = xs[i] := by
 rw [List.getD_eq_getElem?_getD, List.getElem?_eq_getElem h]; rfl
def Goes {R : Type} (A B : Nat -> Option R) : Prop := ∀ r, Ev B r -> Ev A r
theorem Goes.refl {R : Type} (A : Nat -> Option R) : Goes A A := fun _ h => h
theorem Goes.trans {R : Type} {A B C : Nat -> Option R} (h : Goes A B) (k : Goes B C) : Goes A C := fun r hr => h r (k r hr)
theorem Goes.succ {R : Type} {A B : Nat -> Option R} (e : ∀ k, A (k + 1) = B k) : Goes A B := fun _ h => h.succ e
theorem Goes.of_eq {R : Type} {A B : Nat -> Option R} (e : ∀ k, A k = B k) : Goes A B := fun _ h => h.of_eq e
theorem Ev.loop {σ R : Type} (L : Nat -> Nat -> σ -> Option R) (n : Nat) (I : Nat -> σ -> Prop) (Q : R -> Prop)
   (hstep : ∀ i s, i < n -> I i s -> (∃ r, Ev (fun k => L k i s) r /\ Q r) ∨ (∃ s', I (i + 1) s' /\ Goes (fun k => L k i s) (fun k => L k (i + 1) s')))
   (hend : ∀ s, I n s -> ∃ r, Ev (fun k => L k n s) r /\ Q r) : ∀ i s, i ≤ n -> I i s -> ∃ r, Ev (fun k => L k i s) r /\ Q r := by
 have key : ∀ j i s, i + j = n -> I i s -> ∃ r, Ev (fun k => L k i s) r /\ Q r := by
   intro j;induction j with
   | zero => intro i s hi h; obtain rfl : i = n := by omega
             exact hend s h
   | succ j ih =>
     intro i s hi h;rcases hstep i s (by omega) h with h1 | ⟨s', h1, h2⟩
     . exact h1
     . obtain ⟨r, hr, hq⟩ := ih (i + 1) s' (by omega) h1;exact ⟨r, h2 r hr, hq⟩
 exact fun i s hi h => key (n - i) i s (by omega) h
theorem Goes.loop {σ R : Type} (L : Nat -> Nat -> σ -> Option R) (n : Nat) (I : Nat -> σ -> Prop)
   (hstep : ∀ i s, i < n -> I i s -> ∃ s', I (i + 1) s' /\ Goes (fun k => L k i s) (fun k => L k (i + 1) s')) : ∀ i s, i ≤ n -> I i s -> ∃ s', I n s' /\ Goes (fun k => L k i s) (fun k => L k n s') := by
 have key : ∀ j i s, i + j = n -> I i s -> ∃ s', I n s' /\ Goes (fun k => L k i s) (fun k => L k n s') := by
   intro j;induction j with
   | zero => intro i s hi h; obtain rfl : i = n := by omega
             exact ⟨s, h, Goes.refl _⟩
   | succ j ih =>
     intro i s hi h;obtain ⟨s', h1, h2⟩ := hstep i s (by omega) h;obtain ⟨s2, h3, h4⟩ := ih (i + 1) s' (by omega) h1;exact ⟨s2, h3, h2.trans h4⟩
 exact fun i s hi h => key (n - i) i s (by omega) h
theorem Ev.all {A B : Type} {L : Nat -> Nat -> Option ((Bool × A) × B)} {a : A} {b : B} {n : Nat} (p : Nat -> Bool) (hstep : ∀ k i, i < n -> L (k + 1) i = if p i = true then L k (i + 1) else some ((false, a), b)) (hend : ∀ k, L (k + 1) n = some ((true, a), b)) (i : Nat) (hi : i ≤ n) :
   ∃ v, Ev (fun k => L k i) ((v, a), b) /\ (v = true ↔ ∀ j, i ≤ j -> j < n -> p j = true) := by
 have key : ∀ m i, i + m = n -> ∃ v, Ev (fun k => L k i) ((v, a), b) /\ (v = true ↔ ∀ j, i ≤ j -> j < n -> p j = true) := by
   intro m;induction m with
   | zero => intro i hi; obtain rfl : i = n := by omega
             exact ⟨true, (Ev.const _).succ hend, by simp; intro j _ _; omega⟩
   | succ m ih =>
     intro i hi;obtain ⟨v, hv, hv'⟩ := ih (i + 1) (by omega);cases hp : p i with
     | false => exact ⟨false, (Ev.const _).succ fun k => by rw [hstep k i (by omega), hp]; rfl, by simp; exact ⟨i, Nat.le_refl _, by omega, hp⟩⟩
     | true =>
       refine ⟨v, hv.succ fun k => by rw [hstep k i (by omega), hp]; rfl, hv'.trans ⟨fun h j hj hn => ?_, fun h j hj hn => h j (by omega) hn⟩⟩;by_cases hij : j = i
       . rw [hij]; exact hp
       . exact h j (by omega) hn
 exact key (n - i) i (by omega)
theorem all_eq {α : Type} {xs ys : List α} (hl : xs.length = ys.length) (q : α -> α -> Bool) (hq : ∀ x y, q x y = true ↔ x = y) (d : α) : (∀ j, 0 ≤ j -> j < xs.length -> q (xs.getD j d) (ys.getD j d) = true) ↔ xs = ys := by
 constructor
 . intro h;refine List.ext_getElem hl fun i h1 h2 => ?_;have := (hq _ _).1 (h i (Nat.zero_le _) h1)
   rwa [A0x h1, A0x h2] at this
 . rintro rfl j _ _;exact (hq _ _).2 rfl
theorem Goes.fill {α R : Type} {L : Nat -> Nat -> List α -> Option R} (xs : List α) (d : α) (hstep : ∀ k i ys, i < xs.length -> ys.length = xs.length -> L (k + 1) i ys = L k (i + 1) (ys.set i (xs.getD i d))) (ys : List α) (hy : ys.length = xs.length) :
   Goes (fun k => L k 0 ys) (fun k => L k xs.length xs) := by
 obtain ⟨s, ⟨hs1, hs2⟩, hs3⟩ := Goes.loop L xs.length (fun i s => s.length = xs.length /\ s.take i = xs.take i) (fun i s hi ⟨h1, h2⟩ => ⟨s.set i (xs.getD i d), ⟨by simp [h1], by
   rw [List.take_add_one, List.take_add_one, List.take_set_of_le (Nat.le_refl _), h2];simp [hi, h1, A0x hi]⟩, Goes.succ fun k => hstep k i s hi h1⟩) 0 ys (Nat.zero_le _) ⟨hy, by simp⟩
 have : s = xs := by
   rw [List.take_of_length_le (by omega), List.take_of_length_le (Nat.le_refl _)] at hs2;exact hs2
 rw [this] at hs3;exact hs3
theorem ite_nb {α : Type} (b : Bool) (x y : α) : (if (!b) = true then x else y) = if b = true then y else x := by cases b <;> rfl
theorem Ev.allP {A B : Type} {L : Nat -> Nat -> Option ((Bool × A) × B)} {a : A} {b : B} {n : Nat} (P : Nat -> Prop) (e : Bool) (hstep : ∀ i, i < n -> (P i /\ ∀ k, L (k + 1) i = L k (i + 1)) ∨ (¬ P i /\ ∀ k, L (k + 1) i = some ((false, a), b))) (hend : Ev (fun k => L k n) ((e, a), b)) (i : Nat) (hi : i ≤ n) :
   ∃ v, Ev (fun k => L k i) ((v, a), b) /\ (v = true ↔ e = true /\ ∀ j, i ≤ j -> j < n -> P j) := by
 have key : ∀ m i, i + m = n -> ∃ v, Ev (fun k => L k i) ((v, a), b) /\ (v = true ↔ e = true /\ ∀ j, i ≤ j -> j < n -> P j) := by
   intro m;induction m with
   | zero => intro i hi; obtain rfl : i = n := by omega
             exact ⟨e, hend, ⟨fun h => ⟨h, fun j h1 h2 => by omega⟩, fun h => h.1⟩⟩
   | succ m ih =>
     intro i hi;obtain ⟨v, hv, hv'⟩ := ih (i + 1) (by omega);rcases hstep i (by omega) with ⟨hp, h⟩ | ⟨hp, h⟩
     . refine ⟨v, hv.succ h, hv'.trans ⟨fun ⟨h1, h2⟩ => ⟨h1, fun j hj hn => ?_⟩, fun ⟨h1, h2⟩ => ⟨h1, fun j hj hn => h2 j (by omega) hn⟩⟩⟩;by_cases hij : j = i
       . rw [hij]; exact hp
       . exact h2 j (by omega) hn
     . exact ⟨false, (Ev.const _).succ h, ⟨fun h => (by cases h), fun ⟨_, h2⟩ => absurd (h2 i (Nat.le_refl _) (by omega)) hp⟩⟩
 exact key (n - i) i (by omega)
theorem A3I {i : Nat} (h : 0 < i) (h2 : i < 4611686018427387904) : IntKind.i64.wrap ((i : Int) - 1) = ((i - 1 : Nat) : Int) := by
 rw [A0w (by omega) (by omega)]; omega
theorem Goes.foldl {α σ R : Type} {L : Nat -> Nat -> σ -> Option R} (xs : List α) (d : α) (f : σ -> α -> σ) (hstep : ∀ k i s, i < xs.length -> L (k + 1) i s = L k (i + 1) (f s (xs.getD i d))) (s : σ) : Goes (fun k => L k 0 s) (fun k => L k xs.length (xs.foldl f s)) := by
 have key : ∀ m i s, i + m = xs.length -> Goes (fun k => L k i s) (fun k => L k xs.length ((xs.drop i).foldl f s)) := by
   intro m;induction m with
   | zero => intro i s hi; obtain rfl : i = xs.length := by omega
             rw [List.drop_length]; exact Goes.refl _
   | succ m ih =>
     intro i s hi;have h : i < xs.length := by omega
     refine (Goes.succ fun k => hstep k i s h).trans ?_;rw [List.drop_eq_getElem_cons h, List.foldl_cons, <- A0x (d := d) h];exact ih (i + 1) _ (by omega)
 have := key xs.length 0 s (by omega);simpa using this
theorem A0z {α : Type} {xs : List α} {i : Nat} (d : α) (h : i < xs.length) : xs.getD i d ∈ xs := by rw [A0x h]; exact List.getElem_mem h
theorem Ev.allF {A B : Type} {L : Nat -> Nat -> Option ((Bool × A) × B)} {a : A} {b : B} {n : Nat} (P : Nat -> Prop) (e : Bool) (i0 : Nat) (hstep : ∀ i, i0 ≤ i -> i < n -> (P i /\ ∀ k, L (k + 1) i = L k (i + 1)) ∨ (¬ P i /\ ∀ k, L (k + 1) i = some ((false, a), b))) (hend : Ev (fun k => L k n) ((e, a), b)) (i : Nat) (h0 : i0 ≤ i) (hi : i ≤ n) :
   ∃ v, Ev (fun k => L k i) ((v, a), b) /\ (v = true ↔ e = true /\ ∀ j, i ≤ j -> j < n -> P j) := by
 have key : ∀ m i, i0 ≤ i -> i + m = n -> ∃ v, Ev (fun k => L k i) ((v, a), b) /\ (v = true ↔ e = true /\ ∀ j, i ≤ j -> j < n -> P j) := by
   intro m;induction m with
   | zero => intro i h0 hi; obtain rfl : i = n := by omega
             exact ⟨e, hend, ⟨fun h => ⟨h, fun j h1 h2 => by omega⟩, fun h => h.1⟩⟩
   | succ m ih =>
     intro i h0 hi;obtain ⟨v, hv, hv'⟩ := ih (i + 1) (by omega) (by omega);rcases hstep i h0 (by omega) with ⟨hp, h⟩ | ⟨hp, h⟩
     . refine ⟨v, hv.succ h, hv'.trans ⟨fun ⟨h1, h2⟩ => ⟨h1, fun j hj hn => ?_⟩, fun ⟨h1, h2⟩ => ⟨h1, fun j hj hn => h2 j (by omega) hn⟩⟩⟩;by_cases hij : j = i
       . rw [hij]; exact hp
       . exact h2 j (by omega) hn
     . exact ⟨false, (Ev.const _).succ h, ⟨fun h => (by cases h), fun ⟨_, h2⟩ => absurd (h2 i (Nat.le_refl _) (by omega)) hp⟩⟩
 exact key (n - i) i h0 (by omega)
theorem Aa2.val (n lo hi : Int) : Aa2.F (n, lo, hi, ()) = some ((decide (lo ≤ n /\ n ≤ hi), ()), ()) := by
 rw [Aa2.eq, Aa2.T];by_cases h : lo ≤ n
 . rw [if_pos (by simp [h])]; simp [h]
 . rw [if_neg (by simp [h])]; simp [h]
theorem Aa4.val (n lo hi : Int) : Aa4.F (n, lo, hi, ()) = some ((decide (lo ≤ n /\ n ≤ hi), ()), ()) := by
 rw [Aa4.eq, Aa4.T];by_cases h : lo ≤ n
 . rw [if_pos (by simp [h])]; simp [h]
 . rw [if_neg (by simp [h])]; simp [h]
def cmpI (x y : Int) : Int := if x < y then -1 else if x > y then 1 else 0
theorem Ak5.val (x y : Int) : Ak5.F (x, y, ()) = some ((cmpI x y, ()), ()) := by
 rw [Ak5.eq, Ak5.T, Ak7.eq, Ak7.T, Ak7.eq, Ak7.T];simp only [Option.bind_some, bne_self_eq_false, Bool.false_eq_true, if_false, decide_eq_true_eq, cmpI]
 repeat' split
 all_goals rfl
theorem Ah4.val2 (x y : Int) : Ah4.F ([x, y], ()) = some ((if x ≠ 0 then x else y, ()), ()) := by
 refine Ah4.of _ ⟨3, fun k hk => ?_⟩;obtain ⟨k, rfl⟩ : ∃ j, k = j + 1 + 1 + 1 := ⟨k - 3, by omega⟩;show Ah4.T (k + 1 + 1 + 1) [x, y] = _;rw [Ah4.T, Ah4.l3_eq];by_cases hx : x = 0
 . subst hx;simp only [List.length_cons, List.length_nil];rw [if_pos (by simp), if_pos (by simp), if_neg (by simp), Ah4.l3_eq];simp only [List.length_cons, List.length_nil];rw [A0w (by omega) (by omega)];rw [if_pos (by simp), if_pos (by simp)];by_cases hy : y = 0
   . subst hy;rw [if_neg (by simp), Ah4.l3_eq, A0w (by omega) (by omega), if_neg (by simp)]; simp
   . rw [if_pos (by simp [hy])]; simp
 . simp only [List.length_cons, List.length_nil];rw [if_pos (by simp), if_pos (by simp), if_pos (by simp [hx])];simp [hx]
abbrev MatV := Int × Int × Int × List Int
abbrev ShfV := List (List Int) × Int × List Int × List MatV
def Sm (xs : List Int) : Prop := xs.length ≤ 1048576
def SmL (xs : List (List Int)) : Prop := xs.length ≤ 1048576 /\ ∀ x ∈ xs, Sm x
def SmM (m : MatV) : Prop := Sm m.2.2.2
def SmMs (ms : List MatV) : Prop := ms.length ≤ 1048576 /\ ∀ m ∈ ms, SmM m
def SmSh (s : ShfV) : Prop := SmL s.1 /\ Sm s.2.2.1 /\ SmMs s.2.2.2
theorem A3o {α : Type} (L : Nat -> Nat -> Int -> Option ((Int × Unit) × Unit)) (xs : List α) (d : α) (P : α -> Prop)
   (hstep : ∀ i l, i < xs.length -> 0 ≤ l -> l ≤ 1048576 -> (∃ r, 0 ≤ r /\ r ≤ l /\ P (xs.getD i d) /\ ∀ k, L (k + 1) i l = L k (i + 1) r) ∨ ∀ k, L (k + 1) i l = some ((-1, ()), ()))
   (hend : ∀ k l, L (k + 1) xs.length l = some ((l, ()), ())) (l : Int) (h0 : 0 ≤ l) (h1 : l ≤ 1048576) :
   ∃ r, Ev (fun k => L k 0 l) ((r, ()), ()) /\ (r = -1 ∨ 0 ≤ r /\ r ≤ l /\ ∀ x ∈ xs, P x) := by
 obtain ⟨r, hr, q, rfl, hq⟩ := Ev.loop (σ := Int) L xs.length (fun i s => 0 ≤ s /\ s ≤ l /\ ∀ j, j < i -> P (xs.getD j d)) (fun r => ∃ q : Int, r = ((q, ()), ()) /\ (q = -1 ∨ 0 ≤ q /\ q ≤ l /\ ∀ x ∈ xs, P x))
   (fun i s hi ⟨a, b, c⟩ => by
     rcases hstep i s hi a (by omega) with ⟨r, r0, r1, hp, e⟩ | e
     . refine .inr ⟨r, ⟨r0, by omega, fun j hj => ?_⟩, Goes.succ e⟩;by_cases hji : j = i
       . rw [hji]; exact hp
       . exact c j (by omega)
     . exact .inl ⟨_, (Ev.const _).succ e, -1, rfl, .inl rfl⟩)
   (fun s ⟨a, b, c⟩ => ⟨_, (Ev.const _).succ fun k => hend k s, s, rfl, .inr ⟨a, b, fun x hx => by
     obtain ⟨j, hj, rfl⟩ := List.getElem_of_mem hx;rw [<- A0x (d := d) hj]; exact c j hj⟩⟩) 0 l (Nat.zero_le _) ⟨h0, Int.le_refl _, fun j hj => by omega⟩
 exact ⟨q, hr, hq⟩
theorem A0Y {α : Type} (L : Nat -> Nat -> Option ((Bool × Unit) × Unit)) (xs ys : List α) (d : α) (hl : xs.length = ys.length)
   (hstep : ∀ i, i < xs.length -> ∃ b : Bool, (b = true ↔ xs.getD i d = ys.getD i d) /\ ∀ k, L (k + 1) i = if (!b) = true then some ((false, ()), ()) else L k (i + 1))
   (hend : ∀ k, L (k + 1) xs.length = some ((true, ()), ())) : ∃ v, Ev (fun k => L k 0) ((v, ()), ()) /\ (v = true ↔ xs = ys) := by
 obtain ⟨v, hv, hv'⟩ := Ev.allP (L := L) (a := ()) (b := ()) (n := xs.length) (fun i => xs.getD i d = ys.getD i d) true (fun i hi => by
   obtain ⟨b, hb, e⟩ := hstep i hi;cases b with
   | true => exact .inl ⟨hb.1 rfl, fun k => by rw [e]; rfl⟩
   | false => exact .inr ⟨fun h => absurd (hb.2 h) (by simp), fun k => by rw [e]; rfl⟩) ((Ev.const _).succ hend) 0 (Nat.zero_le _)
 refine ⟨v, hv, hv'.trans ⟨fun ⟨_, h⟩ => ?_, fun h => ⟨rfl, fun j _ _ => by rw [h]⟩⟩⟩;refine List.ext_getElem hl fun i h1 h2 => ?_;have := h i (Nat.zero_le _) h1
 rwa [A0x h1, A0x h2] at this
theorem idx2 {i n : Nat} (h : i < n) : 0 ≤ (i : Int) /\ (i : Int) < (n : Int) := by omega
def A0C (p : Int) : Prop := (2 ≤ p /\ p ≤ 251) /\ ∀ i : Nat, 2 ≤ i -> (i : Int) * i ≤ p -> p.tmod i ≠ 0
theorem A3w {i : Nat} (h : i ≤ 1000) : IntKind.i64.wrap ((i : Int) * (i : Int)) = (i : Int) * (i : Int) := by
 have : i * i ≤ 1000 * 1000 := Nat.mul_le_mul h h;have e : (i : Int) * (i : Int) = ((i * i : Nat) : Int) := by simp
 rw [e]; exact A0w (by omega) (by omega)
theorem A2y (L : Nat -> Int -> Option ((Bool × Unit) × Unit)) (p : Int) (hp : 2 ≤ p /\ p ≤ 251) (hL : ∀ k i, L (k + 1) i = if (decide ((IntKind.i64.wrap (i * i)) ≤ p)) = true then (if i = 0 then none else if ((p.tmod i) == (0 : Int)) = true then some ((false, ()), ()) else L k (IntKind.i64.wrap (i + (1 : Int)))) else some ((true, ()), ())) :
   ∃ v, Ev (fun k => L k 2) ((v, ()), ()) /\ (v = true ↔ A0C p) := by
 have big : ∀ i : Nat, 16 ≤ i -> p < (i : Int) * i := fun i hi => by
   have : 16 * 16 ≤ i * i := Nat.mul_le_mul hi hi;have e : (i : Int) * (i : Int) = ((i * i : Nat) : Int) := by simp
   omega
 have key : ∀ d i : Nat, 16 - i ≤ d -> 2 ≤ i -> i ≤ 1000 -> (∀ j : Nat, 2 ≤ j -> j < i -> p.tmod j ≠ 0) -> ∃ v, Ev (fun k => L k (i : Int)) ((v, ()), ()) /\ (v = true ↔ A0C p) := by
   intro d;induction d with
   | zero =>
     intro i hd h2 hi hlow;refine ⟨true, (Ev.const _).succ fun k => by rw [hL, A3w hi, if_neg (by simp only [decide_eq_true_eq]; have := big i (by omega); omega)], by simp; exact ⟨hp, fun j hj hjp => hlow j hj (by
       by_cases h : j < i
       . exact h
       . have := big j (by omega); omega)⟩⟩
   | succ d ih =>
     intro i hd h2 hi hlow;by_cases hsq : (i : Int) * i ≤ p
     . by_cases hm : p.tmod (i : Int) = 0
       . exact ⟨false, (Ev.const _).succ fun k => by rw [hL, A3w hi, if_pos (by simp only [decide_eq_true_eq]; exact hsq), if_neg (by omega), if_pos (by simp only [beq_iff_eq]; exact hm)], by simp; intro hc; exact hc.2 i h2 hsq hm⟩
       . have hi16 : i < 16 := by
           by_cases h : i < 16
           . exact h
           . have := big i (by omega); omega
         obtain ⟨v, hv, hv'⟩ := ih (i + 1) (by omega) (by omega) (by omega) (fun j hj hji => by
           by_cases h : j = i
           . rw [h]; exact hm
           . exact hlow j hj (by omega))
         exact ⟨v, hv.succ fun k => by rw [hL, A3w hi, if_pos (by simp only [decide_eq_true_eq]; exact hsq), if_neg (by omega), if_neg (by simp only [beq_iff_eq]; exact hm), A0y (by omega)], hv'⟩
     . refine ⟨true, (Ev.const _).succ fun k => by rw [hL, A3w hi, if_neg (by simp only [decide_eq_true_eq]; exact hsq)], by simp; exact ⟨hp, fun j hj hjp => hlow j hj (by
         by_cases h : j < i
         . exact h
         . exfalso;have : i * i ≤ j * j := Nat.mul_le_mul (by omega) (by omega);have e1 : (i : Int) * (i : Int) = ((i * i : Nat) : Int) := by simp
           have e2 : (j : Int) * (j : Int) = ((j * j : Nat) : Int) := by simp
           omega)⟩⟩
 exact key 16 2 (by omega) (by omega) (by omega) fun j hj hj2 => by omega
theorem Ag9.val (p : Int) : ∃ v, Ag9.F (p, ()) = some ((v, ()), ()) /\ (v = true ↔ A0C p) := by
 by_cases hp : 2 ≤ p /\ p ≤ 251
 . obtain ⟨v, hv, hv'⟩ := A2y (fun k i => Ag9.l4 k p i) p hp (fun k i => Ag9.l4_eq k p i);exact ⟨v, Ag9.of _ (hv.of_eq fun k => by rw [Ag9.T, Aa2.val]; simp only [Option.bind_some]; rw [if_neg (by rw [decide_eq_true hp]; simp)]), hv'⟩
 . exact ⟨false, Ag9.of _ ((Ev.const _).of_eq fun k => by rw [Ag9.T, Aa2.val]; simp only [Option.bind_some]; rw [if_pos (by rw [decide_eq_false hp]; rfl)]), by simp; intro h; exact hp h.1⟩
theorem Ad5.val (p : Int) : ∃ v, Ad5.F (p, ()) = some ((v, ()), ()) /\ (v = true ↔ A0C p) := by
 by_cases hp : 2 ≤ p /\ p ≤ 251
 . obtain ⟨v, hv, hv'⟩ := A2y (fun k i => Ad5.l4 k p i) p hp (fun k i => Ad5.l4_eq k p i);exact ⟨v, Ad5.of _ (hv.of_eq fun k => by rw [Ad5.T, Aa4.val]; simp only [Option.bind_some]; rw [if_neg (by rw [decide_eq_true hp]; simp)]), hv'⟩
 . exact ⟨false, Ad5.of _ ((Ev.const _).of_eq fun k => by rw [Ad5.T, Aa4.val]; simp only [Option.bind_some]; rw [if_pos (by rw [decide_eq_false hp]; rfl)]), by simp; intro h; exact hp h.1⟩
def A3K (xs : List Int) : Prop := ∀ i, 0 < i -> i < xs.length -> xs.getD (i - 1) 0 < xs.getD i 0
def A0S (lo hi : Int) (xs : List Int) : Prop := ∀ a ∈ xs, lo ≤ a /\ a ≤ hi
theorem allIn_iff {lo hi : Int} {xs : List Int} : A0S lo hi xs ↔ ∀ i, i < xs.length -> lo ≤ xs.getD i 0 /\ xs.getD i 0 ≤ hi := by
 refine ⟨fun h i hi => h _ (A0z 0 hi), fun h a ha => ?_⟩;obtain ⟨j, hj, rfl⟩ := List.getElem_of_mem ha;have := h j hj
 rwa [A0x hj] at this
theorem Aj5.val (xs : List Int) (lo hi : Int) (hn : xs.length < 4611686018427387904) : ∃ v, Aj5.F (xs, lo, hi, ()) = some ((v, ()), ()) /\ (v = true ↔ A0S lo hi xs /\ A3K xs) := by
 obtain ⟨v, hv, hv'⟩ := Ev.allP (L := fun k i => Aj5.l2 k xs lo hi (i : Int)) (a := ()) (b := ()) (n := xs.length) (fun i => (lo ≤ xs.getD i 0 /\ xs.getD i 0 ≤ hi) /\ (0 < i -> xs.getD (i - 1) 0 < xs.getD i 0)) true (fun i hi2 => by
   have E := fun k => Aj5.l2_eq k xs lo hi (i : Int);simp only [if_pos (ltI.2 hi2), if_pos (idxI.2 hi2), Int.toNat_natCast, Aa2.val, Option.bind_some, A0y (show i < 4611686018427387904 by omega)] at E;by_cases h : lo ≤ xs.getD i 0 /\ xs.getD i 0 ≤ hi
   . simp only [decide_eq_true h, Bool.not_true, Bool.false_eq_true, if_false] at E;by_cases h0 : 0 < i
     . have h1 : i - 1 < xs.length := by omega
       simp only [if_pos (show decide ((i : Int) > 0) = true by simp; omega), A3I h0 (show i < 4611686018427387904 by omega), if_pos (idxI.2 h1), Int.toNat_natCast] at E;by_cases h2 : xs.getD (i - 1) 0 < xs.getD i 0
       . exact .inl ⟨⟨h, fun _ => h2⟩, fun k => by rw [E, if_neg (by simp only [decide_eq_true_eq]; omega)]⟩
       . exact .inr ⟨fun hh => h2 (hh.2 h0), fun k => by rw [E, if_pos (by simp only [decide_eq_true_eq]; omega)]⟩
     . exact .inl ⟨⟨h, fun h1 => absurd h1 h0⟩, fun k => by rw [E, if_neg (by simp only [decide_eq_true_eq]; omega)]⟩
   . exact .inr ⟨fun hh => h hh.1, fun k => by rw [E, if_pos (by rw [decide_eq_false h]; rfl)]⟩) ((Ev.const _).succ fun k => by rw [Aj5.l2_eq, if_neg (by simp)]) 0 (Nat.zero_le _)
 refine ⟨v, Aj5.of _ _ _ (hv.of_eq fun k => rfl), hv'.trans ?_⟩;rw [allIn_iff];exact ⟨fun ⟨_, h⟩ => ⟨fun i hi => (h i (Nat.zero_le _) hi).1, fun i h0 hi => (h i (Nat.zero_le _) hi).2 h0⟩, fun ⟨h1, h2⟩ => ⟨rfl, fun i _ hi => ⟨h1 i hi, fun h0 => h2 i h0 hi⟩⟩⟩
theorem Ag5.val (xs : List Int) (hn : xs.length < 4611686018427387904) : ∃ v, Ag5.F (xs, ()) = some ((v, ()), ()) /\ (v = true ↔ A3K xs) := by
 by_cases hz : xs.length = 0
 . exact ⟨true, Ag5.of _ (((Ev.const _).succ fun k => by rw [Ag5.T, Ag5.l2_eq, if_neg (by simp [hz])]).of_eq fun k => rfl), by simp; intro i h1 h2; omega⟩
 obtain ⟨v, hv, hv'⟩ := Ev.allF (L := fun k i => Ag5.l2 k xs (i : Int)) (a := ()) (b := ()) (n := xs.length) (fun i => 0 < i -> xs.getD (i - 1) 0 < xs.getD i 0) true 1 (fun i h0 hi2 => by
   have E := fun k => Ag5.l2_eq k xs (i : Int);have h0 : 0 < i := h0
   . have h1 : i - 1 < xs.length := by omega
     simp only [if_pos (ltI.2 hi2), if_pos (idxI.2 hi2), Int.toNat_natCast, A0y (show i < 4611686018427387904 by omega), A3I h0 (show i < 4611686018427387904 by omega), if_pos (idxI.2 h1)] at E;by_cases h2 : xs.getD (i - 1) 0 < xs.getD i 0
     . exact .inl ⟨fun _ => h2, fun k => by rw [E, if_neg (by simp only [decide_eq_true_eq]; omega)]⟩
     . exact .inr ⟨fun hh => h2 (hh h0), fun k => by rw [E, if_pos (by simp only [decide_eq_true_eq]; omega)]⟩) ((Ev.const _).succ fun k => by rw [Ag5.l2_eq, if_neg (by simp)]) 1 (Nat.le_refl _) (by omega)
 refine ⟨v, Ag5.of _ (hv.of_eq fun k => rfl), hv'.trans ?_⟩;exact ⟨fun ⟨_, h⟩ i h0 hi => h i h0 hi h0, fun h => ⟨rfl, fun i _ hi h0 => h i h0 hi⟩⟩
theorem Aj4.val (xs : List Int) (f : Int × Unit -> Option (Bool × Unit)) (p : Int -> Bool) (hf : ∀ x ∈ xs, f (x, ()) = some (p x, ())) (hn : xs.length < 4611686018427387904) :
   ∃ r : Int, Aj4.F (xs, f, ()) = some ((r, ()), ()) /\ ((r = -1 /\ ∀ x ∈ xs, p x = false) ∨ ∃ j : Nat, j < xs.length /\ r = j /\ p (xs.getD j 0) = true /\ ∀ i, i < j -> p (xs.getD i 0) = false) := by
 obtain ⟨r, hr, hq⟩ := Ev.loop (σ := Unit) (R := (Int × Unit) × Unit) (fun k i _ => Aj4.l2 k xs f xs.length (i : Int)) xs.length (fun i _ => ∀ j, j < i -> p (xs.getD j 0) = false)
   (fun r => ∃ v : Int, r = ((v, ()), ()) /\ ((v = -1 /\ ∀ x ∈ xs, p x = false) ∨ ∃ j : Nat, j < xs.length /\ v = j /\ p (xs.getD j 0) = true /\ ∀ i, i < j -> p (xs.getD i 0) = false))
   (fun i s hi hI => by
     have E := fun k => Aj4.l2_eq k xs f xs.length (i : Int);simp only [if_pos (ltI.2 hi), if_pos (idxI.2 hi), Int.toNat_natCast, hf _ (A0z 0 hi), Option.bind_some, A0y (show i < 4611686018427387904 by omega)] at E;cases hp : p (xs.getD i 0) with
     | true => exact .inl ⟨_, (Ev.const _).succ fun k => by rw [E, if_pos hp], i, rfl, .inr ⟨i, hi, rfl, hp, hI⟩⟩
     | false =>
       refine .inr ⟨(), fun j hj => ?_, Goes.succ fun k => by rw [E, if_neg (by rw [hp]; simp)]⟩;by_cases hji : j = i
       . rw [hji]; exact hp
       . exact hI j (by omega))
   (fun s hI => ⟨_, (Ev.const _).succ fun k => by rw [Aj4.l2_eq, if_neg (by simp)], -1, rfl, .inl ⟨rfl, fun x hx => by
     obtain ⟨j, hj, rfl⟩ := List.getElem_of_mem hx;rw [<- A0x (d := 0) hj]; exact hI j hj⟩⟩) 0 () (Nat.zero_le _) (by intro j hj; omega)
 obtain ⟨v, rfl, hv⟩ := hq;exact ⟨v, Aj4.of _ _ (hr.of_eq fun k => rfl), hv⟩
theorem Ad4.val (xs : List Int) (f : Int × Unit -> Option (Bool × Unit)) (p : Int -> Bool) (hf : ∀ x ∈ xs, f (x, ()) = some (p x, ())) (hn : xs.length < 4611686018427387904) :
   Ad4.F (xs, f, ()) = some ((xs.any p, ()), ()) := by
 obtain ⟨r, hr, h⟩ := Aj4.val xs f p hf hn;rw [Ad4.eq, Ad4.T, hr];simp only [Option.bind_some];rcases h with ⟨rfl, h⟩ | ⟨j, hj, rfl, hp, -⟩
 . have : xs.any p = false := by simp only [List.any_eq_false]; intro x hx; simp [h x hx]
   rw [this]; rfl
 . have : xs.any p = true := List.any_eq_true.2 ⟨_, A0z 0 hj, hp⟩;rw [this]; simp
theorem Al2.val (xs : List Int) (p : Int) (hn : xs.length < 4611686018427387904) : ∃ v, Al2.F (xs, p, ()) = some ((v, ()), ()) /\ (v = true ↔ A0S 0 (IntKind.i64.wrap (p - 1)) xs) := by
 rw [Al2.eq, Al2.T, Ad4.val xs _ (fun a => !decide (0 ≤ a /\ a ≤ IntKind.i64.wrap (p - 1))) (fun a _ => by
   show (An3.F (a, p, ())).map (·.1) = _;rw [An3.eq, An3.T, An4.eq, An4.T, Aa4.val]; rfl) hn]
 refine ⟨_, rfl, ?_⟩;simp only [Bool.not_eq_true', List.any_eq_false, Bool.not_eq_eq_eq_not, Bool.not_true, A0S];simp
def MatOk (m : MatV) : Prop := A0C m.1 /\ (0 ≤ m.2.1 /\ m.2.1 ≤ 32) /\ (0 ≤ m.2.2.1 /\ m.2.2.1 ≤ 32) /\ (m.2.2.2.length : Int) = m.2.1 * m.2.2.1 /\ A0S 0 (m.1 - 1) m.2.2.2
theorem A4w {a b : Int} (ha : 0 ≤ a /\ a ≤ 32) (hb : 0 ≤ b /\ b ≤ 32) : 0 ≤ a * b /\ a * b ≤ 1024 := by
 obtain ⟨a, rfl⟩ := Int.eq_ofNat_of_zero_le ha.1;obtain ⟨b, rfl⟩ := Int.eq_ofNat_of_zero_le hb.1;have : a * b ≤ 32 * 32 := Nat.mul_le_mul (by omega) (by omega);have e : (a : Int) * (b : Int) = ((a * b : Nat) : Int) := by simp
 omega
theorem Ae6.val (xs : List Int) (n p : Int) (hn : xs.length < 4611686018427387904) : ∃ v, Ae6.F (xs, n, p, ()) = some ((v, ()), ()) /\ (v = true ↔ (xs.length : Int) = n /\ A0S 0 (IntKind.i64.wrap (p - 1)) xs) := by
 obtain ⟨v, hv, hv'⟩ := Ev.allP (L := fun k i => Ae6.l2 k xs n p (i : Int)) (a := ()) (b := ()) (n := xs.length) (fun i => 0 ≤ xs.getD i 0 /\ xs.getD i 0 ≤ IntKind.i64.wrap (p - 1)) ((xs.length : Int) == n) (fun i hi => by
   have E := fun k => Ae6.l2_eq k xs n p (i : Int);simp only [if_pos (ltI.2 hi), if_pos (idxI.2 hi), Int.toNat_natCast, Aa2.val, Option.bind_some, A0y (show i < 4611686018427387904 by omega)] at E;by_cases h : 0 ≤ xs.getD i 0 /\ xs.getD i 0 ≤ IntKind.i64.wrap (p - 1)
   . exact .inl ⟨h, fun k => by rw [E, if_neg (by rw [decide_eq_true h]; simp)]⟩
   . exact .inr ⟨h, fun k => by rw [E, if_pos (by rw [decide_eq_false h]; rfl)]⟩) ((Ev.const _).succ fun k => by rw [Ae6.l2_eq, if_neg (by simp)]) 0 (Nat.zero_le _)
 refine ⟨v, Ae6.of _ _ _ (hv.of_eq fun k => rfl), hv'.trans ?_⟩;rw [allIn_iff];simp only [beq_iff_eq];exact ⟨fun ⟨h1, h2⟩ => ⟨h1, fun i hi => h2 i (Nat.zero_le _) hi⟩, fun ⟨h1, h2⟩ => ⟨h1, fun i _ hi => h2 i hi⟩⟩
theorem Ah0.val (m : MatV) (hn : m.2.2.2.length < 4611686018427387904) : ∃ v, Ah0.F (m, ()) = some ((v, ()), ()) /\ (v = true ↔ MatOk m) := by
 obtain ⟨p, r, c, xs⟩ := m;obtain ⟨v1, h1, h1'⟩ := Ag9.val p;rw [Ah0.eq, Ah0.T, Ai1.eq, Ai1.T, h1];simp only [Option.bind_some, Aa2.val];unfold MatOk;cases v1 with
 | false => exact ⟨false, by rw [if_neg (by simp)], by simp; intro h; exact absurd (h1'.2 h) (by simp)⟩
 | true =>
   have hp := h1'.1 rfl;have hpr := hp.1;by_cases hr : 0 ≤ r /\ r ≤ 32
   . by_cases hc : 0 ≤ c /\ c ≤ 32
     . have hm := A4w hr hc;obtain ⟨v2, h2, h2'⟩ := Ae6.val xs (IntKind.i64.wrap (r * c)) p hn;rw [A0w (x := r * c) (by omega) (by omega), A0w (x := p - 1) (by omega) (by omega)] at h2';refine ⟨v2, by rw [if_pos rfl, if_pos (by simp only [decide_eq_true_eq]; exact hr), if_pos (by simp only [decide_eq_true_eq]; exact hc), h2]; rfl, h2'.trans ?_⟩;exact ⟨fun h => ⟨hp, hr, hc, h.1, h.2⟩, fun h => ⟨h.2.2.2.1, h.2.2.2.2⟩⟩
     . exact ⟨false, by rw [if_pos rfl, if_pos (by simp only [decide_eq_true_eq]; exact hr), if_neg (by simp only [decide_eq_true_eq]; exact hc)], by simp only [Bool.false_eq_true, false_iff]; exact fun h => hc h.2.2.1⟩
   . exact ⟨false, by rw [if_pos rfl, if_neg (by simp only [decide_eq_true_eq]; exact hr)], by simp only [Bool.false_eq_true, false_iff]; exact fun h => hr h.2.1⟩
theorem Al0.val (m : MatV) (hn : m.2.2.2.length < 4611686018427387904) : ∃ v, Al0.F (m, ()) = some ((v, ()), ()) /\ (v = true ↔ MatOk m) := by
 obtain ⟨p, r, c, xs⟩ := m;obtain ⟨v1, h1, h1'⟩ := Ad5.val p;rw [Al0.eq, Al0.T, h1, Al3.eq, Al3.T, Al3.eq, Al3.T, Ad7.eq, Ad7.T];simp only [Option.bind_some, Aa4.val];unfold MatOk;cases v1 with
 | false => exact ⟨false, by rw [if_neg (by simp)], by simp; intro h; exact absurd (h1'.2 h) (by simp)⟩
 | true =>
   have hp := h1'.1 rfl;have hpr := hp.1;by_cases hr : 0 ≤ r /\ r ≤ 32
   . by_cases hc : 0 ≤ c /\ c ≤ 32
     . have hm := A4w hr hc;obtain ⟨v2, h2, h2'⟩ := Al2.val xs p hn;rw [A0w (x := p - 1) (by omega) (by omega)] at h2';rw [if_pos rfl, if_pos (by simp only [decide_eq_true_eq]; exact hr), if_pos (by simp only [decide_eq_true_eq]; exact hc), A0w (x := r * c) (by omega) (by omega)];by_cases hl : (xs.length : Int) = r * c
       . exact ⟨v2, by rw [if_pos (by simp only [beq_iff_eq]; exact hl), h2]; rfl, h2'.trans ⟨fun h => ⟨hp, hr, hc, hl, h⟩, fun h => h.2.2.2.2⟩⟩
       . exact ⟨false, by rw [if_neg (by simp only [beq_iff_eq]; exact hl)], by simp only [Bool.false_eq_true, false_iff]; exact fun h => hl h.2.2.2.1⟩
     . exact ⟨false, by rw [if_pos rfl, if_pos (by simp only [decide_eq_true_eq]; exact hr), if_neg (by simp only [decide_eq_true_eq]; exact hc)], by simp only [Bool.false_eq_true, false_iff]; exact fun h => hc h.2.2.1⟩
   . exact ⟨false, by rw [if_pos rfl, if_neg (by simp only [decide_eq_true_eq]; exact hr)], by simp only [Bool.false_eq_true, false_iff]; exact fun h => hr h.2.1⟩
def sumN (f : Nat -> Int) : Nat -> Int
 | 0 => 0
 | n + 1 => sumN f n + f n
theorem sumN_bd {f : Nat -> Int} {n : Nat} {B : Nat} (h : ∀ k, k < n -> 0 ≤ f k /\ f k ≤ (B : Int)) : 0 ≤ sumN f n /\ sumN f n ≤ ((n * B : Nat) : Int) := by
 induction n with
 | zero => simp [sumN]
 | succ n ih =>
   have h1 := ih fun k hk => h k (by omega);have h2 := h n (by omega);rw [Nat.add_mul, Nat.one_mul];simp only [sumN]; omega
theorem A0q {f g : Nat -> Int} {n : Nat} (h : ∀ k, k < n -> f k = g k) : sumN f n = sumN g n := by
 induction n with
 | zero => rfl
 | succ n ih => simp only [sumN]; rw [ih fun k hk => h k (by omega), h n (by omega)]
theorem A1r {p a b : Int} (hp : 2 ≤ p /\ p ≤ 251) (ha : 0 ≤ a /\ a ≤ p - 1) (hb : 0 ≤ b /\ b ≤ p - 1) : 0 ≤ a * b /\ a * b ≤ ((62500 : Nat) : Int) := by
 obtain ⟨a, rfl⟩ := Int.eq_ofNat_of_zero_le ha.1;obtain ⟨b, rfl⟩ := Int.eq_ofNat_of_zero_le hb.1;have : a * b ≤ 250 * 250 := Nat.mul_le_mul (by omega) (by omega);have e : (a : Int) * (b : Int) = ((a * b : Nat) : Int) := by simp
 omega
theorem A2X {a p : Int} (h : 0 ≤ a) : a.tmod p = a % p := Int.tmod_eq_emod_of_nonneg h
theorem A1i {a p : Int} (hp : 2 ≤ p) : 0 ≤ a % p /\ a % p ≤ p - 1 := by
 have h1 := Int.emod_nonneg a (show p ≠ 0 by omega);have h2 := Int.emod_lt_of_pos a (show 0 < p by omega);omega
theorem A0F {lo hi : Int} {xs : List Int} (h : A0S lo hi xs) {i : Nat} (hi' : i < xs.length) : lo ≤ xs.getD i 0 /\ xs.getD i 0 ≤ hi := allIn_iff.1 h i hi'
def dotE (xs ys : List Int) (k : Nat) : Int := xs.getD k 0 * ys.getD k 0
theorem Aj0.val (xs ys : List Int) (p : Int) (hp : 2 ≤ p /\ p ≤ 251) (hx : A0S 0 (p - 1) xs) (hy : A0S 0 (p - 1) ys) (hl : xs.length ≤ ys.length) (hn : xs.length ≤ 1048576) :
   Aj0.F (xs, ys, p, ()) = some ((sumN (dotE xs ys) xs.length % p, ()), ()) := by
 refine Aj0.of _ _ _ ?_;obtain ⟨s, hs, hg⟩ := Goes.loop (R := ((Int × Unit) × Unit)) (fun k i (s : Int) => Aj0.l3 k xs ys p s (xs.length : Int) (i : Int)) xs.length (fun i s => s = sumN (dotE xs ys) i % p) (fun i s hi h2 => ⟨_, rfl, Goes.succ fun k => by
   have hm := A1r hp (A0F hx hi) (A0F hy (show i < ys.length by omega));have hme := A1i (a := sumN (dotE xs ys) i) hp.1;rw [Aj0.l3_eq, if_pos (ltI.2 hi), if_pos (idxI.2 hi), if_pos (idxI.2 (show i < ys.length by omega)), if_neg (by omega), A0y (by omega), h2];simp only [Int.toNat_natCast];rw [A0w (x := xs.getD i 0 * ys.getD i 0) (by omega) (by omega), A0w (by omega) (by omega), A2X (by omega), Int.emod_add_emod];rfl⟩) 0 0 (Nat.zero_le _) (by simp [sumN])
 refine Ev.of_eq (hg _ ((Ev.const _).succ fun k => ?_)) fun k => rfl;rw [Aj0.l3_eq, if_neg (by simp), hs]
theorem Goes.fillSet {R : Type} (L3 : Nat -> Nat -> List Int -> Option R) (L6 : Nat -> Nat -> Nat -> List Int -> Option R) (M N Z : Nat) (g : Nat -> Nat -> Int) (pos : Nat -> Nat -> Nat)
   (hpos : ∀ i j, i < M -> j < N -> pos i j < Z) (inj : ∀ i j i' j', i < M -> j < N -> i' < M -> j' < N -> pos i j = pos i' j' -> i = i' /\ j = j')
   (hin : ∀ i x, i < M -> x.length = Z -> Goes (fun k => L3 k i x) (fun k => L6 k i 0 x))
   (hstep : ∀ i j x, i < M -> j < N -> x.length = Z -> Goes (fun k => L6 k i j x) (fun k => L6 k i (j + 1) (x.set (pos i j) (g i j))))
   (hout : ∀ i x, i < M -> x.length = Z -> Goes (fun k => L6 k i N x) (fun k => L3 k (i + 1) x)) (x0 : List Int) (h0 : x0.length = Z) :
   ∃ y, y.length = Z /\ (∀ i j, i < M -> j < N -> y.getD (pos i j) 0 = g i j) /\ (∀ q, (∀ i j, i < M -> j < N -> pos i j ≠ q) -> y.getD q 0 = x0.getD q 0) /\ Goes (fun k => L3 k 0 x0) (fun k => L3 k M y) := by
 have gs : ∀ (l : List Int) (q : Nat) (v : Int) (s : Nat), q < l.length -> (l.set q v).getD s 0 = if s = q then v else l.getD s 0 := fun l q v s hq => by
   simp only [List.getD_eq_getElem?_getD, List.getElem?_set];by_cases hqs : q = s
   . subst hqs; simp [hq]
   . simp [hqs, Ne.symm hqs]
 obtain ⟨y, ⟨h1, h2, h3⟩, hg⟩ := Goes.loop (R := R) (fun k i x => L3 k i x) M (fun i x => x.length = Z /\ (∀ a b, a < i -> b < N -> x.getD (pos a b) 0 = g a b) /\ ∀ q, (∀ a b, a < M -> b < N -> pos a b ≠ q) -> x.getD q 0 = x0.getD q 0) (fun i x hi ⟨h1, h2, h3⟩ => by
   obtain ⟨x', ⟨h4, h5, h6, h7⟩, hg2⟩ := Goes.loop (R := R) (fun k j x => L6 k i j x) N (fun j x => x.length = Z /\ (∀ a b, a < i -> b < N -> x.getD (pos a b) 0 = g a b) /\ (∀ b, b < j -> x.getD (pos i b) 0 = g i b) /\ ∀ q, (∀ a b, a < M -> b < N -> pos a b ≠ q) -> x.getD q 0 = x0.getD q 0) (fun j x hj ⟨k1, k2, k3, k4⟩ => by
     have hp := hpos i j hi hj;refine ⟨_, ⟨by simp [k1], fun a b ha hb => ?_, fun b hb => ?_, fun q hq => ?_⟩, hstep i j x hi hj k1⟩
     . rw [gs _ _ _ _ (by omega), if_neg (fun he => by have := (inj _ _ _ _ (by omega) hb hi hj he).1; omega)]; exact k2 a b ha hb
     . rw [gs _ _ _ _ (by omega)];by_cases hbj : b = j
       . rw [if_pos (by rw [hbj]), hbj]
       . rw [if_neg (fun he => hbj (inj _ _ _ _ hi (by omega) hi hj he).2)]; exact k3 b (by omega)
     . rw [gs _ _ _ _ (by omega), if_neg (fun he => hq i j hi hj he.symm)]; exact k4 q hq) 0 x (Nat.zero_le _) ⟨h1, h2, fun b hb => by omega, h3⟩
   refine ⟨x', ⟨h4, fun a b ha hb => ?_, h7⟩, ((hin i x hi h1).trans hg2).trans (hout i x' hi h4)⟩;by_cases hai : a = i
   . rw [hai]; exact h6 b hb
   . exact h5 a b (by omega) hb) 0 x0 (Nat.zero_le _) ⟨h0, fun a b ha => by omega, fun _ _ => rfl⟩
 exact ⟨y, h1, h2, h3, hg⟩
theorem rowInj {C : Nat} (a b a' b' : Nat) (hb : b < C) (hb' : b' < C) (he : a * C + b = a' * C + b') : a = a' /\ b = b' := by
 have h1 : (a * C + b) / C = a := by rw [Nat.mul_comm, Nat.mul_add_div (by omega), Nat.div_eq_of_lt hb]; omega
 have h2 : (a' * C + b') / C = a' := by rw [Nat.mul_comm, Nat.mul_add_div (by omega), Nat.div_eq_of_lt hb']; omega
 have h3 : a = a' := by rw [<- h1, <- h2, he]
 subst h3;exact ⟨rfl, by omega⟩
theorem rowLt {R C i j : Nat} (hi : i < R) (hj : j < C) : i * C + j < R * C := by
 have h2 := Nat.mul_le_mul_right C (show i + 1 ≤ R by omega);rw [Nat.add_mul, Nat.one_mul] at h2;omega
theorem Goes.push {A R : Type} (L : Nat -> Nat -> List A -> Option R) (n : Nat) (f : Nat -> A) (hstep : ∀ i s, i < n -> s.length = i -> Goes (fun k => L k i s) (fun k => L k (i + 1) (s ++ [f i]))) : Goes (fun k => L k 0 []) (fun k => L k n ((List.range n).map f)) := by
 obtain ⟨s, hs, hg⟩ := Goes.loop (R := R) L n (fun i s => s = (List.range i).map f) (fun i s hi h2 => ⟨s ++ [f i], by rw [h2, List.range_succ, List.map_append]; rfl, hstep i s hi (by rw [h2]; simp)⟩) 0 [] (Nat.zero_le _) rfl;rw [<- hs]; exact hg
theorem push_ok {A : Type} {s : List A} {x : A} {i : Nat} (h : s.length = i) (hi : i < 1048576) : s.length + [x].length ≤ bigA := by simp only [List.length_cons, List.length_nil, bigA]; omega
theorem A0g {A : Type} (f : Nat -> A) {n i : Nat} (d : A) (h : i < n) : ((List.range n).map f).getD i d = f i := by simp [List.getD_eq_getElem?_getD, h]
def addL (p c : Int) (xs ys : List Int) : List Int := (List.range xs.length).map fun i => (xs.getD i 0 + c * ys.getD i 0) % p
theorem A1C (p c : Int) (xs ys : List Int) : (addL p c xs ys).length = xs.length := by simp [addL]
theorem A2b {p c : Int} (h : 2 ≤ p) (xs ys : List Int) : A0S 0 (p - 1) (addL p c xs ys) := fun x hx => by
 simp only [addL, List.mem_map] at hx;obtain ⟨i, _, rfl⟩ := hx;exact A1i h
theorem A3p {p c a b : Int} (hp : 2 ≤ p /\ p ≤ 251) (hc : 0 ≤ c /\ c ≤ p - 1) (ha : 0 ≤ a /\ a ≤ p - 1) (hb : 0 ≤ b /\ b ≤ p - 1) : (IntKind.i64.wrap (a + IntKind.i64.wrap (c * b))).tmod p = (a + c * b) % p := by
 have := A1r hp hc hb;rw [A0w (x := c * b) (by omega) (by omega), A0w (by omega) (by omega), A2X (by omega)]
theorem Ag2.val (xs ys : List Int) (c p : Int) (hp : 2 ≤ p /\ p ≤ 251) (hc : 0 ≤ c /\ c ≤ p - 1) (hx : A0S 0 (p - 1) xs) (hy : A0S 0 (p - 1) ys) (hl : ys.length = xs.length) (hn : xs.length < 1048576) : Ag2.F (xs, ys, c, p, ()) = some ((addL p c xs ys, ()), ()) := by
 refine Ag2.of _ _ _ _ ?_;have g := Goes.push (R := ((List Int × Unit) × Unit)) (fun k i s => Ag2.l3 k xs ys c p (xs.length : Int) (i : Int) s) xs.length (fun i => (xs.getD i 0 + c * ys.getD i 0) % p) (fun i s hi hs => Goes.succ fun k => by
   rw [Ag2.l3_eq, if_pos (ltI.2 hi), if_pos (idxI.2 hi), if_pos (idxI.2 (by omega)), if_neg (by omega)];simp only [Int.toNat_natCast, A3p hp hc (A0F hx hi) (A0F hy (i := i) (by omega))];rw [if_pos (push_ok hs (by omega)), A0y (by omega)])
 refine Ev.of_eq (g _ ((Ev.const _).succ fun k => ?_)) fun k => rfl;rw [Ag2.l3_eq, if_neg (by simp)]; rfl
theorem A3j (a b p : Int) : (a % p * b) % p = (a * b) % p := by rw [Int.mul_emod, Int.emod_emod, <- Int.mul_emod]
theorem A2G (a p : Int) : ∀ n : Nat, (a % p) ^ n % p = a ^ n % p
 | 0 => by rw [Int.pow_zero, Int.pow_zero]
 | n + 1 => by rw [Int.pow_succ, Int.pow_succ, Int.mul_emod, A2G a p n, Int.emod_emod, <- Int.mul_emod]
theorem A2J {p a b : Int} (hp : 2 ≤ p /\ p ≤ 251) (ha : 0 ≤ a /\ a ≤ p - 1) (hb : 0 ≤ b /\ b ≤ p - 1) : (IntKind.i64.wrap (a * b)).tmod p = (a * b) % p := by
 have := A1r hp ha hb;rw [A0w (x := a * b) (by omega) (by omega), A2X (by omega)]
theorem Af3.val (a p : Int) (hp : 2 ≤ p /\ p ≤ 251) (ha : 0 ≤ a /\ a ≤ p - 1) : Af3.F (a, p, ()) = some ((a ^ (p - 2).toNat % p, ()), ()) := by
 obtain ⟨n, hn⟩ : ∃ n : Nat, p - 2 = n := ⟨(p - 2).toNat, by omega⟩;have hw : IntKind.i64.wrap (p - 2) = (n : Int) := by rw [A0w (by omega) (by omega), hn]
 have hnn : (p - 2).toNat = n := by omega
 rw [hnn];refine Af3.of _ _ ?_;obtain ⟨s, hs, hg⟩ := Goes.loop (R := ((Int × Unit) × Unit)) (fun k j (s : Int) => Af3.l3 k a p s ((n - j : Nat) : Int)) n (fun j s => s = a ^ j % p) (fun j s hj h2 => ⟨_, rfl, Goes.succ fun k => by
   have hs : 0 ≤ s /\ s ≤ p - 1 := by rw [h2]; exact A1i hp.1
   have hw2 : IntKind.i64.wrap (((n - j : Nat) : Int) - 1) = ((n - (j + 1) : Nat) : Int) := by rw [A0w (by omega) (by omega)]; omega
   rw [Af3.l3_eq, if_pos (by simp; omega), if_neg (by omega), A2J hp hs ha, hw2, h2, A3j, <- Int.pow_succ]⟩) 0 1 (Nat.zero_le _) (by
     show (1 : Int) = a ^ 0 % p;rw [Int.pow_zero, Int.emod_eq_of_lt (by omega) (by omega)])
 refine Ev.of_eq (hg _ ((Ev.const _).succ fun k => ?_)) fun k => ?_
 . rw [Af3.l3_eq, if_neg (by simp), hs]
 . rw [Af3.T, hw]; rfl
theorem Ah6.loop (p : Int) (hp : 2 ≤ p /\ p ≤ 251) : ∀ (m n : Nat) (a r : Int), n ≤ m -> n ≤ 1000 -> 0 ≤ a /\ a ≤ p - 1 -> 0 ≤ r /\ r ≤ p - 1 -> Ev (fun k => Ah6.l2 k a (n : Int) p r) ((r * a ^ n % p, ()), ()) := by
 intro m;induction m with
 | zero =>
   intro n a r hn _ ha hr;obtain rfl : n = 0 := by omega
   refine (Ev.const _).succ fun k => ?_;rw [Ah6.l2_eq, if_neg (by simp), Int.pow_zero, Int.mul_one, Int.emod_eq_of_lt (by omega) (by omega)]
 | succ m ih =>
   intro n a r hn hn2 ha hr;rcases Nat.eq_zero_or_pos n with rfl | hpos
   . refine (Ev.const _).succ fun k => ?_;rw [Ah6.l2_eq, if_neg (by simp), Int.pow_zero, Int.mul_one, Int.emod_eq_of_lt (by omega) (by omega)]
   . have hdiv : IntKind.i64.wrap ((n : Int).tdiv 2) = ((n / 2 : Nat) : Int) := by
       have : (n : Int).tdiv 2 = ((n / 2 : Nat) : Int) := rfl;rw [this, A0w (by omega) (by omega)]
     have hmod : (n : Int).tmod 2 = ((n % 2 : Nat) : Int) := rfl;have hsq := A1i (a := a * a) hp.1;by_cases ho : n % 2 = 1
     . have hra := A1i (a := r * a) hp.1;have := ih (n / 2) (a * a % p) (r * a % p) (by omega) (by omega) hsq hra;have e : r * a % p * (a * a % p) ^ (n / 2) % p = r * a ^ n % p := by
         rw [A3j, Int.mul_emod, A2G, <- Int.mul_emod, Int.mul_assoc];congr 2;have hn3 : n = 2 * (n / 2) + 1 := by omega
         conv => rhs; rw [hn3, Int.pow_succ, Int.pow_mul]
         rw [show a ^ 2 = a * a from by rw [Int.pow_succ, Int.pow_succ, Int.pow_zero, Int.one_mul], Int.mul_comm]
       rw [e] at this;refine this.succ fun k => ?_;rw [Ah6.l2_eq, if_pos (by simp; omega), if_neg (by decide), hmod, ho, if_pos (by decide), if_neg (by omega), if_neg (by omega), if_neg (by decide), A2J hp ha ha, A2J hp hr ha, hdiv]
     . have := ih (n / 2) (a * a % p) r (by omega) (by omega) hsq hr;have e : r * (a * a % p) ^ (n / 2) % p = r * a ^ n % p := by
         rw [Int.mul_emod, A2G, <- Int.mul_emod];congr 2;have hn3 : n = 2 * (n / 2) := by omega
         conv => rhs; rw [hn3, Int.pow_mul]
         rw [show a ^ 2 = a * a from by rw [Int.pow_succ, Int.pow_succ, Int.pow_zero, Int.one_mul]]
       rw [e] at this;refine this.succ fun k => ?_;have h0 : n % 2 = 0 := by omega
       rw [Ah6.l2_eq, if_pos (by simp; omega), if_neg (by decide), hmod, h0, if_neg (by decide), if_neg (by omega), if_neg (by decide), A2J hp ha ha, hdiv]
theorem Aj1.val (a p : Int) (hp : 2 ≤ p /\ p ≤ 251) (ha : 0 ≤ a /\ a ≤ p - 1) : Aj1.F (a, p, ()) = some ((a ^ (p - 2).toNat % p, ()), ()) := by
 obtain ⟨n, hn⟩ : ∃ n : Nat, p - 2 = n := ⟨(p - 2).toNat, by omega⟩;have hw : IntKind.i64.wrap (p - 2) = (n : Int) := by rw [A0w (by omega) (by omega), hn]
 have hnn : (p - 2).toNat = n := by omega
 have h1 := Ah6.loop p hp n n a 1 (Nat.le_refl _) (by omega) ha (by omega);rw [Int.one_mul] at h1;have h2 : Ah6.F (a, (n : Int), p, ()) = _ := Ah6.of _ _ _ (h1.of_eq fun k => rfl);rw [Aj1.eq, Aj1.T, hw, h2, hnn]; rfl
theorem Af2.val (xs : List Int) (h : xs.length ≤ 1048576) : Af2.F (xs, ()) = some ((xs, ()), ()) := by
 rw [Af2.eq, Af2.T, if_pos (by simp only [List.length_nil, bigA]; omega)]; rfl
theorem Ae5.val (xs : List (List Int)) (f : List Int × Unit -> Option (Bool × Unit)) (p : List Int -> Bool) (hf : ∀ x ∈ xs, f (x, ()) = some (p x, ())) (hn : xs.length < 4611686018427387904) :
   ∃ r : Int, Ae5.F (xs, f, ()) = some ((r, ()), ()) /\ ((r = -1 /\ ∀ x ∈ xs, p x = false) ∨ ∃ j : Nat, j < xs.length /\ r = j /\ p (xs.getD j []) = true /\ ∀ i, i < j -> p (xs.getD i []) = false) := by
 obtain ⟨r, hr, hq⟩ := Ev.loop (σ := Unit) (R := (Int × Unit) × Unit) (fun k i _ => Ae5.l2 k xs f xs.length (i : Int)) xs.length (fun i _ => ∀ j, j < i -> p (xs.getD j []) = false)
   (fun r => ∃ v : Int, r = ((v, ()), ()) /\ ((v = -1 /\ ∀ x ∈ xs, p x = false) ∨ ∃ j : Nat, j < xs.length /\ v = j /\ p (xs.getD j []) = true /\ ∀ i, i < j -> p (xs.getD i []) = false))
   (fun i s hi hI => by
     have E := fun k => Ae5.l2_eq k xs f xs.length (i : Int);simp only [if_pos (ltI.2 hi), if_pos (idxI.2 hi), Int.toNat_natCast, hf _ (A0z [] hi), Option.bind_some, A0y (show i < 4611686018427387904 by omega)] at E;cases hp : p (xs.getD i []) with
     | true => exact .inl ⟨_, (Ev.const _).succ fun k => by rw [E, if_pos hp], i, rfl, .inr ⟨i, hi, rfl, hp, hI⟩⟩
     | false =>
       refine .inr ⟨(), fun j hj => ?_, Goes.succ fun k => by rw [E, if_neg (by rw [hp]; simp)]⟩;by_cases hji : j = i
       . rw [hji]; exact hp
       . exact hI j (by omega))
   (fun s hI => ⟨_, (Ev.const _).succ fun k => by rw [Ae5.l2_eq, if_neg (by simp)], -1, rfl, .inl ⟨rfl, fun x hx => by
     obtain ⟨j, hj, rfl⟩ := List.getElem_of_mem hx;rw [<- A0x (d := []) hj]; exact hI j hj⟩⟩) 0 () (Nat.zero_le _) (by intro j hj; omega)
 obtain ⟨v, rfl, hv⟩ := hq;exact ⟨v, Ae5.of _ _ (hr.of_eq fun k => rfl), hv⟩
theorem Ak2.val (xs : List (List Int)) (f : List Int × Unit -> Option (Bool × Unit)) (p : List Int -> Bool) (hf : ∀ x ∈ xs, f (x, ()) = some (p x, ())) (hn : xs.length < 4611686018427387904) :
   Ak2.F (xs, f, ()) = some ((xs.any p, ()), ()) := by
 obtain ⟨r, hr, h⟩ := Ae5.val xs f p hf hn;rw [Ak2.eq, Ak2.T, hr];simp only [Option.bind_some];rcases h with ⟨rfl, h⟩ | ⟨j, hj, rfl, hp, -⟩
 . have : xs.any p = false := by simp only [List.any_eq_false]; intro x hx; simp [h x hx]
   rw [this]; rfl
 . have : xs.any p = true := List.any_eq_true.2 ⟨_, A0z [] hj, hp⟩;rw [this]; simp
structure RowsOk (p : Int) (h w : Nat) (R : List (List Int)) : Prop where
 len : R.length = h
 row : ∀ r ∈ R, r.length = w /\ A0S 0 (p - 1) r
theorem RowsOk.at {p : Int} {h w : Nat} {R : List (List Int)} (o : RowsOk p h w R) {i : Nat} (hi : i < h) : (R.getD i []).length = w /\ A0S 0 (p - 1) (R.getD i []) := o.row _ (A0z [] (by rw [o.len]; exact hi))
theorem RowsOk.set {p : Int} {h w : Nat} {R : List (List Int)} (o : RowsOk p h w R) {r : List Int} (hr : r.length = w /\ A0S 0 (p - 1) r) (i : Nat) : RowsOk p h w (R.set i r) :=
 ⟨by rw [List.length_set]; exact o.len, fun x hx => (List.mem_or_eq_of_mem_set hx).elim (o.row x) fun e => e ▸ hr⟩
theorem A3z : ∀ {R : List (List Int)} {w i j : Nat}, (∀ r ∈ R, r.length = w) -> i < R.length -> j < w -> R.flatten.getD (i * w + j) 0 = (R.getD i []).getD j 0
 | [], _, _, _, _, h, _ => absurd h (by simp)
 | r :: R, w, i, j, hr, hi, hj => by
   have h1 := hr r (by simp);simp only [List.flatten_cons, List.getD_eq_getElem?_getD];cases i with
   | zero => rw [List.getElem?_append_left (by omega)]; simp
   | succ i =>
     have e : (i + 1) * w = w + i * w := by rw [Nat.add_mul, Nat.one_mul, Nat.add_comm]
     have := A3z (R := R) (w := w) (i := i) (j := j) (fun r hr' => hr r (by simp [hr'])) (by simpa using hi) hj;simp only [List.getD_eq_getElem?_getD] at this;rw [e, List.getElem?_append_right (by omega), h1, show w + i * w + j - w = i * w + j by omega, this]; simp
theorem A3x : ∀ {R : List (List Int)} {w i j : Nat} (v : Int), (∀ r ∈ R, r.length = w) -> i < R.length -> j < w -> R.flatten.set (i * w + j) v = (R.set i ((R.getD i []).set j v)).flatten
 | [], _, _, _, _, _, h, _ => absurd h (by simp)
 | r :: R, w, i, j, v, hr, hi, hj => by
   have h1 := hr r (by simp);cases i with
   | zero => simp only [List.flatten_cons, Nat.zero_mul, Nat.zero_add]; rw [List.set_append_left _ _ (by omega)]; simp
   | succ i =>
     have e : (i + 1) * w = w + i * w := by rw [Nat.add_mul, Nat.one_mul, Nat.add_comm]
     have := A3x (R := R) (w := w) (i := i) (j := j) v (fun r hr' => hr r (by simp [hr'])) (by simpa using hi) hj;simp only [List.flatten_cons, List.set_cons_succ];rw [e, List.set_append_right _ _ (by omega), h1, show w + i * w + j - w = i * w + j by omega, this]; simp
theorem A3y : ∀ {R : List (List Int)} {w : Nat}, (∀ r ∈ R, r.length = w) -> R.flatten.length = R.length * w
 | [], _, _ => by simp
 | r :: R, w, hr => by
   have := A3y (R := R) (w := w) fun r hr' => hr r (by simp [hr']);simp only [List.flatten_cons, List.length_append, List.length_cons, hr r (by simp), this];rw [Nat.add_mul, Nat.one_mul, Nat.add_comm]
theorem A0m {h w i j : Nat} (hh : h ≤ 4096) (hw : w ≤ 256) (hi : i < h) (hj : j < w) : IntKind.i64.wrap (IntKind.i64.wrap ((i : Int) * (w : Int)) + (j : Int)) = ((i * w + j : Nat) : Int) /\ i * w + j < h * w := by
 have h1 : (i + 1) * w ≤ h * w := Nat.mul_le_mul_right w hi;have h2 : h * w ≤ 4096 * 256 := Nat.mul_le_mul hh hw;have e : (i + 1) * w = i * w + w := by rw [Nat.add_mul, Nat.one_mul]
 have e2 : (i : Int) * (w : Int) = ((i * w : Nat) : Int) := by simp
 rw [e2, A0w (x := ((i * w : Nat) : Int)) (by omega) (by omega), A0w (by omega) (by omega)];omega
def inv_ (p a : Int) : Int := a ^ (p - 2).toNat % p
def A0L (R : List (List Int)) (t a : Nat) : List (List Int) := (R.set t (R.getD a [])).set a (R.getD t [])
def A0i (p : Int) (w t c : Nat) (R : List (List Int)) : List (List Int) := R.set t (addL p (inv_ p ((R.getD t []).getD c 0)) (List.replicate w 0) (R.getD t []))
def A0I (p : Int) (t c : Nat) (R : List (List Int)) (i : Nat) : List Int := if i = t ∨ (R.getD i []).getD c 0 = 0 then R.getD i [] else addL p (p - (R.getD i []).getD c 0) (R.getD i []) (R.getD t [])
def A0f (p : Int) (t c : Nat) (R : List (List Int)) : List (List Int) := (List.range R.length).map (A0I p t c R)
def pivA (R : List (List Int)) (t c : Nat) : Nat := t + (R.drop t).findIdx fun r => r.getD c 0 != 0
def A0E (p : Int) (w c : Nat) (s : List (List Int) × List Int) : List (List Int) × List Int :=
 if pivA s.1 s.2.length c < s.1.length then (A0f p s.2.length c (A0i p w s.2.length c (A0L s.1 s.2.length (pivA s.1 s.2.length c))), s.2 ++ [(c : Int)]) else s
theorem A4I {p : Int} (hp : 2 ≤ p) (a : Int) : 0 ≤ inv_ p a /\ inv_ p a ≤ p - 1 := by
 have h1 := Int.emod_nonneg (a ^ (p - 2).toNat) (show p ≠ 0 by omega);have h2 := Int.emod_lt_of_pos (a ^ (p - 2).toNat) (show 0 < p by omega);unfold inv_; omega
theorem A2K {p : Int} {h w : Nat} {R : List (List Int)} (o : RowsOk p h w R) {t a : Nat} (ht : t < h) (ha : a < h) : RowsOk p h w (A0L R t a) := (o.set (o.at ha) t).set (o.at ht) a
theorem A2W {R : List (List Int)} {t : Nat} (ht : t < R.length) : A0L R t t = R := by
 have e : R.set t (R.getD t []) = R := by rw [A0x ht]; exact List.set_getElem_self ht
 rw [A0L, e, e]
theorem A1c {p : Int} {h w : Nat} {R : List (List Int)} (hp : 2 ≤ p) (o : RowsOk p h w R) (t c : Nat) : RowsOk p h w (A0i p w t c R) := o.set ⟨by rw [A1C, List.length_replicate], A2b hp _ _⟩ t
theorem elim_ok {p : Int} {h w : Nat} {R : List (List Int)} (hp : 2 ≤ p) (o : RowsOk p h w R) (t c : Nat) : RowsOk p h w (A0f p t c R) := by
 refine ⟨by simp [A0f, o.len], fun r hr => ?_⟩;unfold A0f at hr;obtain ⟨i, hi, rfl⟩ := List.mem_map.1 hr;have hi := List.mem_range.1 hi;have := o.at (i := i) (by rw [<- o.len]; exact hi);unfold A0I;split
 . exact this
 . exact ⟨by rw [A1C]; exact this.1, A2b hp _ _⟩
theorem A3n {p : Int} {h w c : Nat} {s : List (List Int) × List Int} (hp : 2 ≤ p) (o : RowsOk p h w s.1) (hl : s.2.length ≤ h) : RowsOk p h w (A0E p w c s).1 /\ (A0E p w c s).2.length ≤ h := by
 unfold A0E;split
 . rename_i hlt;rw [o.len] at hlt;have ht : s.2.length < h := Nat.lt_of_le_of_lt (Nat.le_add_right _ _) hlt;exact ⟨elim_ok hp (A1c hp (A2K o ht hlt) _ _) _ _, by rw [List.length_append, List.length_cons, List.length_nil]; omega⟩
 . exact ⟨o, hl⟩
theorem A3m {p : Int} {w c : Nat} {s : List (List Int) × List Int} (h : s.1.length ≤ s.2.length) : A0E p w c s = s := if_neg (by unfold pivA; omega)
theorem A1l (R : List (List Int)) (t c : Nat) (ht : t ≤ R.length) : t ≤ pivA R t c /\ pivA R t c ≤ R.length /\ (∀ i, t ≤ i -> i < pivA R t c -> (R.getD i []).getD c 0 = 0) /\ (pivA R t c < R.length -> (R.getD (pivA R t c) []).getD c 0 ≠ 0) := by
 unfold pivA;generalize hj : (R.drop t).findIdx (fun r => r.getD c 0 != 0) = j;have hle : j ≤ (R.drop t).length := by rw [<- hj]; exact List.findIdx_le_length
 rw [List.length_drop] at hle;have hd : ∀ i, t + i < R.length -> (R.drop t).getD i [] = R.getD (t + i) [] := fun i hi => by simp [List.getD_eq_getElem?_getD]
 refine ⟨Nat.le_add_right _ _, by omega, fun i h1 h2 => ?_, fun h => ?_⟩
 . have hlt : i - t < (R.drop t).findIdx (fun r => r.getD c 0 != 0) := by omega
   have := List.not_of_lt_findIdx hlt;have e := hd (i - t) (by omega);rw [show t + (i - t) = i by omega, A0x (by rw [List.length_drop]; omega)] at e;rw [e] at this;simpa using this
 . have hlt : j < (R.drop t).length := by rw [List.length_drop]; omega
   have h3 := List.findIdx_getElem (w := by rw [hj]; exact hlt) (p := fun r : List Int => r.getD c 0 != 0) (xs := R.drop t);have e := hd j h;rw [A0x hlt] at e;simp only [hj, e] at h3;simpa using h3
def mix {A : Type} (n : Nat) (f g : Nat -> A) (i : Nat) : List A := (List.range n).map fun q => if q < i then f q else g q
theorem A2g {A : Type} (n : Nat) (f g : Nat -> A) (i : Nat) : (mix n f g i).length = n := by simp [mix]
theorem A1q {A : Type} (n : Nat) (f g : Nat -> A) : mix n f g 0 = (List.range n).map g := List.map_congr_left fun q _ => if_neg (by omega)
theorem A1P {A : Type} (n : Nat) (f g : Nat -> A) : mix n f g n = (List.range n).map f := List.map_congr_left fun q hq => if_pos (List.mem_range.1 hq)
theorem A1y {A : Type} {n : Nat} (f g : Nat -> A) (i : Nat) {q : Nat} (d : A) (hq : q < n) : (mix n f g i).getD q d = if q < i then f q else g q := A0g _ d hq
theorem A1Q {A : Type} {n : Nat} (f g : Nat -> A) {i : Nat} (hi : i < n) : (mix n f g i).set i (f i) = mix n f g (i + 1) := by
 refine List.ext_getElem (by simp [mix]) fun q h1 h2 => ?_;rw [List.getElem_set];simp only [mix, List.getElem_map, List.getElem_range];by_cases e : i = q
 . subst e; rw [if_pos rfl, if_pos (by omega)]
 . rw [if_neg e];by_cases l : q < i
   . rw [if_pos l, if_pos (by omega)]
   . rw [if_neg l, if_neg (by omega)]
theorem A1b {A : Type} (n : Nat) {f g : Nat -> A} {i : Nat} (h : f i = g i) : mix n f g (i + 1) = mix n f g i := List.map_congr_left fun q _ => by
 by_cases e : q = i
 . subst e; rw [if_pos (by omega), if_neg (by omega), h]
 . by_cases l : q < i
   . rw [if_pos (by omega), if_pos l]
   . rw [if_neg (by omega), if_neg l]
theorem A2x (R : List (List Int)) : (List.range R.length).map (fun q => R.getD q []) = R := by
 refine List.ext_getElem (by simp) fun q h1 h2 => ?_;simp only [List.getElem_map, List.getElem_range]; exact A0x h2
theorem A2i (r : List Int) : (List.range r.length).map (fun q => r.getD q 0) = r := by
 refine List.ext_getElem (by simp) fun q h1 h2 => ?_;simp only [List.getElem_map, List.getElem_range]; exact A0x h2
theorem A0e (p : Int) (t c : Nat) (R : List (List Int)) : A0I p t c R t = R.getD t [] := if_pos (.inl rfl)
theorem A3T {p : Int} {h w : Nat} (hp : 2 ≤ p /\ p ≤ 251) (hh : h ≤ 4096) (hw : w ≤ 256) {R : List (List Int)} (o : RowsOk p h w R) {t c : Nat} (ht : t < h) (hc : c < w) (det : Int) (piv : List Int) :
   Goes (fun k => Aa9.l17 k (w : Int) p det (t : Int) (w : Int) (c : Int) (h : Int) 0 R piv (c : Int)) (fun k => Aa9.l17 k (w : Int) p det (t : Int) (w : Int) (c : Int) (h : Int) (h : Int) (A0f p t c R) piv (c : Int)) := by
 have hlen := o.len;obtain ⟨s, hs, hg⟩ := Goes.loop (R := (List Int × Int × Unit) × (List (List Int) × Unit)) (fun k i (s : List (List Int)) => Aa9.l17 k (w : Int) p det (t : Int) (w : Int) (c : Int) (h : Int) (i : Int) s piv (c : Int)) h (fun i s => s = mix h (A0I p t c R) (fun q => R.getD q []) i) (fun i s hi h2 => ⟨_, rfl, Goes.succ fun k => by
   have ri := o.at hi;have rt := o.at ht;have g1 : s.getD i [] = R.getD i [] := by rw [h2, A1y _ _ _ _ hi, if_neg (by omega)]
   have g2 : s.getD t [] = R.getD t [] := by
     rw [h2, A1y _ _ _ _ ht];split
     . exact A0e p t c R
     . rfl
   have hsl : s.length = h := by rw [h2, A2g]
   have hx := A0F ri.2 (i := c) (by omega);rw [Aa9.l17_eq, if_pos (ltI.2 hi), if_pos (idxI.2 (by omega))];simp only [Int.toNat_natCast, g1, g2];by_cases e : i = t
   . subst e;rw [if_neg (by simp), A0y (by omega), h2, A1b h (A0e p i c R)]
   . rw [if_pos (by simp; omega), if_pos (idxI.2 (by omega))];by_cases z : (R.getD i []).getD c 0 = 0
     . rw [if_neg (by rw [z]; decide), A0y (by omega), h2, A1b h (show A0I p t c R i = R.getD i [] from if_pos (.inr z))]
     . rw [if_pos (by rw [bne_iff_ne]; exact z), if_pos (idxI.2 (by omega)), if_pos (idxI.2 (by omega)), A0w (by omega) (by omega), Ag2.val _ _ _ _ hp (by omega) ri.2 rt.2 (by omega) (by omega)];simp only [Option.bind_some];have e2 : A0I p t c R i = addL p (p - (R.getD i []).getD c 0) (R.getD i []) (R.getD t []) := if_neg (by rintro (h | h) <;> contradiction);rw [if_pos (idxI.2 (by omega)), A0y (by omega), <- e2, h2, A1Q (A0I p t c R) (fun q => R.getD q []) hi]⟩) 0 R (Nat.zero_le _) (by rw [A1q, <- hlen, A2x])
 rw [hs, A1P] at hg;have e : A0f p t c R = (List.range h).map (A0I p t c R) := by rw [A0f, hlen]
 rw [e]; exact hg
theorem A3U {p : Int} {h w : Nat} (hp : 2 ≤ p /\ p ≤ 251) (hh : h ≤ 4096) (hw : w ≤ 256) {R : List (List Int)} (o : RowsOk p h w R) {c : Nat} (hc : c < w) (det : Int) (piv : List Int) (hl : piv.length ≤ h) :
   ∃ det', Goes (fun k => Aa9.l4 k (w : Int) p det (w : Int) (c : Int) R piv) (fun k => Aa9.l4 k (w : Int) p det' (w : Int) ((c + 1 : Nat) : Int) (A0E p w c (R, piv)).1 (A0E p w c (R, piv)).2) := by
 have hlen := o.len;have hcut : cutL R (piv.length : Int) (R.length : Int) = R.drop piv.length := by simp only [cutL, Int.toNat_natCast, List.take_length]
 obtain ⟨r, hr, hr'⟩ := Ae5.val (R.drop piv.length) (Am9.cloG ((c : Int), ())) (fun r => r.getD c 0 != 0) (fun x hx => by
   have := (o.row x (List.mem_of_mem_drop hx)).1;show (Am9.F (x, (c : Int), ())).map (·.1) = _;rw [Am9.eq, Am9.T, if_pos (idxI.2 (by omega))];simp only [Int.toNat_natCast]; rfl) (by rw [List.length_drop]; omega)
 have hstart : ∀ k, Aa9.l4 (k + 1) (w : Int) p det (w : Int) (c : Int) R piv = _ := fun k => by
   rw [Aa9.l4_eq, if_pos (ltI.2 hc), if_pos (by omega), hcut, hr]
 rcases hr' with ⟨e, hall⟩ | ⟨j, hj, e, hj1, hj2⟩
 . refine ⟨0, Goes.succ fun k => ?_⟩;have hno : ¬ pivA R piv.length c < R.length := by
     unfold pivA;have : (R.drop piv.length).findIdx (fun r => r.getD c 0 != 0) = (R.drop piv.length).length := List.findIdx_eq_length.2 fun x hx => hall x hx;rw [this, List.length_drop]; omega
   have hs : A0E p w c (R, piv) = (R, piv) := if_neg hno;rw [hstart];simp only [Option.bind_some, e];rw [if_pos (by decide), A0y (by omega), hs]
 . rw [List.length_drop] at hj;have hjj : (R.drop piv.length).findIdx (fun r => r.getD c 0 != 0) = j := by
     have hlt : j < (R.drop piv.length).length := by rw [List.length_drop]; omega
     refine (List.findIdx_eq hlt).2 ⟨by rw [<- A0x (d := []) hlt]; exact hj1, fun i hi => ?_⟩;have := hj2 i hi;rw [A0x (xs := R.drop piv.length) (i := i) (d := []) (by omega)] at this;exact this
   have hpa : pivA R piv.length c = piv.length + j := by rw [pivA, hjj]
   have ht : piv.length < h := by omega
   have ha : piv.length + j < h := by omega
   have o2 := A2K o ht ha;have hl2 := o2.len;have r2 := o2.at ht;have hs : A0E p w c (R, piv) = (A0f p piv.length c (A0i p w piv.length c (A0L R piv.length (piv.length + j))), piv ++ [(c : Int)]) := by
     rw [A0E, if_pos (by show pivA R piv.length c < R.length; omega)];simp only [hpa]
   have hx := A0F r2.2 (i := c) (by omega);have hiv := A4I hp.1 (((A0L R piv.length (piv.length + j)).getD piv.length []).getD c 0);have hin : Aj1.F (((A0L R piv.length (piv.length + j)).getD piv.length []).getD c 0, p, ()) = some ((inv_ p (((A0L R piv.length (piv.length + j)).getD piv.length []).getD c 0), ()), ()) := Aj1.val _ _ hp hx;have hzero : A0S 0 (p - 1) (List.replicate w (0 : Int)) := fun x hx => by rw [(List.mem_replicate.1 hx).2]; omega
   have hadd := Ag2.val (List.replicate w 0) ((A0L R piv.length (piv.length + j)).getD piv.length []) (inv_ p (((A0L R piv.length (piv.length + j)).getD piv.length []).getD c 0)) p hp hiv hzero r2.2 (by rw [List.length_replicate]; omega) (by rw [List.length_replicate]; omega);have o3 := A1c (h := h) hp.1 o2 piv.length c;have hfin : ∀ d : Int, Goes (fun k => Aa9.l17 k (w : Int) p d (piv.length : Int) (w : Int) (c : Int) (h : Int) 0 (A0i p w piv.length c (A0L R piv.length (piv.length + j))) piv (c : Int)) (fun k => Aa9.l4 k (w : Int) p d (w : Int) ((c + 1 : Nat) : Int) (A0E p w c (R, piv)).1 (A0E p w c (R, piv)).2) := fun d => by
     refine (A3T hp hh hw o3 ht hc d piv).trans (Goes.succ fun k => ?_);rw [Aa9.l17_eq, if_neg (by simp), if_pos (by simp only [List.length_cons, List.length_nil, bigA]; omega), A0y (by omega), hs]
   by_cases j0 : j = 0
   . subst j0;have hsw : A0L R piv.length (piv.length + 0) = R := A2W (by omega);rw [hsw] at hin hadd hfin;refine ⟨(IntKind.i64.wrap (det * ((R.getD piv.length []).getD c 0))).tmod p, Goes.trans (Goes.succ fun k => ?_) (hfin _)⟩;rw [hstart];simp only [Option.bind_some, e];rw [if_neg (by decide), if_neg (by decide), if_pos (idxI.2 (by omega))];simp only [Int.toNat_natCast];have hrw := (o.at ht).1;rw [if_pos (idxI.2 (by omega)), if_neg (by omega), if_pos (by simp only [bigN]; omega), if_pos (idxI.2 (by omega)), hin];simp only [Option.bind_some];rw [hadd];simp only [Option.bind_some];rw [if_pos (idxI.2 (by omega)), List.length_set, hlen];rfl
   . refine ⟨(IntKind.i64.wrap ((IntKind.i64.wrap ((IntKind.i64.wrap (0 - det)).tmod p + p)).tmod p * (((A0L R piv.length (piv.length + j)).getD piv.length []).getD c 0))).tmod p, Goes.trans (Goes.succ fun k => ?_) (hfin _)⟩;rw [hstart];simp only [Option.bind_some, e];rw [if_neg (by simp only [decide_eq_true_eq]; omega), if_pos (by simp only [decide_eq_true_eq]; omega)];have ew : IntKind.i64.wrap ((piv.length : Int) + (j : Int)) = ((piv.length + j : Nat) : Int) := by rw [A0w (by omega) (by omega)]; omega
     simp only [ew, Int.toNat_natCast];have hl3 : (R.set piv.length (R.getD (piv.length + j) [])).length = h := by rw [List.length_set]; exact hlen
     have esw : (R.set piv.length (R.getD (piv.length + j) [])).set (piv.length + j) (R.getD piv.length []) = A0L R piv.length (piv.length + j) := rfl;rw [if_pos (idxI.2 (by omega)), if_pos (idxI.2 (by omega)), if_pos (idxI.2 (by omega)), if_pos (idxI.2 (by omega)), Af1.eq, Af1.T, if_neg (by omega), if_neg (by omega)];simp only [Option.bind_some, esw];rw [if_pos (idxI.2 (by omega)), if_pos (idxI.2 (by omega)), if_neg (by omega), if_pos (by simp only [bigN]; omega), if_pos (idxI.2 (by omega)), hin];simp only [Option.bind_some];rw [hadd];simp only [Option.bind_some];rw [if_pos (idxI.2 (by omega)), List.length_set, hl2];rfl
def gjN (p : Int) (w : Nat) (R : List (List Int)) : Nat -> List (List Int) × List Int
 | 0 => (R, [])
 | c + 1 => A0E p w c (gjN p w R c)
theorem A3S {p : Int} {h w : Nat} {R : List (List Int)} (hp : 2 ≤ p) (o : RowsOk p h w R) : ∀ c, RowsOk p h w (gjN p w R c).1 /\ (gjN p w R c).2.length ≤ h
 | 0 => ⟨o, Nat.zero_le _⟩
 | c + 1 => by obtain ⟨h1, h2⟩ := A3S hp o c; exact A3n hp h1 h2
theorem Aa9.val {p : Int} {h w : Nat} (hp : 2 ≤ p /\ p ≤ 251) (hh : h ≤ 4096) (hw : w ≤ 256) {R : List (List Int)} (o : RowsOk p h w R) : ∃ det, Aa9.F (R, (w : Int), p, ()) = some (((gjN p w R w).2, det, ()), ((gjN p w R w).1, ())) := by
 obtain ⟨⟨det, s⟩, hs, hg⟩ := Goes.loop (R := (List Int × Int × Unit) × (List (List Int) × Unit)) (fun k i (s : Int × (List (List Int) × List Int)) => Aa9.l4 k (w : Int) p s.1 (w : Int) (i : Int) s.2.1 s.2.2) w (fun i s => s.2 = gjN p w R i) (fun i s hi h2 => by
   obtain ⟨o', hl'⟩ := A3S hp.1 o i;rw [<- h2] at o' hl';obtain ⟨d, hd⟩ := A3U hp hh hw o' hi s.1 s.2.2 hl';exact ⟨(d, A0E p w i s.2), by simp only [gjN, h2], hd⟩) 0 (1, (R, [])) (Nat.zero_le _) rfl
 have hs : s = gjN p w R w := hs;refine ⟨det, Aa9.of _ _ _ (Ev.of_eq (hg _ ((Ev.const _).succ fun k => ?_)) fun k => rfl)⟩;rw [Aa9.l4_eq, if_neg (by simp), hs]
theorem A3W {n p : Int} (hp : 2 ≤ p /\ p ≤ 251) : (IntKind.i64.wrap (n.tmod p + p)).tmod p = n % p := by
 have hb : -p < n.tmod p /\ n.tmod p < p := by
   by_cases h : 0 ≤ n
   . rw [A2X h]; have := A1i (a := n) hp.1; omega
   . have e : n.tmod p = -((-n).tmod p) := by rw [Int.neg_tmod]; omega
     have h2 := A1i (a := -n) hp.1;rw [e, A2X (by omega)]; omega
 have e : n.tmod p = n - p * n.tdiv p := by have := Int.tmod_add_mul_tdiv n p; omega
 rw [A0w (by omega) (by omega), A2X (by omega), Int.add_emod_right, e, Int.sub_emod, Int.mul_emod_right, Int.sub_zero, Int.emod_emod]
theorem sub_val {p a f b : Int} (hp : 2 ≤ p /\ p ≤ 251) (ha : 0 ≤ a /\ a ≤ p - 1) (hf : 0 ≤ f /\ f ≤ p - 1) (hb : 0 ≤ b /\ b ≤ p - 1) : An0.F (IntKind.i64.wrap (a - IntKind.i64.wrap (f * b)), p, ()) = some (((a + (p - f) * b) % p, ()), ()) := by
 have hm := A1r hp hf hb;rw [A0w (x := f * b) (by omega) (by omega), A0w (x := a - f * b) (by omega) (by omega), An0.eq, An0.T, if_neg (by omega), if_neg (by omega), A3W hp];have e : a + (p - f) * b = (a - f * b) + p * b := by rw [Int.sub_mul]; omega
 rw [e, Int.add_mul_emod_self_left]
theorem RowsOk.flat {p : Int} {h w : Nat} {R : List (List Int)} (o : RowsOk p h w R) {i j : Nat} (hi : i < h) (hj : j < w) : R.flatten.getD (i * w + j) 0 = (R.getD i []).getD j 0 := A3z (fun r hr => (o.row r hr).1) (by rw [o.len]; exact hi) hj
theorem RowsOk.flatSet {p : Int} {h w : Nat} {R : List (List Int)} (o : RowsOk p h w R) {i j : Nat} (v : Int) (hi : i < h) (hj : j < w) : R.flatten.set (i * w + j) v = (R.set i ((R.getD i []).set j v)).flatten := A3x v (fun r hr => (o.row r hr).1) (by rw [o.len]; exact hi) hj
theorem RowsOk.flatLen {p : Int} {h w : Nat} {R : List (List Int)} (o : RowsOk p h w R) : R.flatten.length = h * w := by rw [A3y fun r hr => (o.row r hr).1, o.len]
theorem A0p {R : List (List Int)} {i : Nat} {x : List Int} (hi : i < R.length) : (R.set i x).getD i [] = x := by simp [List.getD_eq_getElem?_getD, hi]
theorem A0b {R : List (List Int)} {i j : Nat} {x : List Int} (h : i ≠ j) : (R.set i x).getD j [] = R.getD j [] := by simp [List.getD_eq_getElem?_getD, List.getElem?_set, h]
theorem A2Q {p : Int} {w : Nat} {f g : Nat -> Int} (hf : ∀ q, q < w -> 0 ≤ f q /\ f q ≤ p - 1) (hg : ∀ q, q < w -> 0 ≤ g q /\ g q ≤ p - 1) (i : Nat) : (mix w f g i).length = w /\ A0S 0 (p - 1) (mix w f g i) := by
 refine ⟨A2g _ _ _ _, fun x hx => ?_⟩;unfold mix at hx;obtain ⟨q, hq, rfl⟩ := List.mem_map.1 hx;have hq := List.mem_range.1 hq;split
 . exact hf q hq
 . exact hg q hq
theorem RowsOk.cell {p : Int} {h w : Nat} {R : List (List Int)} (o : RowsOk p h w R) {i : Nat} (hi : i < h) (q : Nat) (hq : q < w) : 0 ≤ (R.getD i []).getD q 0 /\ (R.getD i []).getD q 0 ≤ p - 1 := A0F (o.at hi).2 (by rw [(o.at hi).1]; exact hq)
theorem A1w {p : Int} {h w : Nat} {R : List (List Int)} (o : RowsOk p h w R) {i : Nat} (hi : i < h) : (List.range w).map (fun q => (R.getD i []).getD q 0) = R.getD i [] := by
 have := A2i (R.getD i [])
 rwa [(o.at hi).1] at this
theorem A1d {R : List (List Int)} {i : Nat} (hi : i < R.length) : R.set i (R.getD i []) = R := by rw [A0x hi]; exact List.set_getElem_self hi
section
variable {p : Int} {h w : Nat} (hp : 2 ≤ p /\ p ≤ 251) (hh : h ≤ 4096) (hw : w ≤ 256) (xs : List Int) (e1 e2 e3 : Int) (x18 : List Int)
include hp hh hw
theorem A3H {R : List (List Int)} (o : RowsOk p h w R) {t : Nat} (ht : t < h) {c : Nat} (inv det : Int) (hi : 0 ≤ inv /\ inv ≤ p - 1) (piv : List Int) :
   Goes (fun k => Aa0.l26 k p (h : Int) (w : Int) xs p (w : Int) det (t : Int) (c : Int) inv 0 e1 e2 e3 x18 p (h : Int) (w : Int) R.flatten piv)
     (fun k => Aa0.l30 k p (h : Int) (w : Int) xs p (w : Int) det (t : Int) (c : Int) 0 e1 e2 e3 x18 p (h : Int) (w : Int) (R.set t (addL p inv (List.replicate w 0) (R.getD t []))).flatten piv) := by
 have hlen := o.len;have hf : ∀ q, q < w -> 0 ≤ ((List.replicate w (0 : Int)).getD q 0 + inv * (R.getD t []).getD q 0) % p /\ ((List.replicate w (0 : Int)).getD q 0 + inv * (R.getD t []).getD q 0) % p ≤ p - 1 := fun q hq => A1i hp.1;obtain ⟨s, hs, hg⟩ := Goes.loop (R := ((Int × Int × Int × List Int) × List Int × Int × Unit) × Unit) (fun k j (s : List (List Int)) => Aa0.l26 k p (h : Int) (w : Int) xs p (w : Int) det (t : Int) (c : Int) inv (j : Int) e1 e2 e3 x18 p (h : Int) (w : Int) s.flatten piv) w (fun j s => s = R.set t (mix w (fun q => ((List.replicate w (0 : Int)).getD q 0 + inv * (R.getD t []).getD q 0) % p) (fun q => (R.getD t []).getD q 0) j)) (fun j s hj h2 => ⟨_, rfl, Goes.succ fun k => by
   have os : RowsOk p h w s := by rw [h2]; exact o.set (A2Q hf (fun q hq => o.cell ht q hq) j) t
   obtain ⟨i1, i2⟩ := A0m hh hw ht hj;have hsl := os.flatLen;have hst : s.getD t [] = mix w (fun q => ((List.replicate w (0 : Int)).getD q 0 + inv * (R.getD t []).getD q 0) % p) (fun q => (R.getD t []).getD q 0) j := by rw [h2, A0p (by omega)]
   have hget : s.flatten.getD (t * w + j) 0 = (R.getD t []).getD j 0 := by rw [os.flat ht hj, hst, A1y _ _ _ _ hj, if_neg (by omega)]
   have hval : (IntKind.i64.wrap ((R.getD t []).getD j 0 * inv)).tmod p = ((List.replicate w (0 : Int)).getD j 0 + inv * (R.getD t []).getD j 0) % p := by
     have hc := o.cell ht j hj;have hm := A1r hp hc hi;rw [A0w (by omega) (by omega), A2X (by omega), Int.mul_comm];have : (List.replicate w (0 : Int)).getD j 0 = 0 := by simp [List.getD_eq_getElem?_getD, List.getElem?_replicate, hj]
     rw [this, Int.zero_add]
   rw [Aa0.l26_eq, if_pos (ltI.2 hj), i1, if_pos (idxI.2 (by omega)), if_neg (by omega), if_pos (idxI.2 (by omega))];simp only [Int.toNat_natCast];rw [hget, hval, os.flatSet _ ht hj, hst, A1Q (fun q => ((List.replicate w (0 : Int)).getD q 0 + inv * (R.getD t []).getD q 0) % p) (fun q => (R.getD t []).getD q 0) hj, A0y (by omega), h2, List.set_set]⟩) 0 R (Nat.zero_le _) (by rw [A1q, A1w o ht, A1d (by omega)])
 refine hg.trans (Goes.succ fun k => ?_);rw [Aa0.l26_eq, if_neg (by simp), hs, A1P];have : addL p inv (List.replicate w 0) (R.getD t []) = (List.range w).map fun q => ((List.replicate w (0 : Int)).getD q 0 + inv * (R.getD t []).getD q 0) % p := by rw [addL, List.length_replicate]
 rw [this]
theorem A4E {R : List (List Int)} (o : RowsOk p h w R) {t i : Nat} (ht : t < h) (hi : i < h) (hne : i ≠ t) {c : Nat} (f det : Int) (hf : 0 ≤ f /\ f ≤ p - 1) (piv : List Int) :
   Goes (fun k => Aa0.l35 k p (h : Int) (w : Int) xs p (w : Int) det (t : Int) (c : Int) (i : Int) f 0 e1 e2 e3 x18 p (h : Int) (w : Int) R.flatten piv)
     (fun k => Aa0.l30 k p (h : Int) (w : Int) xs p (w : Int) det (t : Int) (c : Int) ((i + 1 : Nat) : Int) e1 e2 e3 x18 p (h : Int) (w : Int) (R.set i (addL p (p - f) (R.getD i []) (R.getD t []))).flatten piv) := by
 have hlen := o.len;have hfm : ∀ q, q < w -> 0 ≤ ((R.getD i []).getD q 0 + (p - f) * (R.getD t []).getD q 0) % p /\ ((R.getD i []).getD q 0 + (p - f) * (R.getD t []).getD q 0) % p ≤ p - 1 := fun q hq => A1i hp.1;obtain ⟨s, hs, hg⟩ := Goes.loop (R := ((Int × Int × Int × List Int) × List Int × Int × Unit) × Unit) (fun k j (s : List (List Int)) => Aa0.l35 k p (h : Int) (w : Int) xs p (w : Int) det (t : Int) (c : Int) (i : Int) f (j : Int) e1 e2 e3 x18 p (h : Int) (w : Int) s.flatten piv) w (fun j s => s = R.set i (mix w (fun q => ((R.getD i []).getD q 0 + (p - f) * (R.getD t []).getD q 0) % p) (fun q => (R.getD i []).getD q 0) j)) (fun j s hj h2 => ⟨_, rfl, Goes.succ fun k => by
   have os : RowsOk p h w s := by rw [h2]; exact o.set (A2Q hfm (fun q hq => o.cell hi q hq) j) i
   obtain ⟨i1, i2⟩ := A0m hh hw hi hj;obtain ⟨t1, t2⟩ := A0m hh hw ht hj;have hsl := os.flatLen;have hsi : s.getD i [] = mix w (fun q => ((R.getD i []).getD q 0 + (p - f) * (R.getD t []).getD q 0) % p) (fun q => (R.getD i []).getD q 0) j := by rw [h2, A0p (by omega)]
   have g1 : s.flatten.getD (i * w + j) 0 = (R.getD i []).getD j 0 := by rw [os.flat hi hj, hsi, A1y _ _ _ _ hj, if_neg (by omega)]
   have g2 : s.flatten.getD (t * w + j) 0 = (R.getD t []).getD j 0 := by rw [os.flat ht hj, h2, A0b hne]
   rw [Aa0.l35_eq, if_pos (ltI.2 hj), i1, t1, if_pos (idxI.2 (by omega)), if_pos (idxI.2 (by omega))];simp only [Int.toNat_natCast];rw [g1, g2, sub_val hp (o.cell hi j hj) hf (o.cell ht j hj)];simp only [Option.bind_some];rw [if_pos (idxI.2 (by omega)), os.flatSet _ hi hj, hsi, A1Q (fun q => ((R.getD i []).getD q 0 + (p - f) * (R.getD t []).getD q 0) % p) (fun q => (R.getD i []).getD q 0) hj, A0y (by omega), h2, List.set_set]⟩) 0 R (Nat.zero_le _) (by rw [A1q, A1w o hi, A1d (by omega)])
 refine hg.trans (Goes.succ fun k => ?_);rw [Aa0.l35_eq, if_neg (by simp), hs, A1P, A0y (by omega)];have : addL p (p - f) (R.getD i []) (R.getD t []) = (List.range w).map fun q => ((R.getD i []).getD q 0 + (p - f) * (R.getD t []).getD q 0) % p := by rw [addL, (o.at hi).1]
 rw [this]
theorem A3G {R : List (List Int)} (o : RowsOk p h w R) {t c : Nat} (ht : t < h) (hc : c < w) (det : Int) (piv : List Int) :
   Goes (fun k => Aa0.l30 k p (h : Int) (w : Int) xs p (w : Int) det (t : Int) (c : Int) 0 e1 e2 e3 x18 p (h : Int) (w : Int) R.flatten piv)
     (fun k => Aa0.l30 k p (h : Int) (w : Int) xs p (w : Int) det (t : Int) (c : Int) (h : Int) e1 e2 e3 x18 p (h : Int) (w : Int) (A0f p t c R).flatten piv) := by
 have hlen := o.len;have hok : ∀ i, RowsOk p h w (mix h (A0I p t c R) (fun q => R.getD q []) i) := fun i => ⟨A2g _ _ _ _, fun r hr => by
   unfold mix at hr;obtain ⟨q, hq, rfl⟩ := List.mem_map.1 hr;have hq := List.mem_range.1 hq;have := o.at hq;unfold A0I;split
   . split
     . exact this
     . exact ⟨by rw [A1C]; exact this.1, A2b hp.1 _ _⟩
   . exact this⟩
 obtain ⟨s, hs, hg⟩ := Goes.loop (R := ((Int × Int × Int × List Int) × List Int × Int × Unit) × Unit) (fun k i (s : List (List Int)) => Aa0.l30 k p (h : Int) (w : Int) xs p (w : Int) det (t : Int) (c : Int) (i : Int) e1 e2 e3 x18 p (h : Int) (w : Int) s.flatten piv) h (fun i s => s = mix h (A0I p t c R) (fun q => R.getD q []) i) (fun i s hi h2 => ⟨_, rfl, by
   have os : RowsOk p h w s := by rw [h2]; exact hok i
   obtain ⟨i1, i2⟩ := A0m hh hw hi hc;have hsl := os.flatLen;have g1 : s.getD i [] = R.getD i [] := by rw [h2, A1y _ _ _ _ hi, if_neg (by omega)]
   have g2 : s.getD t [] = R.getD t [] := by
     rw [h2, A1y _ _ _ _ ht];split
     . exact A0e p t c R
     . rfl
   have hcell : s.flatten.getD (i * w + c) 0 = (R.getD i []).getD c 0 := by rw [os.flat hi hc, g1]
   have E : ∀ k, Aa0.l30 (k + 1) p (h : Int) (w : Int) xs p (w : Int) det (t : Int) (c : Int) (i : Int) e1 e2 e3 x18 p (h : Int) (w : Int) s.flatten piv = _ := fun k => by
     rw [Aa0.l30_eq, if_pos (ltI.2 hi), i1, if_pos (idxI.2 (by omega)), A0y (show i < 4611686018427387904 by omega), Int.toNat_natCast, hcell]
   by_cases e : i = t
   . subst e;rw [<- A1b h (f := A0I p i c R) (g := fun q => R.getD q []) (A0e p i c R)] at h2;refine Goes.succ fun k => ?_;rw [E, if_pos (by simp), h2]
   . by_cases z : (R.getD i []).getD c 0 = 0
     . rw [<- A1b h (f := A0I p t c R) (g := fun q => R.getD q []) (show A0I p t c R i = R.getD i [] from if_pos (.inr z))] at h2;refine Goes.succ fun k => ?_;rw [E, if_neg (by simp only [beq_iff_eq]; omega), if_pos (by rw [z]; decide), h2]
     . have ea : A0I p t c R i = addL p (p - (R.getD i []).getD c 0) (R.getD i []) (R.getD t []) := if_neg (by rintro (h | h) <;> contradiction);have hx := o.cell hi c hc;have hrow := A4E hp hh hw xs e1 e2 e3 x18 os ht hi e (c := c) ((R.getD i []).getD c 0) det hx piv;rw [g1, g2, <- ea, h2, A1Q (A0I p t c R) (fun q => R.getD q []) hi, <- h2] at hrow;refine Goes.trans (Goes.succ fun k => ?_) hrow;rw [E, if_neg (by simp only [beq_iff_eq]; omega), if_neg (by rw [beq_iff_eq]; exact z)]⟩) 0 R (Nat.zero_le _) (by rw [A1q, <- hlen, A2x])
 have e : A0f p t c R = (List.range h).map (A0I p t c R) := by rw [A0f, hlen]
 rw [hs, A1P] at hg;rw [e]; exact hg
theorem A3i {R : List (List Int)} (o : RowsOk p h w R) {t a : Nat} (ht : t < h) (ha : a < h) (hne : t ≠ a) (c : Nat) (det : Int) (piv : List Int) :
   Goes (fun k => Aa0.l17 k p (h : Int) (w : Int) xs p (w : Int) det (t : Int) (c : Int) (a : Int) 0 e1 e2 e3 x18 p (h : Int) (w : Int) R.flatten piv)
     (fun k => Aa0.l17 k p (h : Int) (w : Int) xs p (w : Int) det (t : Int) (c : Int) (a : Int) (w : Int) e1 e2 e3 x18 p (h : Int) (w : Int) (A0L R t a).flatten piv) := by
 have _ := hp;have hlen := o.len;obtain ⟨s, hs, hg⟩ := Goes.loop (R := ((Int × Int × Int × List Int) × List Int × Int × Unit) × Unit) (fun k j (s : List (List Int)) => Aa0.l17 k p (h : Int) (w : Int) xs p (w : Int) det (t : Int) (c : Int) (a : Int) (j : Int) e1 e2 e3 x18 p (h : Int) (w : Int) s.flatten piv) w (fun j s => s = (R.set t (mix w (fun q => (R.getD a []).getD q 0) (fun q => (R.getD t []).getD q 0) j)).set a (mix w (fun q => (R.getD t []).getD q 0) (fun q => (R.getD a []).getD q 0) j)) (fun j s hj h2 => ⟨_, rfl, Goes.succ fun k => by
   have os : RowsOk p h w s := by rw [h2]; exact (o.set (A2Q (fun q hq => o.cell ha q hq) (fun q hq => o.cell ht q hq) j) t).set (A2Q (fun q hq => o.cell ht q hq) (fun q hq => o.cell ha q hq) j) a
   obtain ⟨i1, i2⟩ := A0m hh hw ht hj;obtain ⟨a1, a2⟩ := A0m hh hw ha hj;have hsl := os.flatLen;have st : s.getD t [] = mix w (fun q => (R.getD a []).getD q 0) (fun q => (R.getD t []).getD q 0) j := by rw [h2, A0b (Ne.symm hne), A0p (by omega)]
   have sa : s.getD a [] = mix w (fun q => (R.getD t []).getD q 0) (fun q => (R.getD a []).getD q 0) j := by rw [h2, A0p (by rw [List.length_set]; omega)]
   have g1 : s.flatten.getD (t * w + j) 0 = (R.getD t []).getD j 0 := by rw [os.flat ht hj, st, A1y _ _ _ _ hj, if_neg (by omega)]
   have g2 : s.flatten.getD (a * w + j) 0 = (R.getD a []).getD j 0 := by rw [os.flat ha hj, sa, A1y _ _ _ _ hj, if_neg (by omega)]
   have f1 : s.flatten.set (a * w + j) ((R.getD t []).getD j 0) = (s.set a (mix w (fun q => (R.getD t []).getD q 0) (fun q => (R.getD a []).getD q 0) (j + 1))).flatten := by rw [os.flatSet _ ha hj, sa, A1Q (fun q => (R.getD t []).getD q 0) (fun q => (R.getD a []).getD q 0) hj]
   have os2 : RowsOk p h w (s.set a (mix w (fun q => (R.getD t []).getD q 0) (fun q => (R.getD a []).getD q 0) (j + 1))) := os.set (A2Q (fun q hq => o.cell ht q hq) (fun q hq => o.cell ha q hq) (j + 1)) a;have f2 : (s.set a (mix w (fun q => (R.getD t []).getD q 0) (fun q => (R.getD a []).getD q 0) (j + 1))).flatten.set (t * w + j) ((R.getD a []).getD j 0) = ((R.set t (mix w (fun q => (R.getD a []).getD q 0) (fun q => (R.getD t []).getD q 0) (j + 1))).set a (mix w (fun q => (R.getD t []).getD q 0) (fun q => (R.getD a []).getD q 0) (j + 1))).flatten := by
     rw [os2.flatSet _ ht hj, A0b (Ne.symm hne), st, A1Q (fun q => (R.getD a []).getD q 0) (fun q => (R.getD t []).getD q 0) hj, h2, List.set_set, List.set_comm _ _ (Ne.symm hne), List.set_set]
   have hl2 := os2.flatLen;rw [Aa0.l17_eq, if_pos (ltI.2 hj), i1, a1, if_pos (idxI.2 (by omega)), if_pos (idxI.2 (by omega)), if_pos (idxI.2 (by omega))];simp only [Int.toNat_natCast, g1, g2, f1];rw [if_pos (idxI.2 (by omega)), f2, A0y (by omega)]⟩) 0 R (Nat.zero_le _) (by rw [A1q, A1q, A1w o ht, A1w o ha, A1d (by omega), A1d (by omega)])
 rw [hs, A1P, A1P, A1w o ht, A1w o ha] at hg;exact hg
theorem A3g {R : List (List Int)} (o : RowsOk p h w R) {t c : Nat} (ht : t ≤ h) (hc : c < w) (det : Int) (piv : List Int) :
   Goes (fun k => Aa0.l11 k p (h : Int) (w : Int) xs p (w : Int) det (t : Int) (c : Int) (t : Int) e1 e2 e3 x18 p (h : Int) (w : Int) R.flatten piv)
     (fun k => Aa0.l11 k p (h : Int) (w : Int) xs p (w : Int) det (t : Int) (c : Int) ((pivA R t c : Nat) : Int) e1 e2 e3 x18 p (h : Int) (w : Int) R.flatten piv) := by
 have _ := hp;have hlen := o.len;obtain ⟨p1, p2, p3, -⟩ := A1l R t c (by omega);obtain ⟨s, hs, hg⟩ := Goes.loop (R := ((Int × Int × Int × List Int) × List Int × Int × Unit) × Unit) (fun k i (_ : Unit) => Aa0.l11 k p (h : Int) (w : Int) xs p (w : Int) det (t : Int) (c : Int) (i : Int) e1 e2 e3 x18 p (h : Int) (w : Int) R.flatten piv) (pivA R t c) (fun i _ => t ≤ i) (fun i s hi h2 => ⟨(), by omega, Goes.succ fun k => by
   obtain ⟨i1, i2⟩ := A0m hh hw (show i < h by omega) hc;have hsl := o.flatLen;rw [Aa0.l11_eq, if_pos (ltI.2 (by omega)), i1, if_pos (idxI.2 (by omega)), Int.toNat_natCast, o.flat (by omega) hc, p3 i h2 hi, if_pos (by decide), A0y (by omega)]⟩) t () p1 (Nat.le_refl _)
 exact hg
theorem A3h {R : List (List Int)} (o : RowsOk p h w R) {c : Nat} (hc : c < w) (det : Int) (piv : List Int) (hl : piv.length < h) :
   ∃ det', Goes (fun k => Aa0.l8 k p (h : Int) (w : Int) xs p (w : Int) det (piv.length : Int) (c : Int) e1 e2 e3 x18 p (h : Int) (w : Int) R.flatten piv)
     (fun k => Aa0.l8 k p (h : Int) (w : Int) xs p (w : Int) det' ((A0E p w c (R, piv)).2.length : Int) ((c + 1 : Nat) : Int) e1 e2 e3 x18 p (h : Int) (w : Int) (A0E p w c (R, piv)).1.flatten (A0E p w c (R, piv)).2) := by
 have hlen := o.len;obtain ⟨p1, p2, p3, p4⟩ := A1l R piv.length c (by omega);have start : Goes (fun k => Aa0.l8 k p (h : Int) (w : Int) xs p (w : Int) det (piv.length : Int) (c : Int) e1 e2 e3 x18 p (h : Int) (w : Int) R.flatten piv) (fun k => Aa0.l11 k p (h : Int) (w : Int) xs p (w : Int) det (piv.length : Int) (c : Int) ((pivA R piv.length c : Nat) : Int) e1 e2 e3 x18 p (h : Int) (w : Int) R.flatten piv) := Goes.trans (Goes.succ fun k => by
   rw [Aa0.l8_eq, if_pos (ltI.2 hc), if_pos (ltI.2 hl)]) (A3g hp hh hw xs e1 e2 e3 x18 o (Nat.le_of_lt hl) hc det piv)
 by_cases hpv : pivA R piv.length c < R.length
 . have hnz := p4 hpv;have ha : pivA R piv.length c < h := by omega
   have hs : A0E p w c (R, piv) = (A0f p piv.length c (A0i p w piv.length c (A0L R piv.length (pivA R piv.length c))), piv ++ [(c : Int)]) := if_pos hpv;have o2 := A2K o hl ha;have hx := o2.cell hl c hc;have hiv := A4I hp.1 (((A0L R piv.length (pivA R piv.length c)).getD piv.length []).getD c 0);have hin : Af3.F (((A0L R piv.length (pivA R piv.length c)).getD piv.length []).getD c 0, p, ()) = some ((inv_ p (((A0L R piv.length (pivA R piv.length c)).getD piv.length []).getD c 0), ()), ()) := Af3.val _ _ hp hx;have o3 := A1c (h := h) hp.1 o2 piv.length c;obtain ⟨c1, c2⟩ := A0m hh hw hl hc;have hfl := o2.flat hl hc;have hfll := o2.flatLen;have hfin : ∀ d : Int, Goes (fun k => Aa0.l26 k p (h : Int) (w : Int) xs p (w : Int) d (piv.length : Int) (c : Int) (inv_ p (((A0L R piv.length (pivA R piv.length c)).getD piv.length []).getD c 0)) 0 e1 e2 e3 x18 p (h : Int) (w : Int) (A0L R piv.length (pivA R piv.length c)).flatten piv)
       (fun k => Aa0.l8 k p (h : Int) (w : Int) xs p (w : Int) d ((A0E p w c (R, piv)).2.length : Int) ((c + 1 : Nat) : Int) e1 e2 e3 x18 p (h : Int) (w : Int) (A0E p w c (R, piv)).1.flatten (A0E p w c (R, piv)).2) := fun d => by
     refine (A3H hp hh hw xs e1 e2 e3 x18 o2 hl (c := c) _ d hiv piv).trans ((A3G hp hh hw xs e1 e2 e3 x18 o3 hl hc d piv).trans (Goes.succ fun k => ?_));rw [Aa0.l30_eq, if_neg (by simp), if_pos (by simp only [List.length_cons, List.length_nil, bigA]; omega), A0y (by omega), A0y (by omega), hs];simp only [List.length_append, List.length_cons, List.length_nil, Nat.zero_add]
   by_cases e : pivA R piv.length c = piv.length
   . have hsw : A0L R piv.length (pivA R piv.length c) = R := by rw [e]; exact A2W (by omega)
     rw [hsw] at hin hfin hfl hfll;refine ⟨(IntKind.i64.wrap (det * (R.getD piv.length []).getD c 0)).tmod p, start.trans (Goes.trans (Goes.succ fun k => ?_) (hfin _))⟩;rw [e] at hnz ⊢;rw [Aa0.l11_eq, if_pos (ltI.2 hl), c1, if_pos (idxI.2 (by omega)), Int.toNat_natCast, hfl, if_neg (by rw [beq_iff_eq]; exact hnz), if_neg (by simp only [beq_iff_eq]; omega), if_neg (by simp), if_pos (idxI.2 (by omega)), if_neg (by omega), hin];rfl
   . refine ⟨(IntKind.i64.wrap (IntKind.i64.wrap (p - det) * ((A0L R piv.length (pivA R piv.length c)).getD piv.length []).getD c 0)).tmod p, start.trans (Goes.trans (B := fun k => Aa0.l17 k p (h : Int) (w : Int) xs p (w : Int) (IntKind.i64.wrap (p - det)) (piv.length : Int) (c : Int) ((pivA R piv.length c : Nat) : Int) 0 e1 e2 e3 x18 p (h : Int) (w : Int) R.flatten piv) (Goes.succ fun k => ?_) ((A3i hp hh hw xs e1 e2 e3 x18 o hl ha (Ne.symm e) c (IntKind.i64.wrap (p - det)) piv).trans (Goes.trans (Goes.succ fun k => ?_) (hfin _))))⟩
     . obtain ⟨d1, d2⟩ := A0m hh hw ha hc;have hf0 := o.flat ha hc;have hfl0 := o.flatLen;rw [Aa0.l11_eq, if_pos (ltI.2 ha), d1, if_pos (idxI.2 (by omega)), Int.toNat_natCast, hf0, if_neg (by rw [beq_iff_eq]; exact hnz), if_neg (by simp only [beq_iff_eq]; omega), if_pos (by rw [bne_iff_ne]; omega)]
     . rw [Aa0.l17_eq, if_neg (by simp), c1, if_pos (idxI.2 (by omega)), if_neg (by omega), Int.toNat_natCast, hfl, hin];rfl
 . have hs : A0E p w c (R, piv) = (R, piv) := if_neg hpv;refine ⟨det, start.trans (Goes.succ fun k => ?_)⟩;rw [Aa0.l11_eq, if_neg (by simp only [decide_eq_true_eq]; omega), if_pos (by simp only [beq_iff_eq]; omega), A0y (by omega), hs]
end
theorem Aa0.val {p : Int} {h w : Nat} (hp : 2 ≤ p /\ p ≤ 251) (hh : h ≤ 4096) (hw : w ≤ 256) {R : List (List Int)} (o : RowsOk p h w R) : ∃ det, Aa0.F ((p, ((h : Int), ((w : Int), R.flatten))), ()) = some (((p, (h : Int), (w : Int), (gjN p w R w).1.flatten), (gjN p w R w).2, det, ()), ()) := by
 have hfl := o.flatLen;have h1 : h * w ≤ 4096 * 256 := Nat.mul_le_mul hh hw;have run : ∀ i, i ≤ w -> ∀ det, ∃ det', Goes (fun k => Aa0.l8 k p (h : Int) (w : Int) R.flatten p (w : Int) det ((gjN p w R (w - i)).2.length : Int) ((w - i : Nat) : Int) 0 0 0 [] p (h : Int) (w : Int) (gjN p w R (w - i)).1.flatten (gjN p w R (w - i)).2) (fun _ => some (((p, (h : Int), (w : Int), (gjN p w R w).1.flatten), (gjN p w R w).2, det', ()), ())) := by
   intro i;induction i with
   | zero =>
     intro _ det;refine ⟨det, Goes.succ fun k => ?_⟩;rw [Nat.sub_zero, Aa0.l8_eq, if_neg (by simp)]
   | succ i ih =>
     intro hi det;obtain ⟨o', hl'⟩ := A3S hp.1 o (w - (i + 1));have e : w - i = (w - (i + 1)) + 1 := by omega
     by_cases hfull : (gjN p w R (w - (i + 1))).2.length < h
     . obtain ⟨d1, g1⟩ := A3h hp hh hw R.flatten 0 0 0 [] o' (c := w - (i + 1)) (by omega) det _ hfull;obtain ⟨d2, g2⟩ := ih (by omega) d1;rw [e] at g2;exact ⟨d2, g1.trans g2⟩
     . have stay : ∀ j, gjN p w R (w - (i + 1) + j) = gjN p w R (w - (i + 1)) := by
         intro j;induction j with
         | zero => rfl
         | succ j ihj =>
           show A0E p w _ (gjN p w R (w - (i + 1) + j)) = _;rw [ihj];exact A3m (by rw [o'.len]; omega)
       have hw2 : gjN p w R w = gjN p w R (w - (i + 1)) := by have := stay (i + 1); rwa [show w - (i + 1) + (i + 1) = w by omega] at this
       refine ⟨det, Goes.succ fun k => ?_⟩;rw [Aa0.l8_eq, if_pos (ltI.2 (by omega)), if_neg (by simp only [decide_eq_true_eq]; omega), hw2]
 obtain ⟨det, g⟩ := run w (Nat.le_refl _) 1;rw [Nat.sub_self] at g;refine ⟨det, Aa0.of _ _ _ _ (Ev.of_eq (g _ (Ev.const _)) fun k => ?_)⟩;rw [Aa0.T, Af2.val _ (by omega)];rfl
theorem A1e (f g : Nat -> Int) : ∀ n, sumN (fun k => f k + g k) n = sumN f n + sumN g n
 | 0 => rfl
 | n + 1 => by simp only [sumN]; rw [A1e f g n]; omega
theorem A0c (c : Int) (f : Nat -> Int) : ∀ n, sumN (fun k => c * f k) n = c * sumN f n
 | 0 => by simp [sumN]
 | n + 1 => by simp only [sumN]; rw [A0c c f n, Int.mul_add]
theorem A0R {f : Nat -> Int} : ∀ {n}, (∀ k, k < n -> f k = 0) -> sumN f n = 0
 | 0, _ => rfl
 | n + 1, h => by simp only [sumN]; rw [A0R fun k hk => h k (by omega), h n (by omega)]; rfl
theorem A0U {p : Int} {f : Nat -> Int} : ∀ {n}, (∀ k, k < n -> p ∣ f k) -> p ∣ sumN f n
 | 0, _ => by simp [sumN]
 | n + 1, h => by simp only [sumN]; exact Int.dvd_add (A0U fun k hk => h k (by omega)) (h n (by omega))
theorem A1H (f g : Nat -> Int) (n : Nat) : sumN (fun k => f k - g k) n = sumN f n - sumN g n := by
 have := A1e (fun k => f k - g k) g n;rw [A0q (g := f) fun k _ => by omega] at this;omega
theorem A1I (f : Nat -> Nat -> Int) (m : Nat) : ∀ n, sumN (fun i => sumN (fun j => f i j) m) n = sumN (fun j => sumN (fun i => f i j) n) m
 | 0 => (A0R fun _ _ => rfl).symm
 | n + 1 => by simp only [sumN]; rw [A1I f m n, A1e]
theorem A0T {p a b : Int} (h : p ∣ a - b) : p ∣ a ↔ p ∣ b :=
 ⟨fun k => by have := Int.dvd_sub k h; rwa [show a - (a - b) = b by omega] at this, fun k => by have := Int.dvd_add h k; rwa [show a - b + b = a by omega] at this⟩
theorem A1k {f : Nat -> Int} {m : Nat} : ∀ {n}, m < n -> (∀ k, k < n -> k ≠ m -> f k = 0) -> sumN f n = f m
 | n + 1, h, hz => by
   simp only [sumN];by_cases e : m = n
   . subst e; rw [A0R fun k hk => hz k (by omega) (by omega)]; omega
   . rw [A1k (n := n) (by omega) fun k hk => hz k (by omega), hz n (by omega) (by omega)]; omega
theorem A1G {p : Int} {f : Nat -> Int} {m n : Nat} (h : m < n) (hz : ∀ k, k < n -> k ≠ m -> p ∣ f k) : p ∣ sumN f n - f m := by
 have e : sumN (fun k => if k = m then f k else 0) n = f m := by rw [A1k h fun k _ hk => if_neg hk, if_pos rfl]
 rw [<- e, <- A1H];refine A0U fun k hk => ?_;show p ∣ f k - _;split
 . rename_i hh; simp
 . rename_i hh; rw [Int.sub_zero]; exact hz k hk hh
abbrev en (R : List (List Int)) (i j : Nat) : Int := (R.getD i []).getD j 0
def dotN (w : Nat) (r : List Int) (x : Nat -> Int) : Int := sumN (fun j => r.getD j 0 * x j) w
theorem A2w (w : Nat) (r : List Int) (x y : Nat -> Int) : dotN w r (fun j => x j - y j) = dotN w r x - dotN w r y := by
 unfold dotN; rw [<- A1H]; exact A0q fun k _ => Int.mul_sub _ _ _
theorem A2c (w : Nat) (r : List Int) (c : Int) (x : Nat -> Int) : dotN w r (fun j => c * x j) = c * dotN w r x := by
 unfold dotN; rw [<- A0c]; exact A0q fun k _ => by rw [Int.mul_left_comm]
theorem A2d (w : Nat) (r : List Int) (n : Nat) (f : Nat -> Nat -> Int) : dotN w r (fun j => sumN (fun k => f k j) n) = sumN (fun k => dotN w r (f k)) n := by
 unfold dotN;rw [<- A1I];refine A0q fun j _ => ?_;rw [<- A0c]
theorem A3t {p : Int} {w : Nat} {r : List Int} {x y : Nat -> Int} (h : ∀ j, j < w -> p ∣ x j - y j) : p ∣ dotN w r x - dotN w r y := by
 rw [<- A2w];exact A0U fun j hj => Int.dvd_mul_of_dvd_right (h j hj)
def dl (m : Nat) (j : Nat) : Int := if j = m then 1 else 0
theorem A2M {w : Nat} (r : List Int) {m : Nat} (h : m < w) : dotN w r (dl m) = r.getD m 0 := by
 unfold dotN;rw [A1k h fun k _ hk => by rw [dl, if_neg hk, Int.mul_zero], dl, if_pos rfl, Int.mul_one]
theorem A1V {p c : Int} {x y : List Int} {j : Nat} (h : j < x.length) : (addL p c x y).getD j 0 = (x.getD j 0 + c * y.getD j 0) % p := A0g _ 0 h
theorem A2A (a p : Int) : p ∣ a % p - a := ⟨-(a / p), by have := Int.emod_add_mul_ediv a p; rw [Int.mul_neg]; omega⟩
theorem A2s {p c : Int} {w : Nat} {x y : List Int} (hx : x.length = w) (z : Nat -> Int) : p ∣ dotN w (addL p c x y) z - (dotN w x z + c * dotN w y z) := by
 have e : dotN w x z + c * dotN w y z = sumN (fun j => (x.getD j 0 + c * y.getD j 0) * z j) w := by
   unfold dotN; rw [<- A0c, <- A1e];exact A0q fun k _ => by rw [Int.add_mul, Int.mul_assoc]
 rw [e]; unfold dotN; rw [<- A1H];refine A0U fun j hj => ?_;rw [A1V (by omega), <- Int.sub_mul];exact Int.dvd_mul_of_dvd_left (A2A _ _)
theorem A3B : (List.range 252).all (fun p => (List.range 16).any (fun i => decide (2 ≤ i) && decide (i * i ≤ p) && (p % i == 0)) || decide (p < 2) || (List.range p).all (fun a => a == 0 || (a ^ (p - 2) % p * a) % p == 1)) = true := by decide +kernel
theorem inv_mul {p a : Int} (hp : A0C p) (ha : 1 ≤ a /\ a ≤ p - 1) : (inv_ p a * a) % p = 1 := by
 obtain ⟨⟨h2, h251⟩, hpr⟩ := hp;obtain ⟨n, rfl⟩ := Int.eq_ofNat_of_zero_le (show 0 ≤ p by omega);obtain ⟨m, rfl⟩ := Int.eq_ofNat_of_zero_le (show 0 ≤ a by omega);have h := List.all_eq_true.1 A3B n (List.mem_range.2 (by omega));simp only [Bool.or_eq_true, List.any_eq_true, List.all_eq_true, Bool.and_eq_true, decide_eq_true_eq, beq_iff_eq, List.mem_range] at h;rcases h with (⟨i, hi, ⟨h1, h3⟩, h4⟩ | h) | h
 . refine absurd ?_ (hpr i h1 (by exact_mod_cast h3));rw [<- Int.ofNat_tmod, h4]; rfl
 . omega
 . rcases h m (by omega) with h | h
   . omega
   . unfold inv_;have e : (((n : Int)) - 2).toNat = n - 2 := by omega
     rw [e]
     exact_mod_cast h
def Null (p : Int) (w : Nat) (R : List (List Int)) (x : Nat -> Int) : Prop := ∀ i, i < R.length -> p ∣ dotN w (R.getD i []) x
theorem A2R {p : Int} {w : Nat} {R : List (List Int)} {x y : Nat -> Int} (h : ∀ j, j < w -> p ∣ x j - y j) (hx : Null p w R x) : Null p w R y := fun i hi => (A0T (A3t h)).1 (hx i hi)
theorem A4A {p : Int} {w : Nat} {R : List (List Int)} {x y : Nat -> Int} (hx : Null p w R x) (hy : Null p w R y) : Null p w R (fun j => x j - y j) := fun i hi => by rw [A2w]; exact Int.dvd_sub (hx i hi) (hy i hi)
theorem A1J {R : List (List Int)} {t a : Nat} (ht : t < R.length) (ha : a < R.length) (i : Nat) : (A0L R t a).getD i [] = if i = a then R.getD t [] else if i = t then R.getD a [] else R.getD i [] := by
 unfold A0L;by_cases h1 : i = a
 . subst h1; rw [if_pos rfl, A0p (by simpa using ha)]
 . rw [if_neg h1, A0b (Ne.symm h1)];by_cases h2 : i = t
   . subst h2; rw [if_pos rfl, A0p ht]
   . rw [if_neg h2, A0b (Ne.symm h2)]
theorem A1f (R : List (List Int)) (t a : Nat) : (A0L R t a).length = R.length := by simp [A0L]
theorem A3Z {p : Int} {w : Nat} {R : List (List Int)} {t a : Nat} (ht : t < R.length) (ha : a < R.length) (x : Nat -> Int) : Null p w (A0L R t a) x ↔ Null p w R x := by
 constructor
 . intro h i hi;by_cases h1 : i = t
   . subst h1;have := h a (by rw [A1f]; exact ha)
     rwa [A1J ht ha, if_pos rfl] at this
   . by_cases h2 : i = a
     . subst h2;have := h t (by rw [A1f]; exact ht)
       rwa [A1J ht ha, if_neg (Ne.symm h1), if_pos rfl] at this
     . have := h i (by rw [A1f]; exact hi)
       rwa [A1J ht ha, if_neg h2, if_neg h1] at this
 . intro h i hi;rw [A1f] at hi;rw [A1J ht ha];split
   . exact h t ht
   . split
     . exact h a ha
     . exact h i hi
theorem A4k {p : Int} {w : Nat} {R : List (List Int)} {t : Nat} (ht : t < R.length) {r : List Int} {x : Nat -> Int} (hr : p ∣ dotN w r x ↔ p ∣ dotN w (R.getD t []) x) : Null p w (R.set t r) x ↔ Null p w R x := by
 constructor
 . intro h i hi;have := h i (by simpa using hi);by_cases e : i = t
   . subst e; rw [A0p ht] at this; exact hr.1 this
   . rwa [A0b (Ne.symm e)] at this
 . intro h i hi;have := h i (by simpa using hi);by_cases e : i = t
   . subst e; rw [A0p ht]; exact hr.2 this
   . rwa [A0b (Ne.symm e)]
theorem A4H {p u v d : Int} (h : (v * u) % p = 1) : p ∣ v * d ↔ p ∣ d := by
 constructor
 . intro k;have h1 : p ∣ u * (v * d) := Int.dvd_mul_of_dvd_right k;have h2 : p ∣ (v * u) % p - v * u := A2A _ _;have h3 : p ∣ ((v * u) % p - v * u) * d := Int.dvd_mul_of_dvd_left h2;rw [h, Int.sub_mul, Int.one_mul] at h3;have h4 := Int.dvd_add h3 h1
   rwa [show d - v * u * d + u * (v * d) = d by rw [<- Int.mul_assoc u v d, Int.mul_comm u v]; omega] at h4
 . intro k; exact Int.dvd_mul_of_dvd_right k
theorem dot_rep (w n : Nat) (x : Nat -> Int) : dotN w (List.replicate n (0 : Int)) x = 0 := A0R fun k _ => by
 have : (List.replicate n (0 : Int)).getD k 0 = 0 := by simp [List.getD_eq_getElem?_getD, List.getElem?_replicate]; split <;> rfl
 rw [this, Int.zero_mul]
theorem A3C {p : Int} {h w : Nat} {R : List (List Int)} (o : RowsOk p h w R) {t c : Nat} (ht : t < h) (hu : (inv_ p (en R t c) * en R t c) % p = 1) (x : Nat -> Int) : Null p w (A0i p w t c R) x ↔ Null p w R x := by
 unfold A0i;refine A4k (by rw [o.len]; exact ht) ?_;rw [A0T (A2s (by simp) x), dot_rep, Int.zero_add, A4H hu]
theorem A1X {p : Int} {R : List (List Int)} {t c i : Nat} (hi : i < R.length) : (A0f p t c R).getD i [] = A0I p t c R i := A0g _ [] hi
theorem A2k (p : Int) (t c : Nat) (R : List (List Int)) : (A0f p t c R).length = R.length := by simp [A0f]
theorem A3Y {p : Int} {h w : Nat} {R : List (List Int)} (o : RowsOk p h w R) {t c : Nat} (ht : t < h) (x : Nat -> Int) : Null p w (A0f p t c R) x ↔ Null p w R x := by
 have hl := o.len;have key : ∀ i, i < h -> p ∣ dotN w (R.getD t []) x -> (p ∣ dotN w (A0I p t c R i) x ↔ p ∣ dotN w (R.getD i []) x) := by
   intro i hi ht';unfold A0I;split
   . rfl
   . rw [A0T (A2s (o.at hi).1 x)];refine A0T ?_;rw [show ∀ a b : Int, a + b - a = b by omega];exact Int.dvd_mul_of_dvd_right ht'
 constructor
 . intro k i hi;have ht' := k t (by rw [A2k]; omega);rw [A1X (by omega), A0e] at ht';have := k i (by rw [A2k]; exact hi);rw [A1X hi] at this;exact (key i (by omega) ht').1 this
 . intro k i hi;rw [A2k] at hi;rw [A1X hi];exact (key i (by omega) (k t (by omega))).2 (k i hi)
abbrev pv (P : List Int) (k : Nat) : Nat := (P.getD k 0).toNat
structure Rref (p : Int) (h w c : Nat) (E : List (List Int)) (P : List Int) : Prop where
 ok : RowsOk p h w E
 len : P.length ≤ h
 inr : ∀ k, k < P.length -> 0 ≤ P.getD k 0 /\ P.getD k 0 < (c : Int)
 asc : P.Pairwise (· < ·)
 one : ∀ k, k < P.length -> en E k (pv P k) = 1
 zer : ∀ k i, k < P.length -> i < h -> i ≠ k -> en E i (pv P k) = 0
 low : ∀ i, P.length ≤ i -> i < h -> ∀ j, j < c -> en E i j = 0
 led : ∀ k, k < P.length -> ∀ j, j < pv P k -> en E k j = 0
theorem emod_self {p a : Int} (h : 0 ≤ a /\ a ≤ p - 1) : a % p = a := Int.emod_eq_of_lt h.1 (by omega)
theorem step_en {p : Int} {h w c : Nat} (hp : A0C p) {E : List (List Int)} (o : RowsOk p h w E) {t a : Nat} (ht : t ≤ a) (ha : a < h) (hc : c < w) (hlow : ∀ i, t ≤ i -> i < h -> ∀ j, j < c -> en E i j = 0) (hne : en E a c ≠ 0) :
   (∀ i, i < h -> (∀ j, j < c -> en (A0f p t c (A0i p w t c (A0L E t a))) i j = en E i j) /\ en (A0f p t c (A0i p w t c (A0L E t a))) i c = if i = t then 1 else 0) ∧
   ∀ x, Null p w (A0f p t c (A0i p w t c (A0L E t a))) x ↔ Null p w E x := by
 have h2 := hp.1.1;have htl : t < E.length := by rw [o.len]; omega
 have hal : a < E.length := by rw [o.len]; omega
 have oS := A2K o (t := t) (a := a) (by omega) ha;have gS := A1J htl hal;generalize hS : A0L E t a = S at *;have oZ := A1c h2 oS t c;have hSt : S.getD t [] = E.getD a [] := by
   rw [gS];by_cases e : t = a
   . subst e; rw [if_pos rfl]
   . rw [if_neg e, if_pos rfl]
 have hlead := o.cell ha c hc;have hu : (inv_ p (en S t c) * en S t c) % p = 1 := by
   have e : en S t c = en E a c := by unfold en; rw [hSt]
   rw [e];exact inv_mul hp ⟨by unfold en at hne ⊢; omega, by unfold en; omega⟩
 have hZn := fun x => A3C oS (show t < h by omega) hu x;have gZ : ∀ i, (A0i p w t c S).getD i [] = if i = t then addL p (inv_ p ((S.getD t []).getD c 0)) (List.replicate w 0) (S.getD t []) else S.getD i [] := by
   intro i;unfold A0i;by_cases e : i = t
   . subst e; rw [if_pos rfl, A0p (by rw [oS.len]; omega)]
   . rw [if_neg e, A0b (Ne.symm e)]
 generalize hZ : A0i p w t c S = Z at *;have zt : ∀ j, j < w -> en Z t j = (inv_ p (en S t c) * en S t j) % p := fun j hj => by
   unfold en; rw [gZ, if_pos rfl, A1V (by simpa using hj)];have : (List.replicate w (0 : Int)).getD j 0 = 0 := by simp [List.getD_eq_getElem?_getD, List.getElem?_replicate, hj]
   rw [this, Int.zero_add]
 have ztc : en Z t c = 1 := by rw [zt c hc, hu]
 have ztl : ∀ j, j < c -> en Z t j = 0 := fun j hj => by
   rw [zt j (by omega)];have : en S t j = 0 := by unfold en; rw [hSt]; exact hlow a ht ha j hj
   rw [this, Int.mul_zero]; rfl
 have zl : ∀ i, i < h -> ∀ j, j < c -> en Z i j = en E i j := fun i hi j hj => by
   by_cases e : i = t
   . subst e; rw [ztl j hj]; exact (hlow i (Nat.le_refl _) hi j hj).symm
   . unfold en;rw [gZ, if_neg e, gS];by_cases e2 : i = a
     . subst e2; rw [if_pos rfl];have h1 := hlow t (Nat.le_refl _) (by omega) j hj;have h2 := hlow i ht hi j hj;unfold en at h1 h2; rw [h1, h2]
     . rw [if_neg e2, if_neg e]
 have hl : Z.length = h := oZ.len;refine ⟨fun i hi => ?_, fun x => ?_⟩
 . have ge : ∀ j, en (A0f p t c Z) i j = (A0I p t c Z i).getD j 0 := fun j => by unfold en; rw [A1X (by omega)]
   refine ⟨fun j hj => ?_, ?_⟩
   . rw [ge];unfold A0I;split
     . exact zl i hi j hj
     . rw [A1V (by rw [(oZ.at hi).1]; omega)];have h1 := ztl j hj;have h3 := zl i hi j hj;unfold en at h1 h3;rw [h1, h3, Int.mul_zero, Int.add_zero];exact emod_self (o.cell hi j (by omega))
   . rw [ge];unfold A0I;by_cases e : i = t
     . subst e; rw [if_pos (.inl rfl), if_pos rfl]; exact ztc
     . rw [if_neg e];by_cases e2 : (Z.getD i []).getD c 0 = 0
       . rw [if_pos (.inr e2)]; exact e2
       . rw [if_neg (by simp only [not_or]; exact ⟨e, e2⟩), A1V (by rw [(oZ.at hi).1]; omega)];unfold en at ztc;rw [ztc, Int.mul_one, show (Z.getD i []).getD c 0 + (p - (Z.getD i []).getD c 0) = p by omega, Int.emod_self]
 . rw [A3Y oZ (show t < h by omega), hZn, <- hS, A3Z htl hal]
theorem A2F {P : List Int} {c : Int} (h : P.Pairwise (· < ·)) (hb : ∀ x ∈ P, x < c) : (P ++ [c]).Pairwise (· < ·) := by
 rw [List.pairwise_append];exact ⟨h, by simp, fun x hx y hy => by rw [List.mem_singleton.1 hy]; exact hb x hx⟩
theorem A3d {p : Int} {h w c : Nat} (hp : A0C p) {E : List (List Int)} {P : List Int} (hc : c < w) (r : Rref p h w c E P) :
   Rref p h w (c + 1) (A0E p w c (E, P)).1 (A0E p w c (E, P)).2 /\ ∀ x, Null p w (A0E p w c (E, P)).1 x ↔ Null p w E x := by
 have hs := A1l E P.length c (by rw [r.ok.len]; exact r.len);have hok := A3n (s := (E, P)) (c := c) hp.1.1 r.ok r.len;unfold A0E at hok ⊢;simp only at hok ⊢;split
 . rename_i hlt;rw [if_pos hlt] at hok;obtain ⟨s1, s2, s3, s4⟩ := hs;have hlt' := hlt;rw [r.ok.len] at hlt';obtain ⟨e1, e2⟩ := step_en hp r.ok s1 hlt' hc r.low (s4 hlt);have gl : ∀ k, k < P.length -> (P ++ [(c : Int)]).getD k 0 = P.getD k 0 := fun k hk => by simp [List.getD_eq_getElem?_getD, List.getElem?_append_left hk]
   have gr : (P ++ [(c : Int)]).getD P.length 0 = c := by simp [List.getD_eq_getElem?_getD]
   have hpl : (P ++ [(c : Int)]).length = P.length + 1 := by simp
   have hbd : ∀ k, k < P.length -> pv P k < c := fun k hk => by have := r.inr k hk; unfold pv; omega
   refine ⟨⟨hok.1, hok.2, fun k hk => ?_, A2F r.asc fun x hx => ?_, fun k hk => ?_, fun k i hk hi hne => ?_, fun i hi1 hi2 j hj => ?_, fun k hk j hj => ?_⟩, e2⟩
   . rw [hpl] at hk;by_cases e : k = P.length
     . subst e; rw [gr]; omega
     . rw [gl k (by omega)]; have := r.inr k (by omega); omega
   . obtain ⟨k, hk, rfl⟩ := List.getElem_of_mem hx;have := r.inr k hk;rw [A0x hk] at this; omega
   . rw [hpl] at hk;by_cases e : k = P.length
     . subst e;have : pv (P ++ [(c : Int)]) P.length = c := by unfold pv; rw [gr]; omega
       rw [this, (e1 _ (by omega)).2, if_pos rfl]
     . have : pv (P ++ [(c : Int)]) k = pv P k := by unfold pv; rw [gl k (by omega)]
       have hl := r.len;rw [this, (e1 k (by omega)).1 _ (hbd k (by omega))];exact r.one k (by omega)
   . rw [hpl] at hk;by_cases e : k = P.length
     . subst e;have : pv (P ++ [(c : Int)]) P.length = c := by unfold pv; rw [gr]; omega
       rw [this, (e1 _ hi).2, if_neg hne]
     . have : pv (P ++ [(c : Int)]) k = pv P k := by unfold pv; rw [gl k (by omega)]
       rw [this, (e1 i hi).1 _ (hbd k (by omega))];exact r.zer k i (by omega) hi hne
   . rw [hpl] at hi1;by_cases e : j = c
     . subst e; rw [(e1 i hi2).2, if_neg (by omega)]
     . rw [(e1 i hi2).1 j (by omega)];exact r.low i (by omega) hi2 j (by omega)
   . rw [hpl] at hk;by_cases e : k = P.length
     . subst e;have : pv (P ++ [(c : Int)]) P.length = c := by unfold pv; rw [gr]; omega
       rw [this] at hj;rw [(e1 _ (by omega)).1 j hj];exact r.low _ (Nat.le_refl _) (by omega) j hj
     . have : pv (P ++ [(c : Int)]) k = pv P k := by unfold pv; rw [gl k (by omega)]
       rw [this] at hj;have hb := hbd k (by omega);have hl := r.len;rw [(e1 k (by omega)).1 j (by omega)];exact r.led k (by omega) j hj
 . rename_i hlt;obtain ⟨s1, s2, s3, s4⟩ := hs;refine ⟨⟨r.ok, r.len, fun k hk => ?_, r.asc, r.one, r.zer, fun i hi1 hi2 j hj => ?_, r.led⟩, fun x => Iff.rfl⟩
   . have := r.inr k hk;show 0 ≤ P.getD k 0 /\ P.getD k 0 < ((c + 1 : Nat) : Int);omega
   . by_cases e : j = c
     . have hlt : ¬ pivA E P.length c < E.length := hlt;rw [r.ok.len] at hlt;rw [e]; exact s3 i hi1 (by omega)
     . exact r.low i hi1 hi2 j (by omega)
theorem A0G {p : Int} {h w : Nat} (hp : A0C p) {R : List (List Int)} (o : RowsOk p h w R) : ∀ c, c ≤ w -> Rref p h w c (gjN p w R c).1 (gjN p w R c).2 /\ ∀ x, Null p w (gjN p w R c).1 x ↔ Null p w R x
 | 0, _ => ⟨⟨o, Nat.zero_le _, by simp [gjN], by simp [gjN], by simp [gjN], by simp [gjN], by intro i _ _ j hj; exact absurd hj (Nat.not_lt_zero j), by simp [gjN]⟩, fun x => Iff.rfl⟩
 | c + 1, hc => by
   obtain ⟨r1, r2⟩ := A0G hp o c (by omega);obtain ⟨s1, s2⟩ := A3d hp (show c < w by omega) r1;exact ⟨s1, fun x => (s2 x).trans (r2 x)⟩
theorem A0W {p : Int} {h w c : Nat} {E : List (List Int)} {P : List Int} (r : Rref p h w c E P) (j : Nat) : (j : Int) ∈ P ↔ ∃ k, k < P.length /\ pv P k = j := by
 constructor
 . intro hj;obtain ⟨k, hk, e⟩ := List.getElem_of_mem hj;exact ⟨k, hk, by unfold pv; rw [A0x hk, e]; rfl⟩
 . rintro ⟨k, hk, rfl⟩;have h1 := r.inr k hk;have : ((pv P k : Nat) : Int) = P.getD k 0 := by unfold pv; omega
   rw [this]; exact A0z 0 hk
theorem Rref.pw {p : Int} {h w c : Nat} {E : List (List Int)} {P : List Int} (r : Rref p h w c E P) {k : Nat} (hk : k < P.length) : pv P k < c := by
 have := r.inr k hk; unfold pv; omega
theorem Rref.en0 {p : Int} {h w c : Nat} {E : List (List Int)} {P : List Int} (r : Rref p h w c E P) {k l : Nat} (hk : k < P.length) (hl : l < P.length) (hne : k ≠ l) : en E k (pv P l) = 0 :=
 r.zer l k hl (by have := r.len; omega) hne
theorem Rref.inj {p : Int} {h w c : Nat} {E : List (List Int)} {P : List Int} (r : Rref p h w c E P) {k l : Nat} (hk : k < P.length) (hl : l < P.length) (e : pv P k = pv P l) : k = l := by
 by_cases hne : k = l
 . exact hne
 . have h1 := r.one k hk;rw [e, r.en0 hk hl hne] at h1; cases h1
def mask (P : List Int) (y : Nat -> Int) (q : Nat) : Int := if (q : Int) ∈ P then 0 else y q
def fixV (w : Nat) (E : List (List Int)) (P : List Int) (y : Nat -> Int) (q : Nat) : Int := mask P y q - sumN (fun k => dotN w (E.getD k []) (mask P y) * dl (pv P k) q) P.length
section
variable {p : Int} {h w : Nat} {E : List (List Int)} {P : List Int}
theorem A1v (r : Rref p h w w E P) (y : Nat -> Int) : Null p w E (fixV w E P y) := fun i hi => by
 rw [r.ok.len] at hi;have e : dotN w (E.getD i []) (fixV w E P y) = dotN w (E.getD i []) (mask P y) - sumN (fun k => dotN w (E.getD k []) (mask P y) * en E i (pv P k)) P.length := by
   unfold fixV;rw [A2w, A2d];congr 1;refine A0q fun k hk => ?_;rw [A2c, A2M _ (r.pw hk)]
 rw [e];by_cases hr : i < P.length
 . rw [A1k hr fun k hk hne => by rw [r.en0 hr hk (Ne.symm hne), Int.mul_zero], r.one i hr, Int.mul_one, Int.sub_self];exact Int.dvd_zero p
 . have z : ∀ j, j < w -> en E i j = 0 := r.low i (by omega) hi;have e1 : dotN w (E.getD i []) (mask P y) = 0 := A0R fun k hk => by have := z k hk; unfold en at this; rw [this, Int.zero_mul]
   rw [e1, A0R fun k hk => by rw [z _ (r.pw hk), Int.mul_zero]];exact Int.dvd_zero p
theorem A0o (r : Rref p h w w E P) (y : Nat -> Int) {q : Nat} (hq : (q : Int) ∉ P) : fixV w E P y q = y q := by
 unfold fixV mask;rw [if_neg hq, A0R fun k hk => ?_, Int.sub_zero];rw [dl, if_neg (fun e => hq ((A0W r q).2 ⟨k, hk, e.symm⟩)), Int.mul_zero]
theorem fix_piv (r : Rref p h w w E P) (y : Nat -> Int) {k : Nat} (hk : k < P.length) : fixV w E P y (pv P k) = - dotN w (E.getD k []) (mask P y) := by
 have hm : mask P y (pv P k) = 0 := if_pos ((A0W r _).2 ⟨k, hk, rfl⟩);rw [fixV, hm, A1k hk fun l hl hne => by rw [dl, if_neg (fun e => hne (r.inj hl hk e.symm)), Int.mul_zero], dl, if_pos rfl];omega
theorem A3b (r : Rref p h w w E P) {x : Nat -> Int} (hx : Null p w E x) (hf : ∀ j, j < w -> (j : Int) ∉ P -> p ∣ x j) : ∀ j, j < w -> p ∣ x j := by
 intro j hj;by_cases hp : (j : Int) ∈ P
 . obtain ⟨k, hk, rfl⟩ := (A0W r j).1 hp;have hkh : k < E.length := by rw [r.ok.len]; have := r.len; omega
   have h1 := hx k hkh;have h2 : p ∣ dotN w (E.getD k []) x - (E.getD k []).getD (pv P k) 0 * x (pv P k) := A1G hj fun q hq hne => by
     by_cases hqp : (q : Int) ∈ P
     . obtain ⟨l, hl, rfl⟩ := (A0W r q).1 hqp;have := r.en0 hk hl (fun e => hne (by rw [e]));unfold en at this; rw [this, Int.zero_mul]; exact Int.dvd_zero p
     . exact Int.dvd_mul_of_dvd_right (hf q hq hqp)
   have h3 := r.one k hk;unfold en at h3;rw [h3, Int.one_mul] at h2;exact (A0T h2).1 h1
 . exact hf j hj hp
theorem A1R (r : Rref p h w w E P) {x y : Nat -> Int} (hx : Null p w E x) (hy : Null p w E y) (hf : ∀ j, j < w -> (j : Int) ∉ P -> p ∣ x j - y j) : ∀ j, j < w -> p ∣ x j - y j :=
 A3b r (A4A hx hy) hf
theorem A3V {j : Nat} (hj : (j : Int) ∉ P) : mask P (dl j) = dl j := by
 funext q;unfold mask;split
 . rename_i hq;rw [dl, if_neg (fun e => hj (by rw [<- e]; exact hq))]
 . rfl
theorem A2u (r : Rref p h w w E P) {j k : Nat} (hj : j < w) (hjp : (j : Int) ∉ P) (hk : k < P.length) : fixV w E P (dl j) (pv P k) = - en E k j := by
 rw [fix_piv r _ hk, A3V hjp, A2M _ hj]
theorem A2C (hp : 2 ≤ p) (r : Rref p h w w E P) {j : Nat} (hj : j < w) : (j : Int) ∉ P ↔ ∃ x, Null p w E x /\ ¬ p ∣ x j /\ ∀ q, j < q -> q < w -> p ∣ x q := by
 constructor
 . intro hjp;refine ⟨_, A1v r (dl j), ?_, fun q hq hqw => ?_⟩
   . rw [A0o r _ hjp, dl, if_pos rfl];intro hd;have := Int.le_of_dvd (by omega) hd;omega
   . by_cases hqp : (q : Int) ∈ P
     . obtain ⟨k, hk, rfl⟩ := (A0W r q).1 hqp;rw [A2u r hj hjp hk, r.led k hk j hq]; exact Int.dvd_zero p
     . rw [A0o r _ hqp, dl, if_neg (by omega)]; exact Int.dvd_zero p
 . rintro ⟨x, hx, hn, hq⟩ hjp;obtain ⟨k, hk, rfl⟩ := (A0W r j).1 hjp;have hkh : k < E.length := by rw [r.ok.len]; have := r.len; omega
   have h1 := hx k hkh;have h2 : p ∣ dotN w (E.getD k []) x - (E.getD k []).getD (pv P k) 0 * x (pv P k) := A1G hj fun q hqw hne => by
     by_cases hlt : q < pv P k
     . have := r.led k hk q hlt;unfold en at this; rw [this, Int.zero_mul]; exact Int.dvd_zero p
     . exact Int.dvd_mul_of_dvd_right (hq q (by omega) hqw)
   have h3 := r.one k hk;unfold en at h3;rw [h3, Int.one_mul] at h2;exact hn ((A0T h2).1 h1)
end
theorem A1M : ∀ {b a : List Int}, a.Pairwise (· < ·) -> b.Pairwise (· < ·) -> (∀ x ∈ a, x ∈ b) -> a.length ≤ b.length /\ (a.length = b.length -> a = b)
 | [], a, _, _, h => by
   cases a with
   | nil => simp
   | cons x a => exact absurd (h x (by simp)) (by simp)
 | y :: b, [], _, _, _ => by simp
 | y :: b, x :: a, ha, hb, h => by
   rw [List.pairwise_cons] at ha hb;by_cases e : x = y
   . subst e;obtain ⟨h1, h2⟩ := A1M ha.2 hb.2 fun z hz => by
       have := h z (by simp [hz]);simp only [List.mem_cons] at this;rcases this with rfl | h3
       . exact absurd (ha.1 z hz) (by omega)
       . exact h3
     exact ⟨by simpa using h1, fun hl => by rw [h2 (by simpa using hl)]⟩
   . have hx : x ∈ b := by
       have := h x (by simp);simp only [List.mem_cons] at this;exact this.resolve_left e
     obtain ⟨h1, _⟩ := A1M (b := b) (a := x :: a) (by rw [List.pairwise_cons]; exact ha) hb.2 fun z hz => by
       have h3 := h z hz;simp only [List.mem_cons] at h3 hz;rcases h3 with rfl | h3
       . have := hb.1 x hx;rcases hz with rfl | hz
         . omega
         . have := ha.1 z hz; omega
       . exact h3
     simp only [List.length_cons] at h1 ⊢;exact ⟨by omega, fun hl => by omega⟩
theorem A2o {a b : List Int} (ha : a.Pairwise (· < ·)) (hb : b.Pairwise (· < ·)) (h : ∀ x, x ∈ a ↔ x ∈ b) : a = b := by
 obtain ⟨h1, h2⟩ := A1M ha hb fun x => (h x).1;obtain ⟨h3, _⟩ := A1M hb ha fun x => (h x).2;exact h2 (by omega)
section
variable {p : Int} {h h' w : Nat} {E E' : List (List Int)} {P P' : List Int}
theorem A3c (r : Rref p h w w E P) {x : Int} (hx : x ∈ P) : ∃ j : Nat, j < w /\ x = j := by
 obtain ⟨k, hk, rfl⟩ := List.getElem_of_mem hx;have h1 := r.inr k hk;rw [A0x hk] at h1;exact ⟨P[k].toNat, by omega, by omega⟩
theorem A2h (hp : 2 ≤ p) (r : Rref p h w w E P) (r' : Rref p h' w w E' P') (hs : ∀ x, Null p w E x -> Null p w E' x) : ∀ x ∈ P', x ∈ P := fun x hx => by
 obtain ⟨j, hj, rfl⟩ := A3c r' hx;by_cases hjp : (j : Int) ∈ P
 . exact hjp
 . obtain ⟨y, h1, h2, h3⟩ := (A2C hp r hj).1 hjp;exact absurd hx ((A2C hp r' hj).2 ⟨y, hs y h1, h2, h3⟩)
theorem A4J (hp : 2 ≤ p) (r : Rref p h w w E P) (r' : Rref p h' w w E' P') (hs : ∀ x, Null p w E x ↔ Null p w E' x) : P = P' :=
 A2o r.asc r'.asc fun x => ⟨A2h hp r' r (fun y => (hs y).2) x, A2h hp r r' (fun y => (hs y).1) x⟩
theorem dvd_eq {a b : Int} (ha : 0 ≤ a /\ a ≤ p - 1) (hb : 0 ≤ b /\ b ≤ p - 1) (h : p ∣ a - b) : a = b := by
 have h1 := emod_self ha;have h2 := emod_self hb;have := (Int.emod_eq_emod_iff_emod_sub_eq_zero).2 (Int.emod_eq_zero_of_dvd h);omega
theorem A3e (hp : 2 ≤ p) (r : Rref p h w w E P) (r' : Rref p h' w w E' P') (hs : ∀ x, Null p w E x ↔ Null p w E' x) : P = P' /\ E.take P.length = E'.take P.length := by
 have e := A4J hp r r' hs;subst e;refine ⟨rfl, ?_⟩;have hl := r.len;have hl' := r'.len;refine List.ext_getElem (by simp [r.ok.len, r'.ok.len]; omega) fun k h1 h2 => ?_;have hk : k < P.length := by simp at h1; omega
 rw [List.getElem_take, List.getElem_take, <- A0x (d := []), <- A0x (d := [])];have o1 := r.ok.at (i := k) (by omega);have o2 := r'.ok.at (i := k) (by omega);refine List.ext_getElem (by rw [o1.1, o2.1]) fun j h3 h4 => ?_;rw [<- A0x (d := 0), <- A0x (d := 0)];have hj : j < w := by rw [o1.1] at h3; exact h3
 show en E k j = en E' k j;by_cases hjp : (j : Int) ∈ P
 . obtain ⟨l, hl, rfl⟩ := (A0W r j).1 hjp;by_cases e : k = l
   . subst e; rw [r.one k hk, r'.one k hk]
   . rw [r.en0 hk hl e, r'.en0 hk hl e]
 . have h5 := A1R r (A1v r (dl j)) ((hs _).2 (A1v r' (dl j))) (fun q hq hqp => by rw [A0o r _ hqp, A0o r' _ hqp, Int.sub_self]; exact Int.dvd_zero p) (pv P k) (r.pw hk);rw [A2u r hj hjp hk, A2u r' hj hjp hk] at h5;refine (dvd_eq (r'.ok.cell (by omega) j hj) (r.ok.cell (by omega) j hj) ?_).symm
   rwa [show - en E k j - - en E' k j = en E' k j - en E k j by omega] at h5
theorem A3X (r : Rref p h w w E P) (r' : Rref p h' w w E' P') (hp : 2 ≤ p) (hs : ∀ x, Null p w E x -> Null p w E' x) (hl : P.length = P'.length) : ∀ x, Null p w E' x -> Null p w E x := fun x hx => by
 have e : P' = P := (A1M r'.asc r.asc (A2h hp r r' hs)).2 hl.symm;subst e;have h1 := A1v r x;exact A2R (A1R r' (hs _ h1) hx fun j hj hjp => by rw [A0o r _ hjp, Int.sub_self]; exact Int.dvd_zero p) h1
end
def rk (p : Int) (w : Nat) (R : List (List Int)) : Nat := (gjN p w R w).2.length
section
variable {p : Int} {h w : Nat} {R T : List (List Int)}
theorem row_exp (hp : A0C p) (o : RowsOk p h w R) {i j : Nat} (hi : i < h) (hj : j < w) :
   p ∣ en R i j - sumN (fun k => en (gjN p w R w).1 k j * en R i (pv (gjN p w R w).2 k)) (gjN p w R w).2.length := by
 obtain ⟨r, hn⟩ := A0G hp o w (Nat.le_refl _);generalize (gjN p w R w).1 = E at *;generalize (gjN p w R w).2 = P at *;by_cases hjp : (j : Int) ∈ P
 . obtain ⟨l, hl, rfl⟩ := (A0W r j).1 hjp;rw [A1k hl fun k hk hne => by rw [r.en0 hk hl hne, Int.zero_mul], r.one l hl, Int.one_mul, Int.sub_self];exact Int.dvd_zero p
 . have h1 := (hn _).1 (A1v r (dl j)) i (by rw [o.len]; exact hi);have e : dotN w (R.getD i []) (fixV w E P (dl j)) = en R i j - sumN (fun k => en E k j * en R i (pv P k)) P.length := by
     unfold fixV;rw [A2w, A2d, A3V hjp, A2M _ hj];congr 1;refine A0q fun k hk => ?_;rw [A2c, A2M _ (r.pw hk), A2M _ hj]
   rwa [e] at h1
theorem A4D (hp : A0C p) (o : RowsOk p h w R) : rk p w R ≤ h := (A0G hp o w (Nat.le_refl _)).1.len
theorem rk_eq (hp : A0C p) {h' : Nat} (o : RowsOk p h w R) (o' : RowsOk p h' w T) (hs : ∀ x, Null p w R x ↔ Null p w T x) : rk p w R = rk p w T := by
 obtain ⟨r, hn⟩ := A0G hp o w (Nat.le_refl _);obtain ⟨r', hn'⟩ := A0G hp o' w (Nat.le_refl _);unfold rk;rw [A4J hp.1.1 r r' fun x => (hn x).trans ((hs x).trans (hn' x).symm)]
theorem A2l (hp : A0C p) (o : RowsOk p h w R) (oT : RowsOk p w h T) (ht : ∀ i j, i < h -> j < w -> en T j i = en R i j) : rk p h T ≤ rk p w R := by
 obtain ⟨r, hn⟩ := A0G hp o w (Nat.le_refl _);have hexp : ∀ i j, i < h -> j < w -> _ := fun i j hi hj => row_exp hp o hi hj;unfold rk;generalize (gjN p w R w).1 = E at *;generalize (gjN p w R w).2 = P at *;have hC : RowsOk p P.length h (P.map fun x => T.getD x.toNat []) := by
   refine ⟨by simp, fun q hq => ?_⟩;obtain ⟨x, hx, rfl⟩ := List.mem_map.1 hq;obtain ⟨j, hj, rfl⟩ := A3c r hx;exact oT.at (by simpa using hj)
 have hget : ∀ k, k < P.length -> (P.map fun x => T.getD x.toNat []).getD k [] = T.getD (pv P k) [] := fun k hk => by
   simp only [List.getD_eq_getElem?_getD, List.getElem?_map, pv];rw [List.getElem?_eq_getElem hk]; rfl
 have hs : ∀ x, Null p h T x ↔ Null p h (P.map fun x => T.getD x.toNat []) x := fun x => by
   constructor
   . intro hx k hk;have hk : k < P.length := by simpa using hk
     rw [hget k hk];exact hx _ (by rw [oT.len]; exact r.pw hk)
   . intro hx j hj;rw [oT.len] at hj;have e1 : p ∣ dotN h (T.getD j []) x - sumN (fun i => sumN (fun k => en E k j * en R i (pv P k) * x i) P.length) h := by
       unfold dotN;rw [<- A1H];refine A0U fun i hi => ?_;have h1 := hexp i j hi hj;have e2 : sumN (fun k => en E k j * en R i (pv P k) * x i) P.length = sumN (fun k => en E k j * en R i (pv P k)) P.length * x i := by
         rw [Int.mul_comm, <- A0c];exact A0q fun k _ => Int.mul_comm _ _
       rw [e2];have e3 : (T.getD j []).getD i 0 = en R i j := ht i j hi hj;rw [e3, <- Int.sub_mul];exact Int.dvd_mul_of_dvd_left h1
     refine (A0T e1).2 ?_;rw [A1I];refine A0U fun k hk => ?_;have h2 := hx k (by simpa using hk);rw [hget k hk] at h2;have e4 : sumN (fun i => en E k j * en R i (pv P k) * x i) h = en E k j * dotN h (T.getD (pv P k) []) x := by
       unfold dotN;rw [<- A0c];refine A0q fun i hi => ?_;have : (T.getD (pv P k) []).getD i 0 = en R i (pv P k) := ht i _ hi (r.pw hk);rw [this, Int.mul_assoc]
     rw [e4];exact Int.dvd_mul_of_dvd_right h2
 have h1 := rk_eq hp oT hC hs;have h2 := A4D hp hC;unfold rk at h1 h2;omega
end
def A0v (w : Nat) (P : List Int) : List Nat := (List.range w).filter fun j : Nat => decide ((j : Int) ∉ P)
theorem freeL_mem {w : Nat} {P : List Int} {j : Nat} : j ∈ A0v w P ↔ j < w /\ (j : Int) ∉ P := by
 unfold A0v; rw [List.mem_filter, List.mem_range, decide_eq_true_eq]
theorem A3Q (w : Nat) (P : List Int) : (A0v w P).Pairwise (· < ·) := List.pairwise_lt_range.sublist List.filter_sublist
theorem A2r : ∀ {l : List Nat}, l.Pairwise (· < ·) -> (l.map fun j : Nat => (j : Int)).Pairwise (· < ·) := fun h => by
 rw [List.pairwise_map]; exact h.imp fun h => by omega
theorem A3R {p : Int} {h w : Nat} {E : List (List Int)} {P : List Int} (r : Rref p h w w E P) : (A0v w P).length + P.length = w := by
 have h1 : (((List.range w).filter fun j : Nat => decide ((j : Int) ∈ P)).map fun j : Nat => (j : Int)) = P := by
   refine A2o (A2r (List.pairwise_lt_range.sublist List.filter_sublist)) r.asc fun x => ?_;simp only [List.mem_map, List.mem_filter, List.mem_range, decide_eq_true_eq];constructor
   . rintro ⟨j, ⟨_, h⟩, rfl⟩; exact h
   . intro hx;obtain ⟨j, hj, rfl⟩ := A3c r hx;exact ⟨j, ⟨hj, hx⟩, rfl⟩
 have h2 := congrArg List.length h1;rw [List.length_map] at h2;have h3 : ∀ l : List Nat, (l.filter fun j : Nat => decide ((j : Int) ∉ P)).length + (l.filter fun j : Nat => decide ((j : Int) ∈ P)).length = l.length := by
   intro l;induction l with
   | nil => rfl
   | cons a l ih =>
     simp only [List.filter_cons];by_cases ha : (a : Int) ∈ P <;> simp [ha] <;> simp at ih <;> omega
 have h4 := h3 (List.range w);rw [List.length_range] at h4;unfold A0v;omega
structure KerOk (p : Int) (w : Nat) (E : List (List Int)) (P : List Int) (K : List (List Int)) : Prop where
 ok : RowsOk p (A0v w P).length w K
 val : ∀ i, i < (A0v w P).length -> ∀ q, q < w -> p ∣ en K i q - fixV w E P (dl ((A0v w P).getD i 0)) q
section
variable {p : Int} {h w : Nat} {E : List (List Int)} {P : List Int} {K : List (List Int)}
theorem A2e {i : Nat} (hi : i < (A0v w P).length) : (A0v w P).getD i 0 < w /\ (((A0v w P).getD i 0 : Nat) : Int) ∉ P := freeL_mem.1 (A0z 0 hi)
theorem A4v {i l : Nat} (hi : i < (A0v w P).length) (hl : l < (A0v w P).length) (e : (A0v w P).getD i 0 = (A0v w P).getD l 0) : i = l := by
 have ha := A3Q w P;rw [List.pairwise_iff_getElem] at ha;rw [A0x hi, A0x hl] at e;rcases Nat.lt_trichotomy i l with h | h | h
 . have := ha i l hi hl h; omega
 . exact h
 . have := ha l i hl hi h; omega
theorem A3v (r : Rref p h w w E P) (k : KerOk p w E P K) {i : Nat} (hi : i < (A0v w P).length) : Null p w E (fun q => en K i q) :=
 A2R (fun q hq => by have := Int.dvd_neg.2 (k.val i hi q hq); rwa [Int.neg_sub] at this) (A1v r (dl ((A0v w P).getD i 0)))
theorem A1Z (r : Rref p h w w E P) (k : KerOk p w E P K) {i l : Nat} (hi : i < (A0v w P).length) (hl : l < (A0v w P).length) : p ∣ en K i ((A0v w P).getD l 0) - (if l = i then 1 else 0) := by
 obtain ⟨h1, h2⟩ := A2e hl;have := k.val i hi _ h1;rw [A0o r _ h2, dl] at this;by_cases e : l = i
 . subst e; rwa [if_pos rfl] at this ⊢
 . rw [if_neg e]
   rwa [if_neg (fun e' => e (A4v hl hi e'))] at this
theorem A4q (r : Rref p h w w E P) (k : KerOk p w E P K) {v : Nat -> Int} (hv : Null p w E v) : ∀ q, q < w -> p ∣ sumN (fun i => v ((A0v w P).getD i 0) * en K i q) (A0v w P).length - v q := by
 refine A1R r (fun i hi => ?_) hv fun q hq hqp => ?_
 . rw [A2d];refine A0U fun l hl => ?_;rw [A2c];exact Int.dvd_mul_of_dvd_right (A3v r k hl i hi)
 . obtain ⟨l, hl, e⟩ := List.getElem_of_mem (freeL_mem.2 ⟨hq, hqp⟩);rw [<- A0x (d := 0)] at e;subst e;have h1 : p ∣ sumN (fun i => v ((A0v w P).getD i 0) * en K i ((A0v w P).getD l 0)) (A0v w P).length - v ((A0v w P).getD l 0) * en K l ((A0v w P).getD l 0) := A1G hl fun i hi hne => by
     have := A1Z r k hi hl;rw [if_neg (Ne.symm hne), Int.sub_zero] at this;exact Int.dvd_mul_of_dvd_right this
   have h2 := A1Z r k hl hl;rw [if_pos rfl] at h2;have h3 : p ∣ v ((A0v w P).getD l 0) * (en K l ((A0v w P).getD l 0) - 1) := Int.dvd_mul_of_dvd_right h2;rw [Int.mul_sub, Int.mul_one] at h3;have := Int.dvd_add h1 h3
   rwa [show ∀ a b c : Int, a - b + (b - c) = a - c by omega] at this
theorem ker_ann (r : Rref p h w w E P) (k : KerOk p w E P K) {x v : Nat -> Int} (hx : Null p w K x) (hv : Null p w E v) : p ∣ sumN (fun q => v q * x q) w := by
 have h1 : p ∣ sumN (fun q => sumN (fun i => v ((A0v w P).getD i 0) * en K i q * x q) (A0v w P).length) w - sumN (fun q => v q * x q) w := by
   rw [<- A1H];refine A0U fun q hq => ?_;have e2 : sumN (fun i => v ((A0v w P).getD i 0) * en K i q * x q) (A0v w P).length = sumN (fun i => v ((A0v w P).getD i 0) * en K i q) (A0v w P).length * x q := by
     rw [Int.mul_comm, <- A0c];exact A0q fun k _ => Int.mul_comm _ _
   rw [e2, <- Int.sub_mul];exact Int.dvd_mul_of_dvd_left (A4q r k hv q hq)
 refine (A0T h1).1 ?_;rw [A1I];refine A0U fun i hi => ?_;have e4 : sumN (fun q => v ((A0v w P).getD i 0) * en K i q * x q) w = v ((A0v w P).getD i 0) * dotN w (K.getD i []) x := by
   unfold dotN;rw [<- A0c];exact A0q fun q _ => by rw [Int.mul_assoc]
 rw [e4];exact Int.dvd_mul_of_dvd_right (hx i (by rw [k.ok.len]; exact hi))
end
def A1S (h w : Nat) (R : List (List Int)) : List (List Int) := (List.range w).map fun j => (List.range h).map fun i => en R i j
theorem A4G {p : Int} {h w : Nat} {R : List (List Int)} (o : RowsOk p h w R) : RowsOk p w h (A1S h w R) := by
 refine ⟨by simp [A1S], fun r hr => ?_⟩;unfold A1S at hr;obtain ⟨j, hj, rfl⟩ := List.mem_map.1 hr;have hj := List.mem_range.1 hj;refine ⟨by simp, fun x hx => ?_⟩;obtain ⟨i, hi, rfl⟩ := List.mem_map.1 hx;exact o.cell (List.mem_range.1 hi) j hj
theorem A2L {h w : Nat} {R : List (List Int)} {i j : Nat} (hi : i < h) (hj : j < w) : en (A1S h w R) j i = en R i j := by
 unfold A1S; rw [en, A0g _ _ hj, A0g _ _ hi]
theorem ker_rk {p : Int} {h w : Nat} {E : List (List Int)} {P : List Int} {K : List (List Int)} (hp : A0C p) (r : Rref p h w w E P) (k : KerOk p w E P K) : rk p w K = (A0v w P).length := by
 have oT := A4G k.ok;have h1 := A2l hp k.ok oT fun i j hi hj => A2L hi hj;have h2 := A4D hp k.ok;obtain ⟨rT, hn⟩ := A0G hp oT _ (Nat.le_refl _);have h3 : (A0v w P).length ≤ rk p (A0v w P).length (A1S (A0v w P).length w K) := by
   unfold rk;have := (A1M (a := (List.range (A0v w P).length).map fun j : Nat => (j : Int)) (A2r List.pairwise_lt_range) rT.asc fun x hx => by
     obtain ⟨j, hj, rfl⟩ := List.mem_map.1 hx;have hj := List.mem_range.1 hj;by_cases hjp : (j : Int) ∈ (gjN p (A0v w P).length (A1S (A0v w P).length w K) (A0v w P).length).2
     . exact hjp
     . obtain ⟨y, g1, g2, _⟩ := (A2C hp.1.1 rT hj).1 hjp;refine absurd ?_ g2;obtain ⟨f1, f2⟩ := A2e hj;have g3 := (hn y).1 g1 ((A0v w P).getD j 0) (by rw [oT.len]; exact f1);have g4 : p ∣ dotN (A0v w P).length ((A1S (A0v w P).length w K).getD ((A0v w P).getD j 0) []) y - y j := by
         have e : (fun i => ((A1S (A0v w P).length w K).getD ((A0v w P).getD j 0) []).getD i 0 * y i) = fun i => en (A1S (A0v w P).length w K) ((A0v w P).getD j 0) i * y i := rfl;have g5 : p ∣ dotN (A0v w P).length ((A1S (A0v w P).length w K).getD ((A0v w P).getD j 0) []) y - en (A1S (A0v w P).length w K) ((A0v w P).getD j 0) j * y j := A1G hj fun i hi hne => by
           have := A1Z r k hi hj;rw [if_neg (Ne.symm hne), Int.sub_zero] at this;have e : ((A1S (A0v w P).length w K).getD ((A0v w P).getD j 0) []).getD i 0 = en K i ((A0v w P).getD j 0) := A2L hi f1;rw [e];exact Int.dvd_mul_of_dvd_left this
         rw [A2L hj f1] at g5;have g6 := A1Z r k hj hj;rw [if_pos rfl] at g6;have g7 : p ∣ (en K j ((A0v w P).getD j 0) - 1) * y j := Int.dvd_mul_of_dvd_left g6;rw [Int.sub_mul, Int.one_mul] at g7;have := Int.dvd_add g5 g7
         rwa [show ∀ a b c : Int, a - b + (b - c) = a - c by omega] at this
       exact (A0T g4).1 g3).1
   simpa using this
 omega
theorem A3a {p : Int} {h w : Nat} {E : List (List Int)} {P : List Int} (r : Rref p h w w E P) (x : Nat -> Int) : Null p w (E.take P.length) x ↔ Null p w E x := by
 have hl := r.len;have ho := r.ok.len;have hg : ∀ i, i < P.length -> (E.take P.length).getD i [] = E.getD i [] := fun i hi => by simp [List.getD_eq_getElem?_getD, hi]
 constructor
 . intro hx i hi;by_cases hr : i < P.length
   . have := hx i (by rw [List.length_take]; omega)
     rwa [hg i hr] at this
   . have z : ∀ j, j < w -> en E i j = 0 := r.low i (by omega) (by omega);have e1 : dotN w (E.getD i []) x = 0 := A0R fun k hk => by have := z k hk; unfold en at this; rw [this, Int.zero_mul]
     rw [e1]; exact Int.dvd_zero p
 . intro hx i hi;rw [List.length_take] at hi;rw [hg i (by omega)];exact hx i (by omega)
def A0l (p : Int) (w : Nat) (R : List (List Int)) : List (List Int) := (gjN p w R w).1.take (rk p w R)
theorem A1z {p : Int} {h w : Nat} {R : List (List Int)} (hp : A0C p) (o : RowsOk p h w R) : (A0l p w R).length = rk p w R := by
 obtain ⟨r, _⟩ := A0G hp o w (Nat.le_refl _);unfold A0l;rw [List.length_take, r.ok.len];have := r.len;unfold rk; omega
theorem A1p {p : Int} {h w : Nat} {R : List (List Int)} (hp : A0C p) (o : RowsOk p h w R) (x : Nat -> Int) : Null p w (A0l p w R) x ↔ Null p w R x := by
 obtain ⟨r, hn⟩ := A0G hp o w (Nat.le_refl _);exact (A3a r x).trans (hn x)
theorem A2p {p : Int} {h h' w : Nat} {R T : List (List Int)} (hp : A0C p) (o : RowsOk p h w R) (o' : RowsOk p h' w T) : A0l p w R = A0l p w T ↔ ∀ x, Null p w R x ↔ Null p w T x := by
 constructor
 . intro e x;rw [<- A1p hp o, <- A1p hp o', e]
 . intro hs;obtain ⟨r, hn⟩ := A0G hp o w (Nat.le_refl _);obtain ⟨r', hn'⟩ := A0G hp o' w (Nat.le_refl _);obtain ⟨e1, e2⟩ := A3e hp.1.1 r r' fun x => (hn x).trans ((hs x).trans (hn' x).symm);unfold A0l rk;rw [<- e1];exact e2
theorem A2t (w : Nat) (r s : List Int) : dotN w r (fun q => s.getD q 0) = dotN w s (fun q => r.getD q 0) := A0q fun _ _ => Int.mul_comm _ _
theorem A3M {p : Int} {a n c : Nat} {Rf Tf Rg K : List (List Int)} (hp : A0C p) (oR : RowsOk p n a Rf) (oT : RowsOk p a n Tf) (ht : ∀ i j, i < n -> j < a -> en Tf j i = en Rf i j) (og : RowsOk p c n Rg)
   (k : KerOk p n (gjN p n Rg n).1 (gjN p n Rg n).2 K) :
   A0l p n Tf = A0l p n K ↔ (∀ i j, i < c -> j < a -> p ∣ dotN n (Rg.getD i []) (fun q => en Rf q j)) /\ rk p a Rf + rk p n Rg = n := by
 obtain ⟨r, hn⟩ := A0G hp og n (Nat.le_refl _);have hk := ker_rk hp r k;have hfl := A3R r;have hrk : rk p n Rg = (gjN p n Rg n).2.length := rfl;have h1 := A2l hp oR oT ht;have h2 := A2l hp oT oR fun i j hi hj => (ht j i hj hi).symm;have hdot : ∀ i j, i < c -> j < a -> dotN n (Rg.getD i []) (fun q => en Rf q j) = dotN n (Rg.getD i []) (fun q => (Tf.getD j []).getD q 0) := fun i j hi hj => A0q fun q hq => by
   have : en Tf j q = en Rf q j := ht q j hq hj;show (Rg.getD i []).getD q 0 * en Rf q j = (Rg.getD i []).getD q 0 * en Tf j q;rw [this]
 constructor
 . intro e;have hs := (A2p hp oT k.ok).1 e;have hlen := congrArg List.length e;rw [A1z hp oT, A1z hp k.ok] at hlen;refine ⟨fun i j hi hj => ?_, by omega⟩;rw [hdot i j hi hj, A2t];refine (hs (fun q => (Rg.getD i []).getD q 0)).2 (fun l hl => ?_) j (by rw [oT.len]; exact hj);rw [k.ok.len] at hl;rw [A2t];exact (hn _).1 (A3v r k hl) i (by rw [og.len]; exact hi)
 . rintro ⟨hz, hr⟩;refine (A2p hp oT k.ok).2 ?_;have h3 : ∀ x, Null p n K x -> Null p n Tf x := fun x hx j hj => by
     rw [oT.len] at hj;have hv : Null p n (gjN p n Rg n).1 (fun q => (Tf.getD j []).getD q 0) := (hn _).2 fun i hi => by
       rw [og.len] at hi;rw [<- hdot i j hi hj]; exact hz i j hi hj
     exact ker_ann r k hx hv
   obtain ⟨rK, hnK⟩ := A0G hp k.ok n (Nat.le_refl _);obtain ⟨rT, hnT⟩ := A0G hp oT n (Nat.le_refl _);have h4 := A3X rK rT hp.1.1 (fun x hx => (hnT x).2 (h3 x ((hnK x).1 hx))) (by
     have e1 : rk p n K = (gjN p n K n).2.length := rfl;have e2 : rk p n Tf = (gjN p n Tf n).2.length := rfl;omega)
   exact fun x => ⟨fun hx => (hnK x).1 (h4 x ((hnT x).2 hx)), h3 x⟩
theorem Ag8.val (xs : List Int) (h : xs.length ≤ 1048576) : Ag8.F (xs, ()) = some ((xs, ()), ()) := by
 rw [Ag8.eq, Ag8.T];have hb : ([] : List Int).length + xs.length ≤ bigA := by simp only [List.length_nil, bigA]; omega
 by_cases h0 : 0 < xs.length
 . rw [if_pos h0, if_pos hb]; rfl
 . have : xs = [] := List.eq_nil_of_length_eq_zero (by omega);subst this;rw [if_neg h0];exact b2O rfl (by rw [if_pos hb]; rfl)
theorem Ah5.val (xs : List (List Int)) (h : SmL xs) : Ah5.F (xs, ()) = some ((xs, ()), ()) := by
 have hn := h.1;refine Ah5.of _ ?_;obtain ⟨s, hs, hg⟩ := Goes.loop (R := ((List (List Int) × Unit) × Unit)) (fun k i (x : List (List Int)) => Ah5.l3 k xs (xs.length : Int) (i : Int) x) xs.length (fun i x => x = xs.take i) (fun i x hi h2 => ⟨_, rfl, Goes.succ fun k => by
   rw [Ah5.l3_eq, if_pos (ltI.2 hi), if_pos (idxI.2 hi)];simp only [Int.toNat_natCast, Ag8.val _ (h.2 _ (A0z [] hi)), Option.bind_some];rw [if_pos (by rw [h2]; simp only [List.length_take, List.length_cons, List.length_nil, bigA]; omega), A0y (by omega), h2, List.take_add_one, List.getElem?_eq_getElem hi, Option.toList_some, A0x hi]⟩) 0 [] (Nat.zero_le _) rfl
 rw [List.take_of_length_le (Nat.le_refl _)] at hs;refine Ev.of_eq (hg _ ((Ev.const _).succ fun k => ?_)) fun k => rfl;rw [Ah5.l3_eq, if_neg (by simp), hs]
def A0d (R C : Nat) (g : Nat -> Nat -> Int) : List Int := (List.range R).flatMap fun i => (List.range C).map (g i)
theorem A1N (R C : Nat) (g : Nat -> Nat -> Int) : A0d (R + 1) C g = A0d R C g ++ (List.range C).map (g R) := by simp [A0d, List.range_succ]
theorem A0k (R C : Nat) (g : Nat -> Nat -> Int) : (A0d R C g).length = R * C := by
 induction R with
 | zero => simp [A0d]
 | succ R ih => rw [A1N, List.length_append, ih, List.length_map, List.length_range, Nat.add_mul, Nat.one_mul]
theorem A1s (R C : Nat) (g : Nat -> Nat -> Int) {i j : Nat} (hi : i < R) (hj : j < C) : (A0d R C g).getD (i * C + j) 0 = g i j := by
 induction R with
 | zero => omega
 | succ R ih =>
   rw [A1N];by_cases h : i < R
   . have hlt : i * C + j < (A0d R C g).length := by
       rw [A0k];have := Nat.mul_le_mul_right C (show i + 1 ≤ R by omega);rw [Nat.add_mul, Nat.one_mul] at this; omega
     rw [List.getD_eq_getElem?_getD, List.getElem?_append_left hlt, <- List.getD_eq_getElem?_getD];exact ih h
   . obtain rfl : i = R := by omega
     rw [List.getD_eq_getElem?_getD, List.getElem?_append_right (by rw [A0k]; omega), A0k, show i * C + j - i * C = j by omega, List.getElem?_map, List.getElem?_range hj];rfl
theorem A4y (R C : Nat) (g : Nat -> Nat -> Int) (hR : R ≤ 32) (hC : C ≤ 32) : (A0d R C g).length ≤ 1024 := by
 rw [A0k]; exact Nat.mul_le_mul hR hC
theorem Ad1.val (p : Int) (R C : Nat) (f : Int × Int × Unit -> Option (Int × Unit)) (g : Nat -> Nat -> Int) (hR : R ≤ 32) (hC : C ≤ 32) (hf : ∀ i j, i < R -> j < C -> f ((i : Int), (j : Int), ()) = some (g i j, ())) :
   Ad1.F (p, (R : Int), (C : Int), f, ()) = some (((p, (R : Int), (C : Int), A0d R C g), ()), ()) := by
 refine Ad1.of _ _ _ _ ?_;obtain ⟨s, hs, hg⟩ := Goes.loop (R := ((MatV × Unit) × Unit)) (fun k i (s : List Int) => Ad1.l3 k (C : Int) f (R : Int) (i : Int) 0 0 0 [] p (R : Int) (C : Int) s) R (fun i s => s = A0d i C g) (fun i s hi h2 => by
   refine ⟨_, rfl, (Goes.succ fun k => by rw [Ad1.l3_eq, if_pos (ltI.2 hi)]).trans ?_⟩;obtain ⟨s2, hs2, hg2⟩ := Goes.loop (R := ((MatV × Unit) × Unit)) (fun k j (x : List Int) => Ad1.l6 k (C : Int) f (i : Int) (R : Int) (i : Int) (C : Int) (j : Int) 0 0 0 [] p (R : Int) (C : Int) x) C (fun j x => x = A0d i C g ++ (List.range j).map (g i)) (fun j x hj h3 => ⟨_, rfl, Goes.succ fun k => by
     rw [Ad1.l6_eq, if_pos (ltI.2 hj), hf i j hi hj];simp only [Option.bind_some];have := A4y i C g (by omega) hC;rw [if_pos (by rw [h3]; simp only [List.length_append, List.length_map, List.length_range, List.length_cons, List.length_nil, bigA]; omega), A0y (by omega), h3, List.range_succ, List.map_append, List.append_assoc];rfl⟩) 0 s (Nat.zero_le _) (by simp [h2])
   refine hg2.trans (Goes.succ fun k => ?_);rw [Ad1.l6_eq, if_neg (by simp), A0y (by omega), hs2, A1N]) 0 [] (Nat.zero_le _) rfl
 refine Ev.of_eq (hg _ ((Ev.const _).succ fun k => ?_)) fun k => rfl;rw [Ad1.l3_eq, if_neg (by simp), hs]
def A0r (m : MatV) : MatV := (m.1, m.2.2.1, m.2.1, A0d m.2.2.1.toNat m.2.1.toNat fun i j => m.2.2.2.getD (j * m.2.2.1.toNat + i) 0)
theorem A1h {r c i j : Nat} (hr : r ≤ 32) (hc : c ≤ 32) (hi : i < r) (hj : j < c) : IntKind.i64.wrap (IntKind.i64.wrap ((i : Int) * (c : Int)) + (j : Int)) = ((i * c + j : Nat) : Int) /\ i * c + j < r * c := by
 have h1 : i * c ≤ 32 * 32 := Nat.mul_le_mul (by omega) hc;have e : (i : Int) * (c : Int) = ((i * c : Nat) : Int) := by simp
 have h2 := Nat.mul_le_mul_right c (show i + 1 ≤ r by omega);rw [Nat.add_mul, Nat.one_mul] at h2;refine ⟨?_, by omega⟩;rw [e, A0w (x := ((i * c : Nat) : Int)) (by omega) (by omega), A0w (by omega) (by omega)];omega
theorem Al4.val (m : MatV) (h : MatOk m) : Al4.F (m, ()) = some ((A0r m, ()), ()) := by
 obtain ⟨p, r, c, xs⟩ := m;obtain ⟨-, hr, hc, hl, -⟩ := h;obtain ⟨r, rfl⟩ := Int.eq_ofNat_of_zero_le hr.1;obtain ⟨c, rfl⟩ := Int.eq_ofNat_of_zero_le hc.1;have hl' : xs.length = r * c := by
   have e : (r : Int) * (c : Int) = ((r * c : Nat) : Int) := by simp
   have hl2 : (xs.length : Int) = (r : Int) * (c : Int) := hl;omega
 have hr' : r ≤ 32 := by have := hr.2; simp only [] at this; omega
 have hc' : c ≤ 32 := by have := hc.2; simp only [] at this; omega
 rw [Al4.eq, Al4.T, Ad1.val p c r _ (fun i j => xs.getD (j * c + i) 0) hc' hr' (fun i j hi hj => by
   show (An8.F ((i : Int), (j : Int), (p, (r : Int), (c : Int), xs), ())).map (·.1) = _;obtain ⟨e1, e2⟩ := A1h hr' hc' hj hi;rw [An8.eq, An8.T, An2.eq, An2.T, e1, if_pos (by omega)];simp only [Option.bind_some, Int.toNat_natCast];rfl)]
 rfl
theorem A4F {m : MatV} (h : MatOk m) : MatOk (A0r m) := by
 obtain ⟨p, r, c, xs⟩ := m;obtain ⟨hp, hr, hc, hl, ha⟩ := h;obtain ⟨r, rfl⟩ := Int.eq_ofNat_of_zero_le hr.1;obtain ⟨c, rfl⟩ := Int.eq_ofNat_of_zero_le hc.1;refine ⟨hp, hc, hr, ?_, ?_⟩
 . show ((A0d c r _).length : Int) = (c : Int) * (r : Int);rw [A0k]; simp
 . intro a ham;simp only [A0r, A0d, List.mem_flatMap, List.mem_map, List.mem_range, Int.toNat_natCast] at ham;obtain ⟨i, hi, j, hj, rfl⟩ := ham;have hr' : r ≤ 32 := by have := hr.2; simp only [] at this; omega
   have hc' : c ≤ 32 := by have := hc.2; simp only [] at this; omega
   obtain ⟨-, e2⟩ := A1h hr' hc' hj hi;have hl2 : (xs.length : Int) = (r : Int) * (c : Int) := hl;have e : (r : Int) * (c : Int) = ((r * c : Nat) : Int) := by simp
   have hl3 : xs.length = r * c := by rw [e] at hl2; exact Int.ofNat_inj.1 hl2
   exact ha _ (A0z 0 (by rw [hl3]; exact e2))
theorem A4z {R C : Nat} {g : Nat -> Nat -> Int} {ys : List Int} (hl : ys.length = R * C) (h : ∀ i j, i < R -> j < C -> ys.getD (i * C + j) 0 = g i j) : ys = A0d R C g := by
 refine List.ext_getElem (by rw [hl, A0k]) fun n h1 h2 => ?_;rw [<- A0x (d := 0) h1, <- A0x (d := 0) h2];by_cases hC : C = 0
 . subst hC; rw [hl] at h1; omega
 have hn : n < R * C := by omega
 have hi : n / C < R := Nat.div_lt_of_lt_mul (by rw [Nat.mul_comm]; exact hn);have hj : n % C < C := Nat.mod_lt _ (by omega);have e : n / C * C + n % C = n := by rw [Nat.mul_comm]; exact Nat.div_add_mod n C
 rw [<- e, h _ _ hi hj, A1s _ _ _ hi hj]
theorem MatOk.nat {m : MatV} (h : MatOk m) : ∃ R C : Nat, m.2.1 = (R : Int) /\ m.2.2.1 = (C : Int) /\ R ≤ 32 /\ C ≤ 32 /\ m.2.2.2.length = R * C /\ (2 ≤ m.1 /\ m.1 ≤ 251) /\ A0S 0 (m.1 - 1) m.2.2.2 := by
 obtain ⟨p, r, c, xs⟩ := m;obtain ⟨hp, hr, hc, hl, ha⟩ := h;obtain ⟨r, rfl⟩ := Int.eq_ofNat_of_zero_le hr.1;obtain ⟨c, rfl⟩ := Int.eq_ofNat_of_zero_le hc.1;have hl2 : (xs.length : Int) = (r : Int) * (c : Int) := hl;have e : (r : Int) * (c : Int) = ((r * c : Nat) : Int) := by simp
 have hr2 : (r : Int) ≤ 32 := hr.2;have hc2 : (c : Int) ≤ 32 := hc.2;exact ⟨r, c, rfl, rfl, by omega, by omega, by rw [e] at hl2; exact Int.ofNat_inj.1 hl2, hp.1, ha⟩
def rowL (xs : List Int) (C i : Nat) : List Int := (xs.take ((i + 1) * C)).drop (i * C)
theorem A0P {xs : List Int} {R C i : Nat} (hl : xs.length = R * C) (hi : i < R) : (rowL xs C i).length = C := by
 have h2 := Nat.mul_le_mul_right C (show i + 1 ≤ R by omega);have e : (i + 1) * C = i * C + C := by rw [Nat.add_mul, Nat.one_mul]
 simp only [rowL, List.length_drop, List.length_take];omega
theorem A0X {xs : List Int} {C i k : Nat} (hk : k < C) : (rowL xs C i).getD k 0 = xs.getD (i * C + k) 0 := by
 have e : (i + 1) * C = i * C + C := by rw [Nat.add_mul, Nat.one_mul]
 simp only [rowL, List.getD_eq_getElem?_getD, List.getElem?_drop, List.getElem?_take];rw [if_pos (by omega)]
theorem A2H {xs : List Int} {C i : Nat} {x : Int} (h : x ∈ rowL xs C i) : x ∈ xs := List.mem_of_mem_take (List.mem_of_mem_drop h)
theorem rowWrap {R C i : Nat} (hR : R ≤ 1024) (hC : C ≤ 1024) (hi : i < R) : IntKind.i64.wrap ((i : Int) * (C : Int)) = ((i * C : Nat) : Int) /\ IntKind.i64.wrap ((IntKind.i64.wrap ((i : Int) + 1)) * (C : Int)) = (((i + 1) * C : Nat) : Int) /\ i * C ≤ (i + 1) * C /\ (i + 1) * C ≤ R * C := by
 have h1 : (i + 1) * C ≤ 1024 * 1024 := Nat.mul_le_mul (by omega) hC;have h0 : i * C ≤ (i + 1) * C := Nat.mul_le_mul_right C (by omega);have e : (i : Int) * (C : Int) = ((i * C : Nat) : Int) := by simp
 have e2 : ((i + 1 : Nat) : Int) * (C : Int) = (((i + 1) * C : Nat) : Int) := by simp
 refine ⟨?_, ?_, h0, Nat.mul_le_mul_right C (by omega)⟩
 . rw [e, A0w (by omega) (by omega)]
 . rw [A0y (by omega), e2, A0w (by omega) (by omega)]
theorem Af9.val (p : Int) (R C : Nat) (xs : List Int) (hR : R ≤ 1024) (hC : C ≤ 1024) (hl : xs.length = R * C) (i : Nat) (hi : i < R) (r : Int) : Af9.F ((p, r, (C : Int), xs), (i : Int), ()) = some ((rowL xs C i, ()), ()) := by
 obtain ⟨e1, e2, e3, e4⟩ := rowWrap hR hC hi;rw [Af9.eq, Af9.T, e1, e2, if_pos (by omega)];simp only [cutL, Int.toNat_natCast, rowL]
def A0J (xs : List Int) (R C : Nat) : List (List Int) := (List.range R).map (rowL xs C)
theorem Ae1.val (p : Int) (R C : Nat) (xs : List Int) (hR : R ≤ 1024) (hC : C ≤ 1024) (hl : xs.length = R * C) : Ae1.F ((p, (R : Int), (C : Int), xs), ()) = some ((A0J xs R C, ()), ()) := by
 refine Ae1.of _ _ _ _ ?_;obtain ⟨s, hs, hg⟩ := Goes.loop (R := ((List (List Int) × Unit) × Unit)) (fun k i (s : List (List Int)) => Ae1.l3 k (R : Int) (i : Int) p (R : Int) (C : Int) xs s) R (fun i s => s = (List.range i).map (rowL xs C)) (fun i s hi h2 => ⟨_, rfl, Goes.succ fun k => by
   have hrl := A0P hl hi;rw [Ae1.l3_eq, if_pos (ltI.2 hi), Af9.val p R C xs hR hC hl i hi];simp only [Option.bind_some];rw [Ag8.val _ (by omega)];simp only [Option.bind_some];rw [if_pos (by rw [h2]; simp only [List.length_map, List.length_range, List.length_cons, List.length_nil, bigA]; omega), A0y (by omega), h2, List.range_succ, List.map_append];rfl⟩) 0 [] (Nat.zero_le _) rfl
 refine Ev.of_eq (hg _ ((Ev.const _).succ fun k => ?_)) fun k => rfl;rw [Ae1.l3_eq, if_neg (by simp), hs]; rfl
theorem A0h (xs : List Int) {R C i : Nat} (hi : i < R) : (A0J xs R C).getD i [] = rowL xs C i := by
 simp [A0J, List.getD_eq_getElem?_getD, hi]
theorem A2V (xs : List Int) (R C : Nat) : (A0J xs R C).length = R := by simp [A0J]
theorem A3E : ∀ (h w : Nat) (xs : List Int), xs.length = h * w -> (A0J xs h w).flatten = xs := by
 intro h w xs hl;have key : ∀ i, i ≤ h -> ((List.range i).map (rowL xs w)).flatten = xs.take (i * w) := by
   intro i;induction i with
   | zero => intro _; simp
   | succ i ih =>
     intro hi;have e : (i + 1) * w = i * w + w := by rw [Nat.add_mul, Nat.one_mul]
     rw [List.range_succ, List.map_append, List.flatten_append, ih (by omega)];simp only [List.map_cons, List.map_nil, List.flatten_cons, List.flatten_nil, List.append_nil, rowL];have h1 : xs.take (i * w) = (xs.take ((i + 1) * w)).take (i * w) := by rw [List.take_take]; congr 1; omega
     rw [h1, List.take_append_drop]
 have := key h (Nat.le_refl _);rw [A0J, this, <- hl, List.take_length]
theorem A2I {m : MatV} (h : MatOk m) {R C : Nat} (hr : m.2.1 = (R : Int)) (hc : m.2.2.1 = (C : Int)) (hl : m.2.2.2.length = R * C) : RowsOk m.1 R C (A0J m.2.2.2 R C) := by
 refine ⟨by simp [A0J], fun r hr' => ?_⟩;unfold A0J at hr';obtain ⟨i, hi, rfl⟩ := List.mem_map.1 hr';exact ⟨A0P hl (List.mem_range.1 hi), fun x hx => h.2.2.2.2 x (A2H hx)⟩
def A1F (m : MatV) : Nat := (gjN m.1 m.2.2.1.toNat (A0J m.2.2.2 m.2.1.toNat m.2.2.1.toNat) m.2.2.1.toNat).2.length
theorem A2U {m : MatV} (h : MatOk m) : ∃ R C : Nat, m.2.1 = (R : Int) /\ m.2.2.1 = (C : Int) /\ R ≤ 32 /\ C ≤ 32 /\ m.2.2.2.length = R * C /\ (2 ≤ m.1 /\ m.1 ≤ 251) /\ RowsOk m.1 R C (A0J m.2.2.2 R C) /\ A1F m = (gjN m.1 C (A0J m.2.2.2 R C) C).2.length := by
 obtain ⟨R, C, hr, hc, hR, hC, hl, hp, ha⟩ := h.nat;exact ⟨R, C, hr, hc, hR, hC, hl, hp, A2I h hr hc hl, by rw [A1F, hr, hc]; rfl⟩
theorem A3q {m : MatV} (h : MatOk m) : A1F m ≤ 32 := by
 obtain ⟨R, C, hr, hc, hR, hC, hl, hp, o, hrk⟩ := A2U h;have hle := (A3S hp.1 o C).2;omega
theorem Aj7.val {m : MatV} (h : MatOk m) : Aj7.F (m, ()) = some ((((A1F m : Nat) : Int), ()), ()) := by
 obtain ⟨R, C, hr, hc, hR, hC, hl, hp, o, hrk⟩ := A2U h;obtain ⟨d2, e2⟩ := Aa0.val hp (by omega) (by omega) o;rw [A3E R C _ hl] at e2;have hle := (A3S hp.1 o C).2;obtain ⟨p, r, c, xs⟩ := m;obtain rfl : r = (R : Int) := hr;obtain rfl : c = (C : Int) := hc;rw [Aj7.eq, Aj7.T, e2, hrk]; rfl
def mulM (a b : MatV) : MatV := (a.1, a.2.1, b.2.2.1, A0d a.2.1.toNat b.2.2.1.toNat fun i j => sumN (fun k => a.2.2.2.getD (i * a.2.2.1.toNat + k) 0 * b.2.2.2.getD (k * b.2.2.1.toNat + j) 0) a.2.2.1.toNat % a.1)
theorem A2D {a b : MatV} (ha : MatOk a) (hb : MatOk b) : MatOk (mulM a b) := by
 obtain ⟨R, C, h1, h2, h3, h4, h5, h6, h7⟩ := ha.nat;obtain ⟨R', C', k1, k2, k3, k4, k5, k6, k7⟩ := hb.nat;refine ⟨ha.1, ha.2.1, hb.2.2.1, ?_, fun x hx => ?_⟩
 . simp only [mulM, A0k, h1, k2, Int.toNat_natCast]; simp
 . simp only [mulM, A0d, List.mem_flatMap, List.mem_map] at hx;obtain ⟨i, _, j, _, rfl⟩ := hx;exact A1i h6.1
theorem Ae9.val (p : Int) (R C : Nat) (xs : List Int) (hm : MatOk (p, (R : Int), (C : Int), xs)) : Ae9.F ((p, (R : Int), (C : Int), xs), ()) = some ((A0J (A0r (p, (R : Int), (C : Int), xs)).2.2.2 C R, ()), ()) := by
 have hR : (R : Int) ≤ 32 := hm.2.1.2;have hC : (C : Int) ≤ 32 := hm.2.2.1.2;have ht := Al4.val _ hm;rw [Ae9.eq, Ae9.T, ht];simp only [Option.bind_some];have := Ae1.val p C R (A0r (p, (R : Int), (C : Int), xs)).2.2.2 (by omega) (by omega) (by simp only [A0r, A0k, Int.toNat_natCast]);rw [show A0r (p, (R : Int), (C : Int), xs) = (p, (C : Int), (R : Int), (A0r (p, (R : Int), (C : Int), xs)).2.2.2) from rfl, this];rfl
theorem A1n (p : Int) (R C : Nat) (xs : List Int) {i j : Nat} (hi : i < C) (hj : j < R) : (A0r (p, (R : Int), (C : Int), xs)).2.2.2.getD (i * R + j) 0 = xs.getD (j * C + i) 0 := by
 simp only [A0r, Int.toNat_natCast];rw [A1s _ _ _ hi hj]
theorem Ab7.val (a b : MatV) (ha : MatOk a) (hb : MatOk b) (hp : a.1 = b.1) (hs : a.2.2.1 = b.2.1) : Ab7.F (a, b, ()) = some ((mulM a b, ()), ()) := by
 obtain ⟨R, C, h1, h2, h3, h4, h5, h6, h7⟩ := ha.nat;obtain ⟨R', C', k1, k2, k3, k4, k5, k6, k7⟩ := hb.nat;obtain ⟨p, r, c, xs⟩ := a;obtain ⟨q, r', c', ys⟩ := b;simp only [] at h1 h2 h5 h6 h7 k1 k2 k5 k6 k7 hp hs;subst h1 h2 k1 k2 hp;obtain rfl : C = R' := by omega
 have htk := A4F hb;have hal : A0S 0 (p - 1) (A0r (p, (C : Int), (C' : Int), ys)).2.2.2 := htk.2.2.2.2;rw [Ab7.eq, Ab7.T, Ae9.val p C C' ys hb];simp only [Option.bind_some];rw [Ad1.val p R C' _ (fun i j => sumN (fun k => xs.getD (i * C + k) 0 * ys.getD (k * C' + j) 0) C % p) h3 k4 (fun i j hi hj => by
   show (An6.F ((i : Int), (j : Int), (p, (R : Int), (C : Int), xs), A0J (A0r (p, (C : Int), (C' : Int), ys)).2.2.2 C' C, ())).map (·.1) = _;have l1 := A0P h5 hi;have l2 : (rowL (A0r (p, (C : Int), (C' : Int), ys)).2.2.2 C j).length = C := A0P (R := C') (by simp only [A0r, A0k, Int.toNat_natCast]) hj;rw [An6.eq, An6.T, Af9.val p R C xs (by omega) (by omega) h5 i hi];simp only [Option.bind_some, Int.toNat_natCast];rw [if_pos (by rw [A2V]; omega), A0h _ hj, Aj0.val _ _ p h6 (fun x hx => h7 x (A2H hx)) (fun x hx => hal x (A2H hx)) (by omega) (by omega)];simp only [Option.bind_some, Option.map_some, l1];congr 3;refine A0q fun k hk => ?_;rw [dotE, A0X hk, A0X hk, A1n p C C' ys hj hk])]
 simp only [Option.bind_some, mulM, Int.toNat_natCast]
theorem Am2.val (p : Int) (R C : Nat) (hR : R ≤ 1024) (hC : C ≤ 1024) : Am2.F (p, (R : Int), (C : Int), ()) = some (((p, (R : Int), (C : Int), List.replicate (R * C) 0), ()), ()) := by
 have h1 : R * C ≤ 1024 * 1024 := Nat.mul_le_mul hR hC;have e : (R : Int) * (C : Int) = ((R * C : Nat) : Int) := by simp
 rw [Am2.eq, Am2.T, e, A0w (by omega) (by omega), if_pos (by simp only [bigN]; omega)];simp only [Int.toNat_natCast]
theorem Aa1.val (a b : MatV) (ha : MatOk a) (hb : MatOk b) (hp : a.1 = b.1) (hs : a.2.2.1 = b.2.1) : Aa1.F (a, b, ()) = some ((mulM a b, ()), ()) := by
 obtain ⟨R, C, h1, h2, h3, h4, h5, h6, h7⟩ := ha.nat;obtain ⟨R', C', k1, k2, k3, k4, k5, k6, k7⟩ := hb.nat;obtain ⟨p, r, c, xs⟩ := a;obtain ⟨q, r', c', ys⟩ := b;simp only [] at h1 h2 h5 h6 h7 k1 k2 k5 k6 k7 hp hs;subst h1 h2 k1 k2 hp;obtain rfl : C = R' := by omega
 obtain ⟨f, hf⟩ : ∃ f : Nat -> Nat -> Nat -> Int, f = fun i j k => xs.getD (i * C + k) 0 * ys.getD (k * C' + j) 0 := ⟨_, rfl⟩;have hfb : ∀ i j k, i < R -> j < C' -> k < C -> 0 ≤ f i j k /\ f i j k ≤ ((62500 : Nat) : Int) := fun i j k hi hj hk => by
   rw [hf];have e1 := rowLt hi hk;have e2 := rowLt hk hj;exact A1r h6 (A0F h7 (by omega)) (A0F k7 (by omega))
 have hsb : ∀ i j n, i < R -> j < C' -> n ≤ C -> 0 ≤ sumN (f i j) n /\ sumN (f i j) n ≤ 2000000 := fun i j n hi hj hn => by
   have := sumN_bd (f := f i j) (n := n) fun k hk => hfb i j k hi hj (by omega);omega
 obtain ⟨y, hy1, hy2, -, hg⟩ := Goes.fillSet (R := ((MatV × Unit) × Unit)) (fun k i x => Aa1.l3 k p (R : Int) (C : Int) xs p (C : Int) (C' : Int) ys (i : Int) 0 0 0 [] p (R : Int) (C' : Int) x)
   (fun k i j x => Aa1.l6 k p (R : Int) (C : Int) xs p (C : Int) (C' : Int) ys (i : Int) (j : Int) 0 0 0 [] p (R : Int) (C' : Int) x) R C' (R * C') (fun i j => sumN (f i j) C % p) (fun i j => i * C' + j)
   (fun i j hi hj => rowLt hi hj) (fun i j i' j' _ hj _ hj' he => rowInj _ _ _ _ hj hj' he)
   (fun i x hi hx => Goes.succ fun k => by rw [Aa1.l3_eq, if_pos (ltI.2 hi)]; rfl)
   (fun i j x hi hj hx => by
     refine (Goes.succ fun k => by rw [Aa1.l6_eq, if_pos (ltI.2 hj)]).trans ?_;obtain ⟨s, hs, hg⟩ := Goes.loop (R := ((MatV × Unit) × Unit)) (fun n k (s : Int) => Aa1.l10 n p (R : Int) (C : Int) xs p (C : Int) (C' : Int) ys (i : Int) (j : Int) s (k : Int) 0 0 0 [] p (R : Int) (C' : Int) x) C (fun k s => s = sumN (f i j) k) (fun k s hk h8 => ⟨_, rfl, Goes.succ fun n => by
       obtain ⟨e1, e2⟩ := A1h h3 h4 hi hk;obtain ⟨e3, e4⟩ := A1h h4 k4 hk hj;have b1 := hfb i j k hi hj hk;have b2 := hsb i j k hi hj (by omega);rw [Aa1.l10_eq, if_pos (ltI.2 hk), e1, if_pos (by omega), e3, if_pos (by omega), A0y (by omega), h8];simp only [Int.toNat_natCast];have ef : xs.getD (i * C + k) 0 * ys.getD (k * C' + j) 0 = f i j k := by rw [hf]
       rw [ef, A0w (x := f i j k) (by omega) (by omega), A0w (by omega) (by omega)];rfl⟩) 0 0 (Nat.zero_le _) rfl
     refine hg.trans (Goes.succ fun n => ?_);obtain ⟨e5, e6⟩ := A1h h3 k4 hi hj;have b2 := hsb i j C hi hj (Nat.le_refl _);rw [Aa1.l10_eq, if_neg (by simp), if_neg (by omega), e5, if_pos (by omega), A0y (by omega), hs, A2X b2.1];simp only [Int.toNat_natCast])
   (fun i x hi hx => Goes.succ fun k => by rw [Aa1.l6_eq, if_neg (by simp), A0y (by omega)]) (List.replicate (R * C') 0) (by simp)
 have hy : y = A0d R C' fun i j => sumN (fun k => xs.getD (i * C + k) 0 * ys.getD (k * C' + j) 0) C % p := A4z hy1 fun i j hi hj => by rw [hy2 i j hi hj, hf]
 refine Aa1.of _ _ _ _ _ _ _ _ (Ev.of_eq (hg _ ((Ev.const _).succ fun k => ?_)) fun k => ?_)
 . rw [Aa1.l3_eq, if_neg (by simp), hy]; simp only [mulM, Int.toNat_natCast]
 . rw [Aa1.T, Am2.val p R C' (by omega) (by omega)]; rfl
theorem Ab2.same (xs ys : List Int) (h : Sm xs) : ∃ b, Ab2.F (xs, ys, ()) = some ((b, ()), ()) /\ (b = true ↔ xs = ys) := by
 have hn : xs.length ≤ 1048576 := h;by_cases hl : xs.length = ys.length
 . obtain ⟨b, hb, hb'⟩ := A0Y (fun k i => Ab2.l4 k xs ys (i : Int)) xs ys 0 hl (fun i hi => ⟨xs.getD i 0 == ys.getD i 0, by simp, fun k => by
     rw [Ab2.l4_eq, if_pos (ltI.2 hi), if_pos (idxI.2 hi), if_pos (idx2 (hl ▸ hi))]; simp only [Int.toNat_natCast]; rw [A0y (by omega)]; rfl⟩) (fun k => by rw [Ab2.l4_eq, if_neg (by simp)])
   exact ⟨b, Ab2.of _ _ (hb.of_eq fun k => by rw [Ab2.T, if_neg (by simp [hl])]; rfl), hb'⟩
 . exact ⟨false, Ab2.of _ _ ((Ev.const _).of_eq fun k => by rw [Ab2.T, if_pos (by simp; omega)]), by simp; intro e; exact hl (by rw [e])⟩
theorem Aa6.same (xs ys : List Int) (h : Sm xs) : ∃ b, Aa6.F (xs, ys, ()) = some ((b, ()), ()) /\ (b = true ↔ xs = ys) := by
 have hn : xs.length ≤ 1048576 := h;by_cases hl : xs.length = ys.length
 . obtain ⟨b, hb, hb'⟩ := A0Y (fun k i => Aa6.l4 k xs ys xs.length (i : Int)) xs ys 0 hl (fun i hi => ⟨xs.getD i 0 == ys.getD i 0, by simp, fun k => by
     rw [Aa6.l4_eq, if_pos (ltI.2 hi), if_pos (idxI.2 hi), if_pos (idx2 (hl ▸ hi))]; simp only [Int.toNat_natCast]; rw [A0y (by omega)]; rfl⟩) (fun k => by rw [Aa6.l4_eq, if_neg (by simp)])
   exact ⟨b, Aa6.of _ _ (hb.of_eq fun k => by rw [Aa6.T, if_neg (by simp [hl])]; rfl), hb'⟩
 . exact ⟨false, Aa6.of _ _ ((Ev.const _).of_eq fun k => by rw [Aa6.T, if_pos (by simp; omega)]), by simp; intro e; exact hl (by rw [e])⟩
theorem Ak3.val (xs : List Int) (n : Int) (hn : xs.length < 4611686018427387904) : Ak3.F (xs, n, ()) = some ((decide (n ∈ xs), ()), ()) := by
 obtain ⟨v, hv, hv'⟩ := Ev.loop (σ := Unit) (R := (Int × Unit) × Unit) (fun k i _ => Am6.l2 k xs n xs.length (i : Int)) xs.length (fun i _ => ∀ j, j < i -> xs.getD j 0 ≠ n) (fun r => ∃ q : Int, r = ((q, ()), ()) /\ decide (q ≥ 0) = decide (n ∈ xs))
   (fun i s hi hI => by
     have E := fun k => Am6.l2_eq k xs n xs.length (i : Int);simp only [if_pos (ltI.2 hi), if_pos (idxI.2 hi), Int.toNat_natCast, A0y (show i < 4611686018427387904 by omega)] at E;by_cases h : n = xs.getD i 0
     . exact .inl ⟨_, (Ev.const _).succ fun k => by rw [E, if_pos (by simp only [← h, beq_self_eq_true])], _, rfl, by
         have : n ∈ xs := h ▸ A0z 0 hi;simp [this]⟩
     . refine .inr ⟨(), fun j hj => ?_, Goes.succ fun k => by rw [E, if_neg (by simp only [beq_iff_eq]; exact h)]⟩;by_cases hji : j = i
       . rw [hji]; exact fun e => h e.symm
       . exact hI j (by omega))
   (fun s hI => ⟨_, (Ev.const _).succ fun k => by rw [Am6.l2_eq, if_neg (by simp)], _, rfl, by
     have : n ∉ xs := fun hm => by
       obtain ⟨j, hj, e⟩ := List.getElem_of_mem hm;exact hI j hj (by rw [A0x hj]; exact e)
     simp [this]⟩) 0 () (Nat.zero_le _) (by intro j hj; omega)
 obtain ⟨q, rfl, hq⟩ := hv';rw [Ak3.eq, Ak3.T, Am6.of _ _ (hv.of_eq fun k => rfl)];simp only [Option.bind_some, hq]
theorem RowsOk.small {p : Int} {h w : Nat} {R : List (List Int)} (o : RowsOk p h w R) (hh : h ≤ 4096) (hw : w ≤ 256) : SmL R := ⟨by rw [o.len]; omega, fun r hr => by have := (o.row r hr).1; unfold Sm; omega⟩
theorem Ah7.val {p : Int} {h w : Nat} (hp : A0C p) (hh : h ≤ 4096) (hw : w ≤ 256) {R : List (List Int)} (o : RowsOk p h w R) : Ah7.F (p, (w : Int), R, ()) = some (((p, (w : Int), A0l p w R), ()), ()) := by
 obtain ⟨det, he⟩ := Aa9.val hp.1 hh hw o;obtain ⟨r, hn⟩ := A0G hp o w (Nat.le_refl _);have hl := r.len;have ho := r.ok.len;have hsm : SmL (A0l p w R) := ⟨by rw [A1z hp o]; unfold rk; omega, fun x hx => by
   have := (r.ok.row x (List.mem_of_mem_take hx)).1; unfold Sm; omega⟩
 rw [Ah7.eq, Ah7.T, Ah5.val R (o.small hh hw)];simp only [Option.bind_some, he];rw [if_pos (by omega)];have e : cutL (gjN p w R w).1 0 (((gjN p w R w).2.length : Nat) : Int) = A0l p w R := by
   unfold cutL A0l rk; simp
 rw [e, Ah5.val _ hsm]; rfl
theorem Ad6.val (a b : List (List Int)) (ha : SmL a) (hb : SmL b) : ∃ v, Ad6.F (a, b, ()) = some ((v, ()), ()) /\ (v = true ↔ a = b) := by
 rw [Ad6.eq, Ad6.T];by_cases hl : a.length = b.length
 . have hn := ha.1;obtain ⟨v, hv, hv'⟩ := Ev.allP (L := fun k i => Ac5.l4 k b (Aa6.cloG (())) a (a.length : Int) (i : Int)) (a := ()) (b := ()) (n := a.length) (fun i => a.getD i [] = b.getD i []) true (fun i hi => by
     obtain ⟨c, hc, hc'⟩ := Aa6.same (a.getD i []) (b.getD i []) (ha.2 _ (A0z [] hi));have hcl : Aa6.cloG (()) (a.getD i [], b.getD i [], ()) = some (c, ()) := by
       show (Aa6.F (a.getD i [], b.getD i [], ())).map (·.1) = _;rw [hc]; rfl
     have E := fun k => Ac5.l4_eq k b (Aa6.cloG (())) a (a.length : Int) (i : Int);simp only [if_pos (ltI.2 hi), if_pos (idxI.2 hi), if_pos (idxI.2 (show i < b.length by omega)), Int.toNat_natCast, hcl, Option.bind_some, A0y (show i < 4611686018427387904 by omega)] at E;cases c with
     | true => exact .inl ⟨hc'.1 rfl, fun k => by rw [E, if_neg (by simp)]⟩
     | false => exact .inr ⟨fun h => absurd (hc'.2 h) (by simp), fun k => by rw [E, if_pos (by simp)]⟩) ((Ev.const _).succ fun k => by rw [Ac5.l4_eq, if_neg (by simp)]) 0 (Nat.zero_le _)
   have hF : Ac5.F (a, b, Aa6.cloG (()), ()) = some ((v, ()), ()) := Ac5.of _ _ _ (hv.of_eq fun k => by rw [Ac5.T, if_neg (by simp [hl])]; rfl);refine ⟨v, by rw [hF]; rfl, hv'.trans ⟨fun ⟨_, h⟩ => ?_, fun h => ⟨rfl, fun i _ _ => by rw [h]⟩⟩⟩;refine List.ext_getElem hl fun i h1 h2 => ?_;have := h i (Nat.zero_le _) h1
   rwa [A0x h1, A0x h2] at this
 . have hF : Ac5.F (a, b, Aa6.cloG (()), ()) = some ((false, ()), ()) := Ac5.of _ _ _ ((Ev.const _).of_eq fun k => by
     rw [Ac5.T, if_pos (by simp only [bne_iff_ne, ne_eq]; omega)])
   exact ⟨false, by rw [hF]; rfl, by simp; intro h; exact hl (by rw [h])⟩
theorem Af1.val {p n : Int} (hp : 2 ≤ p /\ p ≤ 251) : Af1.F (n, p, ()) = some ((n % p, ()), ()) := by
 rw [Af1.eq, Af1.T, if_neg (by omega), if_neg (by omega), A3W hp]
structure KRow (p : Int) (w : Nat) (E : List (List Int)) (P : List Int) (c : Nat) (x : List Int) : Prop where
 len : x.length = w
 inn : A0S 0 (p - 1) x
 one : x.getD c 0 = 1
 piv : ∀ k, k < P.length -> x.getD (pv P k) 0 = (0 - en E k c) % p
 zer : ∀ q, q < w -> q ≠ c -> (q : Int) ∉ P -> x.getD q 0 = 0
theorem A1O (n : Nat) (P : List Int) : A0v (n + 1) P = A0v n P ++ (if (n : Int) ∈ P then [] else [n]) := by
 unfold A0v;rw [List.range_succ, List.filter_append];by_cases h : (n : Int) ∈ P <;> simp [h]
theorem A4j {p : Int} {h w : Nat} {E : List (List Int)} {P : List Int} (hp : 2 ≤ p) (r : Rref p h w w E P) {K : List (List Int)} (hl : K.length = (A0v w P).length) (hk : ∀ l, l < K.length -> KRow p w E P ((A0v w P).getD l 0) (K.getD l [])) : KerOk p w E P K := by
 refine ⟨⟨hl, fun x hx => ?_⟩, fun i hi q hq => ?_⟩
 . obtain ⟨l, hl2, rfl⟩ := List.getElem_of_mem hx;rw [<- A0x (d := []) hl2];exact ⟨(hk l hl2).len, (hk l hl2).inn⟩
 . have k := hk i (by omega);obtain ⟨f1, f2⟩ := A2e hi;by_cases hqp : (q : Int) ∈ P
   . obtain ⟨l, hl2, rfl⟩ := (A0W r q).1 hqp;rw [A2u r f1 f2 hl2];show p ∣ (K.getD i []).getD (pv P l) 0 - _;rw [k.piv l hl2, show - en E l ((A0v w P).getD i 0) = 0 - en E l ((A0v w P).getD i 0) by omega];exact A2A _ _
   . rw [A0o r _ hqp];show p ∣ (K.getD i []).getD q 0 - _;by_cases e : q = (A0v w P).getD i 0
     . rw [e, k.one, dl, if_pos rfl]; exact Int.dvd_zero p
     . rw [k.zer q hq e hqp, dl, if_neg e]; exact Int.dvd_zero p
theorem Ad9.val {m : MatV} (h : MatOk m) {R C : Nat} (hr : m.2.1 = (R : Int)) (hc : m.2.2.1 = (C : Int)) :
   ∃ K, Ad9.F (m, ()) = some ((K, ()), ()) /\ KerOk m.1 C (gjN m.1 C (A0J m.2.2.2 R C) C).1 (gjN m.1 C (A0J m.2.2.2 R C) C).2 K := by
 obtain ⟨R', C', hr', hc', hR, hC, hl, hp, ha⟩ := h.nat;obtain rfl : R' = R := by omega
 obtain rfl : C' = C := by omega
 have hpr := h.1;have o := A2I h hr hc hl;obtain ⟨det, he⟩ := Aa9.val hp (by omega) (by omega) o;have e0 := Ae1.val m.1 R' C' m.2.2.2 (by omega) (by omega) hl;obtain ⟨r, hn⟩ := A0G hpr o C' (Nat.le_refl _);have hlP := r.len;generalize (gjN m.1 C' (A0J m.2.2.2 R' C') C').1 = E at *;generalize (gjN m.1 C' (A0J m.2.2.2 R' C') C').2 = P at *;obtain ⟨p, mr, mc, xs⟩ := m;obtain rfl : mr = (R' : Int) := hr;obtain rfl : mc = (C' : Int) := hc;simp only at he e0 hp hpr r;have hfl : ∀ i, (A0v i P).length ≤ i := fun i => by
   unfold A0v; exact Nat.le_trans (List.length_filter_le _ _) (by simp)
 obtain ⟨K, ⟨hK1, hK2⟩, hg⟩ := Goes.loop (R := (List (List Int) × Unit) × Unit) (fun k i (s : List (List Int)) => Ad9.l5 k (C' : Int) (i : Int) p (R' : Int) (C' : Int) xs E P s) C' (fun i s => s.length = (A0v i P).length /\ ∀ l, l < s.length -> KRow p C' E P ((A0v i P).getD l 0) (s.getD l [])) (fun i s hi ⟨h1, h2⟩ => by
   by_cases hip : (i : Int) ∈ P
   . refine ⟨s, by rw [A1O, if_pos hip, List.append_nil]; exact ⟨h1, h2⟩, Goes.succ fun k => ?_⟩;rw [Ad9.l5_eq, if_pos (ltI.2 hi), Ak3.val P _ (by omega)];simp only [Option.bind_some];rw [if_pos (by simpa using hip), A0y (by omega)]
   . have hz : ∀ q, (List.replicate C' (0 : Int)).getD q 0 = 0 := fun q => by
       simp only [List.getD_eq_getElem?_getD, List.getElem?_replicate]; split <;> rfl
     have gs : ∀ (l : List Int) (q : Nat) (v : Int) (s : Nat), q < l.length -> (l.set q v).getD s 0 = if s = q then v else l.getD s 0 := fun l q v s hq => by
       simp only [List.getD_eq_getElem?_getD, List.getElem?_set];by_cases hqs : q = s
       . subst hqs; simp [hq]
       . simp [hqs, Ne.symm hqs]
     have hne : ∀ k, k < P.length -> pv P k ≠ i := fun k hk e => hip ((A0W r i).2 ⟨k, hk, e⟩);obtain ⟨x, ⟨x1, x2, x3, x4, x5⟩, hg2⟩ := Goes.loop (R := (List (List Int) × Unit) × Unit) (fun k j (x : List Int) => Ad9.l11 k (i : Int) (C' : Int) (i : Int) (P.length : Int) (j : Int) p (R' : Int) (C' : Int) xs E P s x) P.length (fun j x => x.length = C' /\ A0S 0 (p - 1) x /\ x.getD i 0 = 1 /\ (∀ k, k < j -> x.getD (pv P k) 0 = (0 - en E k i) % p) /\ ∀ q, q < C' -> q ≠ i -> (q : Int) ∉ P -> x.getD q 0 = 0) (fun j x hj ⟨y1, y2, y3, y4, y5⟩ => by
       have hjr := r.inr j hj;have hjw := r.pw hj;have hjE : j < E.length := by rw [r.ok.len]; omega
       have hrow := (r.ok.at (i := j) (by omega)).1;have hcell := r.ok.cell (i := j) (by omega) i hi;have hpvj : (P.getD j 0).toNat = pv P j := rfl;refine ⟨x.set (pv P j) ((0 - en E j i) % p), ⟨by simp [y1], fun z hz2 => (List.mem_or_eq_of_mem_set hz2).elim (y2 z) fun e => e ▸ (A1i hp.1), ?_, fun k hk => ?_, fun q hq hqi hqp => ?_⟩, Goes.succ fun k => ?_⟩
       . rw [gs _ _ _ _ (by omega), if_neg (Ne.symm (hne j hj))]; exact y3
       . rw [gs _ _ _ _ (by omega)];by_cases e : pv P k = pv P j
         . rw [if_pos e, r.inj (show k < P.length by omega) hj e]
         . rw [if_neg e];have : k ≠ j := fun e2 => e (by rw [e2]);exact y4 k (by omega)
       . rw [gs _ _ _ _ (by omega), if_neg (fun e => hqp ((A0W r q).2 ⟨j, hj, e.symm⟩))]; exact y5 q hq hqi hqp
       . rw [Ad9.l11_eq, if_pos (ltI.2 hj), if_pos (idxI.2 hj), if_pos (idxI.2 hjE)];simp only [Int.toNat_natCast];have hcell : 0 ≤ (E.getD j []).getD i 0 /\ (E.getD j []).getD i 0 ≤ p - 1 := hcell;rw [if_pos (by rw [hrow]; omega), A0w (x := 0 - (E.getD j []).getD i 0) (by omega) (by omega), Af1.val hp];simp only [Option.bind_some];rw [if_pos (by rw [y1]; omega), A0y (by omega), hpvj]) 0 ((List.replicate C' (0 : Int)).set i 1) (Nat.zero_le _) ⟨by simp, fun z hz2 => (List.mem_or_eq_of_mem_set hz2).elim (fun hz3 => by rw [List.eq_of_mem_replicate hz3]; omega) fun e => by rw [e]; omega, by rw [gs _ _ _ _ (by simpa using hi), if_pos rfl], fun k hk => by omega, fun q hq hqi _ => by rw [gs _ _ _ _ (by simpa using hi), if_neg hqi, hz]⟩
     refine ⟨s ++ [x], ⟨by rw [A1O, if_neg hip]; simp [h1], fun l hl2 => ?_⟩, (Goes.succ fun k => ?_).trans (hg2.trans (Goes.succ fun k => ?_))⟩
     . rw [A1O, if_neg hip];by_cases hls : l < s.length
       . have a1 : (s ++ [x]).getD l [] = s.getD l [] := by simp [List.getD_eq_getElem?_getD, List.getElem?_append_left hls]
         have a2 : (A0v i P ++ [i]).getD l 0 = (A0v i P).getD l 0 := by simp [List.getD_eq_getElem?_getD, List.getElem?_append_left (show l < (A0v i P).length by omega)]
         rw [a1, a2]; exact h2 l hls
       . have hle : l = s.length := by simp at hl2; omega
         have a1 : (s ++ [x]).getD l [] = x := by rw [hle]; simp [List.getD_eq_getElem?_getD]
         have a2 : (A0v i P ++ [i]).getD l 0 = i := by rw [hle, h1]; simp [List.getD_eq_getElem?_getD]
         rw [a1, a2]; exact ⟨x1, x2, x3, x4, x5⟩
     . rw [Ad9.l5_eq, if_pos (ltI.2 hi), Ak3.val P _ (by omega)];simp only [Option.bind_some];rw [if_neg (by simpa using hip), if_pos (by simp only [bigN]; omega), if_pos (by simp; omega)];simp only [Int.toNat_natCast]; rfl
     . have := hfl i;rw [Ad9.l11_eq, if_neg (by simp), if_pos (by simp only [List.length_cons, List.length_nil, bigA]; omega), A0y (by omega)]) 0 [] (Nat.zero_le _) ⟨by simp [A0v], by simp⟩
 refine ⟨K, Ad9.of _ _ _ _ (Ev.of_eq (hg _ ((Ev.const _).succ fun k => ?_)) fun k => ?_), A4j hp.1 r hK1 hK2⟩
 . rw [Ad9.l5_eq, if_neg (by simp)]
 . rw [Ad9.T, e0];simp only [Option.bind_some, he]; rfl
def lexc : List Int -> List Int -> Int
 | [], [] => 0
 | [], _ :: _ => -1
 | _ :: _, [] => 1
 | a :: u, b :: v => if cmpI a b ≠ 0 then cmpI a b else lexc u v
theorem A0B (x y : Int) : (x < y /\ cmpI x y = -1) ∨ (x = y /\ cmpI x y = 0) ∨ (y < x /\ cmpI x y = 1) := by
 unfold cmpI;by_cases h : x < y
 . exact .inl ⟨h, if_pos h⟩
 . by_cases h2 : x > y
   . exact .inr (.inr ⟨h2, by rw [if_neg h, if_pos h2]⟩)
   . exact .inr (.inl ⟨by omega, by rw [if_neg h, if_neg h2]⟩)
theorem A2P : ∀ (a b : List Int), lexc a b = 0 ↔ a = b
 | [], [] => by simp [lexc]
 | [], _ :: _ => by simp [lexc]
 | _ :: _, [] => by simp [lexc]
 | a :: u, b :: v => by
   rcases A0B a b with ⟨h, e⟩ | ⟨h, e⟩ | ⟨h, e⟩
   . simp [lexc, e]; intro h'; omega
   . subst h; simp [lexc, e, A2P u v]
   . simp [lexc, e]; intro h'; omega
theorem A1t : ∀ (a b c : List Int), lexc a b < 0 -> lexc b c < 0 -> lexc a c < 0
 | [], [], c, h1, _ => by simp [lexc] at h1
 | [], _ :: _, [], _, h2 => by simp [lexc] at h2
 | [], _ :: _, _ :: _, _, _ => by simp [lexc]
 | _ :: _, [], c, h1, _ => by simp [lexc] at h1
 | _ :: _, _ :: _, [], _, h2 => by simp [lexc] at h2
 | a :: u, b :: v, c :: w, h1, h2 => by
   have ih := A1t u v w;simp only [lexc] at h1 h2 ⊢;rcases A0B a b with ⟨g1, e1⟩ | ⟨g1, e1⟩ | ⟨g1, e1⟩ <;> rcases A0B b c with ⟨g2, e2⟩ | ⟨g2, e2⟩ | ⟨g2, e2⟩ <;> rcases A0B a c with ⟨g3, e3⟩ | ⟨g3, e3⟩ | ⟨g3, e3⟩ <;> simp [e1, e2, e3] at h1 h2 ⊢ <;> first | omega | exact ih h1 h2
def cmpS (a b : List Int) : Int := if cmpI a.length b.length ≠ 0 then cmpI a.length b.length else lexc a b
theorem A0Q (a b : List Int) : cmpS a b = 0 ↔ a = b := by
 unfold cmpS;rcases A0B a.length b.length with ⟨h, e⟩ | ⟨h, e⟩ | ⟨h, e⟩
 . simp [e]; intro h'; rw [h'] at h; omega
 . simp [e, A2P]
 . simp [e]; intro h'; rw [h'] at h; omega
theorem A1x (a b c : List Int) (h1 : cmpS a b < 0) (h2 : cmpS b c < 0) : cmpS a c < 0 := by
 unfold cmpS at *;rcases A0B a.length b.length with ⟨g1, e1⟩ | ⟨g1, e1⟩ | ⟨g1, e1⟩ <;> rcases A0B b.length c.length with ⟨g2, e2⟩ | ⟨g2, e2⟩ | ⟨g2, e2⟩ <;> rcases A0B a.length c.length with ⟨g3, e3⟩ | ⟨g3, e3⟩ | ⟨g3, e3⟩ <;> simp [e1, e2, e3] at h1 h2 ⊢ <;> first | omega | exact A1t a b c h1 h2
theorem A3A {a b : List Int} (h : a.length < b.length) : cmpS a b < 0 := by
 unfold cmpS;rcases A0B a.length b.length with ⟨g, e⟩ | ⟨g, e⟩ | ⟨g, e⟩
 . simp [e]
 . omega
 . omega
theorem Ak4.val (x y : Int) : Ak4.F (x, y, ()) = some ((cmpI x y, ()), ()) := by
 rw [Ak4.eq, Ak4.T, Ak6.eq, Ak6.T, Ak6.eq, Ak6.T];simp only [Option.bind_some, bne_self_eq_false, Bool.false_eq_true, if_false, decide_eq_true_eq, cmpI]
 repeat' split
 all_goals rfl
theorem A2O {a b : List Int} {i : Nat} (ha : i < a.length) (hb : i < b.length) : lexc (a.drop i) (b.drop i) = if cmpI (a.getD i 0) (b.getD i 0) ≠ 0 then cmpI (a.getD i 0) (b.getD i 0) else lexc (a.drop (i + 1)) (b.drop (i + 1)) := by
 rw [List.drop_eq_getElem_cons ha, List.drop_eq_getElem_cons hb, A0x ha, A0x hb]; rfl
theorem Ai7.val (a b : List Int) (ha : a.length ≤ 1048576) (hb : b.length ≤ 1048576) : Ai7.F (a, b, ()) = some ((lexc a b, ()), ()) := by
 obtain ⟨r, hr, hq⟩ := Ev.loop (σ := Unit) (R := (Int × Unit) × Unit) (fun k i _ => Ai7.l2 k a b a a.length (i : Int)) a.length (fun i _ => i ≤ b.length /\ lexc a b = lexc (a.drop i) (b.drop i)) (fun r => r = ((lexc a b, ()), ()))
   (fun i s hi ⟨h1, h2⟩ => by
     have E := fun k => Ai7.l2_eq k a b a a.length (i : Int);simp only [if_pos (ltI.2 hi), if_pos (idxI.2 hi), Int.toNat_natCast, A0y (show i < 4611686018427387904 by omega)] at E;by_cases hib : i < b.length
     . simp only [if_neg (show ¬ decide ((i : Int) ≥ (b.length : Int)) = true by simp; omega), if_pos (idxI.2 hib), Ak5.val, Option.bind_some] at E;have hd := A2O hi hib;obtain ⟨cc, hcc⟩ : ∃ cc, cmpI (a.getD i 0) (b.getD i 0) = cc := ⟨_, rfl⟩;rw [hcc] at hd;simp only [hcc] at E;by_cases hc : cc = 0
       . refine .inr ⟨(), ⟨by omega, by rw [h2, hd, if_neg (by simp [hc])]⟩, Goes.succ fun k => by rw [E, if_neg (by simp [hc])]⟩
       . exact .inl ⟨_, (Ev.const _).succ fun k => by rw [E, if_pos (by simp [hc])], by rw [h2, hd, if_pos hc]⟩
     . refine .inl ⟨_, (Ev.const _).succ fun k => by rw [E, if_pos (by simp; omega)], ?_⟩;rw [h2, List.drop_eq_getElem_cons hi, List.drop_of_length_le (show b.length ≤ i by omega)]; rfl)
   (fun s ⟨h1, h2⟩ => by
     by_cases hl : a.length < b.length
     . refine ⟨_, (Ev.const _).succ fun k => by rw [Ai7.l2_eq, if_neg (by simp), if_pos (by simp; omega)], ?_⟩;rw [h2, List.drop_of_length_le (Nat.le_refl _), List.drop_eq_getElem_cons hl]; rfl
     . refine ⟨_, (Ev.const _).succ fun k => by rw [Ai7.l2_eq, if_neg (by simp), if_neg (by simp; omega)], ?_⟩;rw [h2, List.drop_of_length_le (Nat.le_refl _), List.drop_of_length_le (by omega)]; rfl) 0 () (Nat.zero_le _) ⟨Nat.zero_le _, rfl⟩
 subst hq;exact Ai7.of _ _ (hr.of_eq fun k => rfl)
theorem Ad0.val (a b : List Int) (ha : a.length ≤ 1048576) (hb : b.length ≤ 1048576) : Ad0.F (a, b, ()) = some ((cmpS a b, ()), ()) := by
 rw [Ad0.eq, Ad0.T, Ak4.val, Ai7.val a b ha hb];simp only [Option.bind_some, Ah4.val2, cmpS]
theorem Ah1.val (a b : List Int) (ha : a.length ≤ 1048576) : Ah1.F (a, b, ()) = some ((decide (cmpS a b < 0), ()), ()) := by
 by_cases hl : a.length = b.length
 . obtain ⟨r, hr, hq⟩ := Ev.loop (σ := Unit) (R := (Bool × Unit) × Unit) (fun k i _ => Ah1.l4 k a b (i : Int)) a.length (fun i _ => lexc a b = lexc (a.drop i) (b.drop i)) (fun r => r = ((decide (lexc a b < 0), ()), ()))
     (fun i s hi h2 => by
       have hib : i < b.length := by omega
       have E := fun k => Ah1.l4_eq k a b (i : Int);simp only [if_pos (ltI.2 hi), if_pos (idxI.2 hi), if_pos (idxI.2 hib), Int.toNat_natCast, A0y (show i < 4611686018427387904 by omega)] at E;have hd := A2O hi hib;obtain ⟨ai, hai⟩ : ∃ ai, a.getD i 0 = ai := ⟨_, rfl⟩;obtain ⟨bi, hbi⟩ : ∃ bi, b.getD i 0 = bi := ⟨_, rfl⟩;rw [hai, hbi] at hd;simp only [hai, hbi] at E;rcases A0B ai bi with ⟨g, e⟩ | ⟨g, e⟩ | ⟨g, e⟩
       . refine .inl ⟨_, (Ev.const _).succ fun k => by rw [E, if_pos (by simp; omega)], ?_⟩;rw [h2, hd, if_pos (by rw [e]; omega), e]; simp [g]
       . exact .inr ⟨(), by rw [h2, hd, if_neg (by rw [e]; simp)], Goes.succ fun k => by rw [E, if_neg (by simp [g])]⟩
       . refine .inl ⟨_, (Ev.const _).succ fun k => by rw [E, if_pos (by simp; omega)], ?_⟩;rw [h2, hd, if_pos (by rw [e]; omega), e]; simp; omega)
     (fun s h2 => ⟨_, (Ev.const _).succ fun k => by rw [Ah1.l4_eq, if_neg (by simp)], by rw [h2, List.drop_of_length_le (Nat.le_refl _), List.drop_of_length_le (by omega)]; rfl⟩) 0 () (Nat.zero_le _) rfl
   subst hq;refine Ah1.of _ _ (hr.of_eq fun k => ?_) |>.trans ?_
   . rw [Ah1.T, if_neg (by simp [hl])]; rfl
   . have : cmpS a b = lexc a b := by
       unfold cmpS;rcases A0B a.length b.length with ⟨g, e⟩ | ⟨g, e⟩ | ⟨g, e⟩
       . omega
       . simp [e]
       . omega
     rw [this]
 . have : decide (cmpS a b < 0) = decide ((a.length : Int) < (b.length : Int)) := by
     unfold cmpS;rcases A0B a.length b.length with ⟨g, e⟩ | ⟨g, e⟩ | ⟨g, e⟩
     . simp [e]; omega
     . omega
     . simp [e]; omega
   rw [this];exact Ah1.of _ _ ((Ev.const _).of_eq fun k => by rw [Ah1.T, if_pos (by simp; omega)])
def A0u (xs : List (List Int)) : Prop := ∀ i j, i < j -> j < xs.length -> cmpS (xs.getD i []) (xs.getD j []) < 0
theorem A2v {xs : List (List Int)} (h : ∀ i, 0 < i -> i < xs.length -> cmpS (xs.getD (i - 1) []) (xs.getD i []) < 0) : A0u xs := by
 intro i j;induction j with
 | zero => intro h1; omega
 | succ j ih =>
   intro h1 h2;have h3 := h (j + 1) (by omega) h2;simp only [Nat.add_sub_cancel] at h3;by_cases hij : i = j
   . rw [hij]; exact h3
   . exact A1x _ _ _ (ih (by omega) (by omega)) h3
theorem wrapU {x : Int} (h1 : 0 ≤ x) (h2 : x < 18446744073709551616) : IntKind.u64.wrap x = x := by
 have e : (2 : Int) ^ (IntKind.u64).bits = 18446744073709551616 := by decide
 unfold IntKind.wrap;simp only [e, show IntKind.u64.signed = false from rfl, Bool.false_and, Bool.false_eq_true, if_false];omega
theorem midI {i j : Nat} (h : i + j < 4611686018427387904) : IntKind.i64.wrap ((IntKind.u64.wrap (IntKind.i64.wrap ((i : Int) + (j : Int)))).fdiv (2 ^ (min (1 : Int).toNat IntKind.u64.bits))) = (((i + j) / 2 : Nat) : Int) := by
 rw [A0w (x := (i : Int) + (j : Int)) (by omega) (by omega), wrapU (by omega) (by omega)];have e : (2 : Int) ^ (min (1 : Int).toNat IntKind.u64.bits) = ((2 : Nat) : Int) := by decide
 rw [e, show (i : Int) + (j : Int) = ((i + j : Nat) : Int) by omega, <- Int.ofNat_fdiv, A0w (by omega) (by omega)]
theorem binSearch.val (xs : List (List Int)) (t : List Int) (hs : A0u xs) (h1 : SmL xs) (h2 : t.length ≤ 1048576) :
   ∃ r : Int, ∃ b : Bool, Am1.F (xs, t, Ad0.cloG (()), ()) = some ((r, (b, ())), ()) /\ 0 ≤ r /\ (b = true ↔ t ∈ xs) /\ (b = true -> r.toNat < xs.length /\ xs.getD r.toNat [] = t) := by
 have hn := h1.1;have hcmp : ∀ i, i < xs.length -> Ad0.cloG (()) (xs.getD i [], t, ()) = some (cmpS (xs.getD i []) t, ()) := fun i hi => by
   show (Ad0.F (xs.getD i [], t, ())).map (·.1) = _;rw [Ad0.val _ _ (h1.2 _ (A0z _ hi)) h2]; rfl
 have key : ∀ d i j : Nat, j - i ≤ d -> i ≤ j -> j ≤ xs.length -> (∀ m, m < i -> cmpS (xs.getD m []) t < 0) -> (∀ m, j ≤ m -> m < xs.length -> ¬ cmpS (xs.getD m []) t < 0) →
     ∃ r : Int, ∃ b : Bool, Ev (fun k => Am1.l3 k xs t (Ad0.cloG (())) xs.length (i : Int) (j : Int)) ((r, (b, ())), ()) /\ 0 ≤ r /\ (b = true ↔ t ∈ xs) /\ (b = true -> r.toNat < xs.length /\ xs.getD r.toNat [] = t) := by
   intro d;induction d with
   | zero =>
     intro i j hd hij hj hlo hhi;obtain rfl : i = j := by omega
     have E := fun k => Am1.l3_eq k xs t (Ad0.cloG (())) xs.length (i : Int) (i : Int);simp only [if_neg (show ¬ decide ((i : Int) < (i : Int)) = true by simp)] at E;by_cases hi : i < xs.length
     . simp only [if_pos (ltI.2 hi), if_pos (idxI.2 hi), Int.toNat_natCast, hcmp i hi, Option.bind_some] at E;refine ⟨_, _, (Ev.const _).succ E, by omega, ?_, fun hb => ?_⟩
       rotate_left
       . simp only [beq_iff_eq, A0Q] at hb;rw [Int.toNat_natCast]; exact ⟨hi, hb⟩
       simp only [beq_iff_eq, A0Q];refine ⟨fun h => h ▸ A0z [] hi, fun h => ?_⟩;obtain ⟨m, hm, e⟩ := List.getElem_of_mem h;have e' : xs.getD m [] = t := by rw [A0x hm]; exact e
       rcases Nat.lt_trichotomy m i with h3 | h3 | h3
       . have := hlo m h3;rw [e', (A0Q t t).2 rfl] at this; omega
       . rw [<- h3]; exact e'
       . have := hs i m h3 hm;rw [e'] at this;exact absurd this (hhi i (Nat.le_refl _) hi)
     . simp only [if_neg (show ¬ decide ((i : Int) < (xs.length : Int)) = true by simp; omega)] at E;refine ⟨_, _, (Ev.const _).succ E, by omega, ?_, fun hb => by cases hb⟩;simp only [Bool.false_eq_true, false_iff];intro h;obtain ⟨m, hm, e⟩ := List.getElem_of_mem h;have e' : xs.getD m [] = t := by rw [A0x hm]; exact e
       have := hlo m (by omega);rw [e', (A0Q t t).2 rfl] at this; omega
   | succ d ih =>
     intro i j hd hij hj hlo hhi;by_cases he : i = j
     . exact ih i j (by omega) hij hj hlo hhi
     have E := fun k => Am1.l3_eq k xs t (Ad0.cloG (())) xs.length (i : Int) (j : Int);have hm : (i + j) / 2 < xs.length := by omega
     simp only [if_pos (show decide ((i : Int) < (j : Int)) = true by simp; omega), if_neg (show ¬ (1 : Int) < 0 by omega), midI (show i + j < 4611686018427387904 by omega), if_pos (idxI.2 hm), Int.toNat_natCast, hcmp _ hm, Option.bind_some, A0y (show (i + j) / 2 < 4611686018427387904 by omega)] at E;by_cases hc : cmpS (xs.getD ((i + j) / 2) []) t < 0
     . obtain ⟨r, b, hr, h⟩ := ih ((i + j) / 2 + 1) j (by omega) (by omega) hj (fun m hm2 => by
         by_cases h3 : m = (i + j) / 2
         . rw [h3]; exact hc
         . exact A1x _ _ _ (hs m ((i + j) / 2) (by omega) hm) hc) hhi
       exact ⟨r, b, hr.succ fun k => by rw [E, if_pos (by simpa using hc)], h⟩
     . obtain ⟨r, b, hr, h⟩ := ih i ((i + j) / 2) (by omega) (by omega) (by omega) hlo (fun m hm2 hm3 h4 => by
         by_cases h3 : m = (i + j) / 2
         . rw [h3] at h4; exact hc h4
         . exact hc (A1x _ _ _ (hs ((i + j) / 2) m (by omega) hm3) h4))
       exact ⟨r, b, hr.succ fun k => by rw [E, if_neg (by simpa using hc)], h⟩
 obtain ⟨r, b, hr, h⟩ := key xs.length 0 xs.length (by omega) (Nat.zero_le _) (Nat.le_refl _) (fun m hm => by omega) (fun m h3 h4 => by omega);exact ⟨r, b, Am1.of _ _ _ (hr.of_eq fun k => rfl), h⟩
theorem Ad2.val (xs : List (List Int)) (t : List Int) (hs : A0u xs) (h1 : SmL xs) (h2 : t.length ≤ 1048576) : ∃ r : Int, Ad2.F (xs, t, ()) = some ((r, ()), ()) /\ (r < 0 ↔ t ∉ xs) := by
 obtain ⟨r, b, hr, h3, h4, -⟩ := binSearch.val xs t hs h1 h2;rw [Ad2.eq, Ad2.T, hr];simp only [Option.bind_some];cases b with
 | true => exact ⟨r, by rw [if_neg (by simp)], by simp [h4.1 rfl]; omega⟩
 | false => exact ⟨-1, by rw [if_pos (by simp)], by simp; intro h; exact absurd (h4.2 h) (by simp)⟩
theorem A2j {xs : List (List Int)} (hs : A0u xs) {i j : Nat} (hi : i < xs.length) (hj : j < xs.length) (h : xs.getD i [] = xs.getD j []) : i = j := by
 rcases Nat.lt_trichotomy i j with h1 | h1 | h1
 . have := hs i j h1 hj;rw [h, (A0Q _ _).2 rfl] at this; omega
 . exact h1
 . have := hs j i h1 hi;rw [h, (A0Q _ _).2 rfl] at this; omega
theorem Ad2.val2 (xs : List (List Int)) (j : Nat) (hj : j < xs.length) (hs : A0u xs) (h1 : SmL xs) : Ad2.F (xs, xs.getD j [], ()) = some (((j : Int), ()), ()) := by
 obtain ⟨r, b, hr, h3, h4, h5⟩ := binSearch.val xs (xs.getD j []) hs h1 (h1.2 _ (A0z _ hj));have hb : b = true := h4.2 (A0z _ hj);obtain ⟨h6, h7⟩ := h5 hb;have := A2j hs h6 hj h7;rw [Ad2.eq, Ad2.T, hr, hb];simp only [Option.bind_some, Bool.not_true, Bool.false_eq_true, if_false];rw [show r = (j : Int) by omega]
def A0H (s : List Int) (k : Nat) : List Int := s.take k ++ s.drop (k + 1)
theorem A0n {s : List Int} {k : Nat} (h : k < s.length) : (A0H s k).length = s.length - 1 := by simp [A0H]; omega
def A1T (s : List Int) : Prop := (1 ≤ s.length /\ s.length ≤ 4) /\ A0S 0 9 s /\ A3K s
def CplxOk (c : List (List Int)) : Prop := c.length ≤ 48 /\ ∀ i, i < c.length -> A1T (c.getD i []) /\ (0 < i -> cmpS (c.getD (i - 1) []) (c.getD i []) < 0) /\ (1 < (c.getD i []).length -> ∀ k, k < (c.getD i []).length -> A0H (c.getD i []) k ∈ c)
theorem CplxOk.sorted {c : List (List Int)} (h : CplxOk c) : A0u c := A2v fun i h0 hi => (h.2 i hi).2.1 h0
theorem CplxOk.small {c : List (List Int)} (h : CplxOk c) : SmL c := ⟨by have := h.1; omega, fun x hx => by
 obtain ⟨j, hj, rfl⟩ := List.getElem_of_mem hx;have := (h.2 j hj).1.1.2;rw [A0x hj] at this;unfold Sm; omega⟩
theorem Ab6.val (c : List (List Int)) (s : List Int) (h : SmL c) : ∃ r : Int, Ab6.F (c, s, ()) = some ((r, ()), ()) /\ (r < 0 ↔ s ∉ c) := by
 have hn := h.1;obtain ⟨v, hv, r, hv', hr⟩ := Ev.loop (σ := Unit) (R := (Int × Unit) × Unit) (fun k i _ => Ab6.l2 k c s (i : Int)) c.length (fun i _ => ∀ j, j < i -> c.getD j [] ≠ s) (fun v => ∃ r : Int, v = ((r, ()), ()) /\ (r < 0 ↔ s ∉ c))
   (fun i _ hi hI => by
     have E := fun k => Ab6.l2_eq k c s (i : Int);obtain ⟨b, hb, hb'⟩ := Ab2.same (c.getD i []) s (h.2 _ (A0z _ hi));simp only [if_pos (ltI.2 hi), if_pos (idxI.2 hi), Int.toNat_natCast, hb, Option.bind_some, A0y (show i < 4611686018427387904 by omega)] at E;cases b with
     | true =>
       have hm : s ∈ c := hb'.1 rfl ▸ A0z [] hi;exact .inl ⟨_, (Ev.const _).succ fun k => by rw [E, if_pos rfl], _, rfl, by simp [hm]⟩
     | false =>
       refine .inr ⟨(), fun j hj => ?_, Goes.succ fun k => by rw [E, if_neg (by simp)]⟩;by_cases hji : j = i
       . rw [hji]; exact fun e => absurd (hb'.2 e) (by simp)
       . exact hI j (by omega))
   (fun _ hI => ⟨_, (Ev.const _).succ fun k => by rw [Ab6.l2_eq, if_neg (by simp)], _, rfl, by
     have : s ∉ c := fun hm => by
       obtain ⟨j, hj, e⟩ := List.getElem_of_mem hm;exact hI j hj (by rw [A0x hj]; exact e)
     simp [this]⟩) 0 () (Nat.zero_le _) (by intro j hj; omega)
 subst hv';exact ⟨r, Ab6.of _ _ (hv.of_eq fun k => rfl), hr⟩
theorem Ab6.val2 (c : List (List Int)) (n : Nat) (hn : n < c.length) (hs : A0u c) (h : SmL c) : Ab6.F (c, c.getD n [], ()) = some (((n : Int), ()), ()) := by
 have hl := h.1;obtain ⟨v, hv, hv'⟩ := Ev.loop (σ := Unit) (R := (Int × Unit) × Unit) (fun k i _ => Ab6.l2 k c (c.getD n []) (i : Int)) c.length (fun i _ => i ≤ n) (fun v => v = (((n : Int), ()), ()))
   (fun i _ hi hI => by
     have E := fun k => Ab6.l2_eq k c (c.getD n []) (i : Int);obtain ⟨b, hb, hb'⟩ := Ab2.same (c.getD i []) (c.getD n []) (h.2 _ (A0z _ hi));simp only [if_pos (ltI.2 hi), if_pos (idxI.2 hi), Int.toNat_natCast, hb, Option.bind_some, A0y (show i < 4611686018427387904 by omega)] at E;cases b with
     | true =>
       have := A2j hs hi hn (hb'.1 rfl);exact .inl ⟨_, (Ev.const _).succ fun k => by rw [E, if_pos rfl], by rw [this]⟩
     | false =>
       refine .inr ⟨(), ?_, Goes.succ fun k => by rw [E, if_neg (by simp)]⟩;have : i ≠ n := fun e => absurd (hb'.2 (by rw [e])) (by simp);omega)
   (fun _ hI => by omega) 0 () (Nat.zero_le _) (Nat.zero_le _)
 subst hv';exact Ab6.of _ _ (hv.of_eq fun k => rfl)
theorem cutA (s : List Int) (k : Nat) : cutL s (0 : Int) (k : Int) = s.take k := by simp [cutL]
theorem cutB (s : List Int) (k : Nat) : cutL s ((k : Nat) : Int) (s.length : Int) = s.drop k := by simp [cutL]
theorem Af4.val (s : List Int) (k : Nat) (hk : k < s.length) (hs : s.length ≤ 1048576) : Af4.F (s, (k : Int), ()) = some ((A0H s k, ()), ()) := by
 rw [Af4.eq, Af4.T, if_pos (by omega), cutA, Af2.eq, Af2.T, if_pos (by simp only [List.length_nil, List.length_take, bigA]; omega)];simp only [Option.bind_some];rw [A0y (by omega), if_pos (by omega), cutB, if_pos (by simp only [List.nil_append, List.length_take, List.length_drop, bigA]; omega)];rfl
theorem Ae4.val2 (a b : List Int) (ha : a.length ≤ 1048576) (hb : b.length ≤ 1048576) : Ae4.F ([a, b], ()) = some ((a ++ b, ()), ()) := by
 have w1 : IntKind.i64.wrap (0 + (a.length : Int)) = (a.length : Int) := by rw [A0w (by omega) (by omega)]; omega
 have w2 : IntKind.i64.wrap ((a.length : Int) + (b.length : Int)) = (a.length : Int) + (b.length : Int) := A0w (by omega) (by omega);have w3 : IntKind.i64.wrap ((0 : Int) + 1) = 1 := A0w (by omega) (by omega);have w4 : IntKind.i64.wrap ((1 : Int) + 1) = 2 := A0w (by omega) (by omega);refine Ae4.of _ ⟨6, fun k hk => ?_⟩;obtain ⟨k, rfl⟩ : ∃ j, k = j + 1 + 1 + 1 + 1 + 1 + 1 := ⟨k - 6, by omega⟩;show Ae4.T (k + 1 + 1 + 1 + 1 + 1 + 1) [a, b] = _;have e0 : ((([a, b] : List (List Int)).length : Nat) : Int) = 2 := rfl;rw [Ae4.T, e0, Ae4.l3_eq, if_pos (by decide), if_pos (by rw [e0]; decide)];simp only [Int.toNat_zero, List.getD_cons_zero, w1, w3];rw [if_neg (by simp only [decide_eq_true_eq]; omega), Ae4.l3_eq, if_pos (by decide), if_pos (by rw [e0]; decide)];simp only [show (1 : Int).toNat = 1 from rfl, List.getD_cons_succ, List.getD_cons_zero, w2, w4];rw [if_neg (by simp only [decide_eq_true_eq]; omega), Ae4.l3_eq, if_neg (by decide), if_pos (by simp only [bigN]; omega), e0, Ae4.l11_eq, if_pos (by decide), if_pos (by rw [e0]; decide)];simp only [Int.toNat_zero, List.getD_cons_zero, w3];rw [if_pos (by simp only [List.length_nil, bigA]; omega), Ae4.l11_eq, if_pos (by decide), if_pos (by rw [e0]; decide)];simp only [show (1 : Int).toNat = 1 from rfl, List.getD_cons_succ, List.getD_cons_zero, w4, List.nil_append];rw [if_pos (by simp only [bigA]; omega), Ae4.l11_eq, if_neg (by decide)]
def A0M (s : List Int) : List (List Int) := if 1 < s.length then (List.range s.length).map (A0H s) else []
theorem Ac2.val (s : List Int) (hs : s.length ≤ 1048576) : Ac2.F (s, ()) = some ((A0M s, ()), ()) := by
 by_cases h1 : 1 < s.length
 . obtain ⟨r, hr, hg⟩ := Goes.loop (R := (List (List Int) × Unit) × Unit) (fun k i (x : List (List Int)) => Ac2.l3 k s s.length (i : Int) x) s.length (fun i x => x = (List.range i).map (A0H s)) (fun i x hi hx => ⟨_, rfl, Goes.succ fun k => by
     rw [Ac2.l3_eq, if_pos (ltI.2 hi), if_pos (by simp; omega), if_pos (by omega), A0y (by omega), if_pos (by omega), cutA, cutB, Ae4.val2 _ _ (by simp; omega) (by simp; omega)];simp only [Option.bind_some];rw [if_pos (by rw [hx]; simp only [List.length_map, List.length_range, List.length_cons, List.length_nil, bigA]; omega), hx, List.range_succ, List.map_append];rfl⟩) 0 [] (Nat.zero_le _) rfl
   have : A0M s = r := by rw [A0M, if_pos h1, hr]
   rw [this];exact Ac2.of _ ((hg _ ((Ev.const _).succ fun k => by rw [Ac2.l3_eq, if_neg (by simp)])).of_eq fun k => rfl)
 . obtain ⟨r, hr, hg⟩ := Goes.loop (R := (List (List Int) × Unit) × Unit) (fun k i (x : List (List Int)) => Ac2.l3 k s s.length (i : Int) x) s.length (fun i x => x = []) (fun i x hi hx => ⟨_, hx, Goes.succ fun k => by
     rw [Ac2.l3_eq, if_pos (ltI.2 hi), if_neg (by simp; omega), A0y (by omega)]⟩) 0 [] (Nat.zero_le _) rfl
   have : A0M s = r := by rw [A0M, if_neg h1, hr]
   rw [this];exact Ac2.of _ ((hg _ ((Ev.const _).succ fun k => by rw [Ac2.l3_eq, if_neg (by simp)])).of_eq fun k => rfl)
theorem Al1.val (s : List Int) (hs : s.length ≤ 1048576) : ∃ v, Al1.F (s, ()) = some ((v, ()), ()) /\ (v = true ↔ A1T s) := by
 obtain ⟨v1, h1, h1'⟩ := Ag5.val s (by omega);have h2 := Ad4.val s (Am7.cloG (())) (fun a => !decide (0 ≤ a /\ a ≤ 9)) (fun a _ => by
   show (Am7.F (a, ())).map (·.1) = _;rw [Am7.eq, Am7.T, An5.eq, An5.T, Aa4.val]; rfl) (by omega)
 rw [Al1.eq, Al1.T, h1, h2];simp only [Option.bind_some];unfold A1T;by_cases g1 : 1 ≤ s.length
 . by_cases g2 : s.length ≤ 4
   . rw [if_pos (by simp; omega), if_pos (by simp; omega)];cases v1 with
     | true =>
       refine ⟨_, by rw [if_pos rfl], ?_⟩;have hr := h1'.1 rfl;simp only [Bool.not_eq_true', List.any_eq_false, Bool.not_eq_eq_eq_not, Bool.not_true, A0S, g1, g2, hr, and_self, and_true, true_and];simp
     | false => exact ⟨false, by rw [if_neg (by simp)], by simp; intro _ _ _ hr; exact absurd (h1'.2 hr) (by simp)⟩
   . exact ⟨false, by rw [if_pos (by simp; omega), if_neg (by simp; omega)], by simp; intro _ h; omega⟩
 . exact ⟨false, by rw [if_neg (by simp; omega)], by simp; intro h; omega⟩
theorem Am3.val (s : List Int) (hs : s.length ≤ 1048576) : ∃ v, Am3.F (s, ()) = some ((v, ()), ()) /\ (v = true ↔ A1T s) := by
 obtain ⟨v1, h1, h1'⟩ := Aj5.val s 0 9 (by omega);rw [Am3.eq, Am3.T, h1, Aa2.val];simp only [Option.bind_some];unfold A1T;by_cases g : 1 ≤ (s.length : Int) /\ (s.length : Int) ≤ 4
 . rw [if_pos (by simp only [decide_eq_true_eq]; exact g)];exact ⟨v1, rfl, h1'.trans ⟨fun h => ⟨by omega, h⟩, fun h => h.2⟩⟩
 . exact ⟨false, by rw [if_neg (by simp only [decide_eq_true_eq]; exact g)], by simp; intro a b; omega⟩
theorem Ab1.val (c : List (List Int)) (h : SmL c) : ∃ v, Ab1.F (c, ()) = some ((v, ()), ()) /\ (v = true ↔ CplxOk c) := by
 by_cases hn : c.length ≤ 48
 . obtain ⟨v, hv, hv'⟩ := Ev.loop (σ := Unit) (R := (Bool × Unit) × Unit) (fun k i _ => Ab1.l4 k c (i : Int)) c.length (fun i _ => ∀ j, j < i -> A1T (c.getD j []) /\ (0 < j -> cmpS (c.getD (j - 1) []) (c.getD j []) < 0) /\ (1 < (c.getD j []).length -> ∀ k, k < (c.getD j []).length -> A0H (c.getD j []) k ∈ c)) (fun r => ∃ v, r = ((v, ()), ()) /\ (v = true ↔ CplxOk c))
     (fun i _ hi hI => by
       have hsm : (c.getD i []).length ≤ 1048576 := h.2 _ (A0z _ hi);obtain ⟨s, hs⟩ : ∃ s, c.getD i [] = s := ⟨_, rfl⟩;have E := fun k => Ab1.l4_eq k c (i : Int);obtain ⟨b, hb, hb'⟩ := Am3.val s (hs ▸ hsm);rw [hs] at hsm;simp only [if_pos (ltI.2 hi), if_pos (idxI.2 hi), Int.toNat_natCast, hs, hb, Option.bind_some] at E;have bad : (¬ (A1T s /\ (0 < i -> cmpS (c.getD (i - 1) []) s < 0) /\ (1 < s.length -> ∀ k, k < s.length -> A0H s k ∈ c))) -> ∃ v, (((false, ()), ()) : (Bool × Unit) × Unit) = ((v, ()), ()) /\ (v = true ↔ CplxOk c) := fun hno => ⟨false, rfl, by simp; intro hc; exact hno (by have := hc.2 i hi; rw [hs] at this; exact this)⟩;cases b with
       | false => exact .inl ⟨_, (Ev.const _).succ fun k => by rw [E]; rfl, bad fun hc => absurd (hb'.2 hc.1) (by simp)⟩
       | true =>
         have hsimp := hb'.1 rfl;simp only [Bool.not_true, Bool.false_eq_true, if_false] at E;have inner : (∃ r, Ev (fun k => Ab1.l10 k c (i : Int) s ((0 : Nat) : Int)) r /\ r = ((false, ()), ()) /\ ¬ (1 < s.length -> ∀ k, k < s.length -> A0H s k ∈ c)) ∨ ((1 < s.length -> ∀ k, k < s.length -> A0H s k ∈ c) /\ Goes (fun k => Ab1.l10 k c (i : Int) s ((0 : Nat) : Int)) (fun k => Ab1.l4 k c ((i + 1 : Nat) : Int))) := by
           by_cases h1 : 1 < s.length
           . by_cases hall : ∀ k, k < s.length -> A0H s k ∈ c
             . refine .inr ⟨fun _ => hall, ?_⟩;obtain ⟨_, _, hg⟩ := Goes.loop (σ := Unit) (R := (Bool × Unit) × Unit) (fun k j _ => Ab1.l10 k c (i : Int) s (j : Int)) s.length (fun _ _ => True) (fun j _ hj _ => ⟨(), trivial, Goes.succ fun k => by
                 obtain ⟨r, hr, hr'⟩ := Ab6.val c (A0H s j) h;rw [Ab1.l10_eq, if_pos (ltI.2 hj), if_pos (by simp; omega), Af4.val s j hj hsm];simp only [Option.bind_some, hr];rw [if_neg (by simp only [decide_eq_true_eq, hr']; exact fun hh => hh (hall j hj)), A0y (by omega)]⟩) 0 () (Nat.zero_le _) trivial
               exact hg.trans (Goes.succ fun k => by rw [Ab1.l10_eq, if_neg (by simp), A0y (by omega)])
             . left;obtain ⟨v, hv, hv'⟩ := Ev.loop (σ := Unit) (R := (Bool × Unit) × Unit) (fun k j _ => Ab1.l10 k c (i : Int) s (j : Int)) s.length (fun j _ => ∀ k, k < j -> A0H s k ∈ c) (fun r => r = ((false, ()), ())) (fun j _ hj hJ => by
                 obtain ⟨r, hr, hr'⟩ := Ab6.val c (A0H s j) h;have E2 := fun k => Ab1.l10_eq k c (i : Int) s (j : Int);simp only [if_pos (ltI.2 hj), if_pos (show decide ((s.length : Int) > 1) = true by simp; omega), Af4.val s j hj hsm, Option.bind_some, hr, A0y (show j < 4611686018427387904 by omega)] at E2;by_cases hd : A0H s j ∈ c
                 . refine .inr ⟨(), fun k hk => ?_, Goes.succ fun k => by rw [E2, if_neg (by simp only [decide_eq_true_eq, hr']; exact fun hh => hh hd)]⟩;by_cases hkj : k = j
                   . rw [hkj]; exact hd
                   . exact hJ k (by omega)
                 . exact .inl ⟨_, (Ev.const _).succ fun k => by rw [E2, if_pos (by simp only [decide_eq_true_eq, hr']; exact hd)], rfl⟩) (fun _ hJ => absurd hJ hall) 0 () (Nat.zero_le _) (by intro k hk; omega)
               exact ⟨v, hv, hv', fun hh => hall (hh h1)⟩
           . refine .inr ⟨fun hh => absurd hh h1, Goes.succ fun k => ?_⟩;rw [Ab1.l10_eq];by_cases h0 : (0 : Nat) < s.length
             . rw [if_pos (ltI.2 h0), if_neg (by simp; omega), A0y (by omega)]
             . rw [if_neg (by simp only [decide_eq_true_eq]; omega), A0y (by omega)]
         have pre : ((0 < i -> cmpS (c.getD (i - 1) []) s < 0) /\ ∀ k, Ab1.l4 (k + 1) c (i : Int) = Ab1.l10 k c (i : Int) s ((0 : Nat) : Int)) ∨ ((∀ k, Ab1.l4 (k + 1) c (i : Int) = some ((false, ()), ())) /\ ¬ (0 < i -> cmpS (c.getD (i - 1) []) s < 0)) := by
           by_cases h0 : 0 < i
           . have h1 : i - 1 < c.length := by omega
             simp only [if_pos (show decide ((i : Int) > 0) = true by simp; omega), A3I h0 (show i < 4611686018427387904 by omega), if_pos (idxI.2 h1), Int.toNat_natCast, Ah1.val _ s (h.2 _ (A0z _ h1)), Option.bind_some] at E;by_cases hlt : cmpS (c.getD (i - 1) []) s < 0
             . exact .inl ⟨fun _ => hlt, fun k => by rw [E, if_neg (by simp only [decide_eq_true hlt]; simp)]; rfl⟩
             . exact .inr ⟨fun k => by rw [E, if_pos (by simp only [decide_eq_false hlt]; rfl)], fun hh => hlt (hh h0)⟩
           . simp only [if_neg (show ¬ decide ((i : Int) > 0) = true by simp; omega)] at E;exact .inl ⟨fun h => absurd h h0, fun k => by rw [E]; rfl⟩
         rcases pre with ⟨hlt, E3⟩ | ⟨E4, hno⟩
         . rcases inner with ⟨r, hr, rfl, hno⟩ | ⟨hyes, hg⟩
           . exact .inl ⟨_, hr.succ E3, bad fun hc => hno hc.2.2⟩
           . refine .inr ⟨(), fun j hj => ?_, (Goes.succ E3).trans hg⟩;by_cases hji : j = i
             . rw [hji, hs]; exact ⟨hsimp, hlt, hyes⟩
             . exact hI j (by omega)
         . exact .inl ⟨_, (Ev.const _).succ E4, bad fun hc => hno hc.2.1⟩)
     (fun _ hI => ⟨_, (Ev.const _).succ fun k => by rw [Ab1.l4_eq, if_neg (by simp)], true, rfl, by simp; exact ⟨hn, hI⟩⟩) 0 () (Nat.zero_le _) (by intro j hj; omega)
   obtain ⟨b, rfl, hb⟩ := hv';exact ⟨b, Ab1.of _ (hv.of_eq fun k => by rw [Ab1.T, if_neg (by simp; omega)]; rfl), hb⟩
 . exact ⟨false, Ab1.of _ ((Ev.const _).of_eq fun k => by rw [Ab1.T, if_pos (by simp; omega)]), by simp; intro hc; exact hn hc.1⟩
theorem mem_faces {s f : List Int} : f ∈ A0M s ↔ 1 < s.length /\ ∃ k, k < s.length /\ A0H s k = f := by
 unfold A0M;by_cases h : 1 < s.length
 . rw [if_pos h]; simp [h]
 . rw [if_neg h]; simp [h]
theorem A1m {c : List (List Int)} {i m : Nat} (h : m < i) : (c.take i).getD m [] = c.getD m [] := by
 simp only [List.getD_eq_getElem?_getD, List.getElem?_take, h, if_true]
theorem A2f {c : List (List Int)} {i m : Nat} (h : m < i) (hm : m < c.length) : c.getD m [] ∈ c.take i := by
 rw [<- A1m h];exact A0z [] (by simp; omega)
def OkAt (c : List (List Int)) (j : Nat) : Prop := A1T (c.getD j []) /\ (0 < j -> cmpS (c.getD (j - 1) []) (c.getD j []) < 0) /\ ∀ f ∈ A0M (c.getD j []), f ∈ c.take j
theorem A2E (c : List (List Int)) : (c.length ≤ 48 /\ ∀ j, j < c.length -> OkAt c j) ↔ CplxOk c := by
 constructor
 . rintro ⟨h1, h2⟩;refine ⟨h1, fun i hi => ⟨(h2 i hi).1, (h2 i hi).2.1, fun hl k hk => List.mem_of_mem_take ((h2 i hi).2.2 _ (mem_faces.2 ⟨hl, k, hk, rfl⟩))⟩⟩
 . intro h;refine ⟨h.1, fun j hj => ⟨(h.2 j hj).1, (h.2 j hj).2.1, fun f hf => ?_⟩⟩;obtain ⟨hl, k, hk, rfl⟩ := mem_faces.1 hf;have hm := (h.2 j hj).2.2 hl k hk;obtain ⟨m, hm1, e⟩ := List.getElem_of_mem hm;have e' : c.getD m [] = A0H (c.getD j []) k := by rw [A0x hm1]; exact e
   have hlen := A0n hk;have hshort : cmpS (A0H (c.getD j []) k) (c.getD j []) < 0 := A3A (by omega);by_cases hmj : m < j
   . rw [<- e']; exact A2f hmj hm1
   . exfalso;by_cases hmj2 : m = j
     . rw [hmj2] at e';rw [<- e', (A0Q _ _).2 rfl] at hshort; omega
     . have h3 := h.sorted j m (by omega) hm1;rw [e'] at h3;have := A1x _ _ _ hshort h3;rw [(A0Q _ _).2 rfl] at this; omega
theorem Ag1.val (c : List (List Int)) (h : SmL c) : ∃ v, Ag1.F (c, ()) = some ((v, ()), ()) /\ (v = true ↔ CplxOk c) := by
 have hn := h.1;obtain ⟨v, hv, hv'⟩ := Ev.loop (σ := Unit) (R := (Bool × Unit) × Unit) (fun k i _ => Ag1.l2 k c c.length (i : Int) c) c.length (fun i _ => ∀ j, j < i -> OkAt c j) (fun r => ∃ v, r = ((v, ()), ()) /\ (v = true ↔ c.length ≤ 48 /\ ∀ j, j < c.length -> OkAt c j))
   (fun i _ hi hI => by
     have hsm : (c.getD i []).length ≤ 1048576 := h.2 _ (A0z _ hi);have hsorted : A0u (c.take i) := A2v fun m h0 hm => by
       have hm' : m < i := by simp at hm; omega
       rw [A1m (by omega), A1m hm'];exact (hI m hm').2.1 h0
     have hsmall : SmL (c.take i) := ⟨by simp; omega, fun x hx => h.2 x (List.mem_of_mem_take hx)⟩;have hclo : ∀ f : List Int, f.length ≤ 1048576 -> Ak9.cloG (c, (i : Int), ()) (f, ()) = some (decide (f ∉ c.take i), ()) := fun f hf => by
       show (Ak9.F (f, c, (i : Int), ())).map (·.1) = _;obtain ⟨r, hr, hr'⟩ := Ad2.val (c.take i) f hsorted hsmall hf;rw [Ak9.eq, Ak9.T, if_pos (by omega)];have : cutL c (0 : Int) (i : Int) = c.take i := by simp [cutL]
       rw [this, hr];simp only [Option.bind_some, Option.map_some, hr']
     obtain ⟨s, hs⟩ : ∃ s, c.getD i [] = s := ⟨_, rfl⟩;have E := fun k => Ag1.l2_eq k c c.length (i : Int) c;obtain ⟨b, hb, hb'⟩ := Al1.val s (hs ▸ hsm);rw [hs] at hsm;have hfl : ∀ f ∈ A0M s, f.length ≤ 1048576 := fun f hf => by
       obtain ⟨_, k, hk, rfl⟩ := mem_faces.1 hf;have := A0n hk; omega
     have hcf := Ak2.val (A0M s) (Ak9.cloG (c, (i : Int), ())) (fun f => decide (f ∉ c.take i)) (fun f hf => hclo f (hfl f hf)) (by
       unfold A0M; split
       . simp; omega
       . simp)
     simp only [if_pos (ltI.2 hi), if_pos (idxI.2 hi), Int.toNat_natCast, hs, hb, Option.bind_some, Ac2.val s hsm, hcf, A0y (show i < 4611686018427387904 by omega)] at E;have bad : ¬ OkAt c i -> ∃ v, (((false, ()), ()) : (Bool × Unit) × Unit) = ((v, ()), ()) /\ (v = true ↔ c.length ≤ 48 /\ ∀ j, j < c.length -> OkAt c j) := fun hno => ⟨false, rfl, by simp only [Bool.false_eq_true, false_iff]; exact fun hc => hno (hc.2 i hi)⟩;cases b with
     | false => exact .inl ⟨_, (Ev.const _).succ fun k => by rw [E]; rfl, bad fun hc => absurd (hb'.2 (hs ▸ hc.1)) (by simp)⟩
     | true =>
       have hsimp := hb'.1 rfl;simp only [Bool.not_true, Bool.false_eq_true, if_false] at E;have pre : ((0 < i -> cmpS (c.getD (i - 1) []) s < 0) /\ ∀ k, Ag1.l2 (k + 1) c c.length (i : Int) c = if ((A0M s).any fun f => decide (f ∉ c.take i)) = true then some ((false, ()), ()) else Ag1.l2 k c c.length ((i + 1 : Nat) : Int) c) ∨ ((∀ k, Ag1.l2 (k + 1) c c.length (i : Int) c = some ((false, ()), ())) /\ ¬ (0 < i -> cmpS (c.getD (i - 1) []) s < 0)) := by
         by_cases h0 : 0 < i
         . have h1 : i - 1 < c.length := by omega
           simp only [if_pos (show decide ((i : Int) > 0) = true by simp; omega), A3I h0 (show i < 4611686018427387904 by omega), if_pos (idxI.2 h1), Int.toNat_natCast, Ad0.val _ s (h.2 _ (A0z _ h1)) hsm, Option.bind_some] at E;by_cases hlt : cmpS (c.getD (i - 1) []) s < 0
           . exact .inl ⟨fun _ => hlt, fun k => by rw [E, if_neg (by simp only [decide_eq_true_eq]; omega)]⟩
           . exact .inr ⟨fun k => by rw [E, if_pos (by simp only [decide_eq_true_eq]; omega)], fun hh => hlt (hh h0)⟩
         . simp only [if_neg (show ¬ decide ((i : Int) > 0) = true by simp; omega)] at E;exact .inl ⟨fun h => absurd h h0, fun k => by rw [E]⟩
       rcases pre with ⟨hlt, E3⟩ | ⟨E4, hno⟩
       . by_cases hf : ∀ f ∈ A0M s, f ∈ c.take i
         . refine .inr ⟨(), fun j hj => ?_, Goes.succ fun k => by rw [E3, if_neg (by simp only [List.any_eq_true, decide_eq_true_eq, not_exists, not_and, Classical.not_not]; exact hf)]⟩;by_cases hji : j = i
           . rw [hji]; exact ⟨hs ▸ hsimp, fun h0 => by rw [hs]; exact hlt h0, fun f hff => hf f (hs ▸ hff)⟩
           . exact hI j (by omega)
         . refine .inl ⟨_, (Ev.const _).succ fun k => by rw [E3, if_pos (by simp only [List.any_eq_true, decide_eq_true_eq]; simpa using hf)], bad fun hc => hf fun f hff => hc.2.2 f (hs ▸ hff)⟩
       . exact .inl ⟨_, (Ev.const _).succ E4, bad fun hc => hno (by have := hc.2.1; rw [hs] at this; exact this)⟩)
   (fun _ hI => ⟨_, (Ev.const _).succ fun k => by rw [Ag1.l2_eq, if_neg (by simp)], _, rfl, by simp only [decide_eq_true_eq]; exact ⟨fun h1 => ⟨by omega, hI⟩, fun h1 => by omega⟩⟩) 0 () (Nat.zero_le _) (by intro j hj; omega)
 obtain ⟨b, rfl, hb⟩ := hv';exact ⟨b, Ag1.of _ (hv.of_eq fun k => rfl), hb.trans (A2E c)⟩
def A1U (c : List (List Int)) (f : List Int) : Nat := c.findIdx fun x => decide (x = f)
theorem A1j {c : List (List Int)} {f : List Int} (h : f ∈ c) : A1U c f < c.length /\ c.getD (A1U c f) [] = f := by
 have h1 : A1U c f < c.length := List.findIdx_lt_length_of_exists ⟨f, h, by simp⟩;refine ⟨h1, ?_⟩;rw [A0x h1];have := List.findIdx_getElem (p := fun x => decide (x = f)) (xs := c) (w := h1);exact of_decide_eq_true this
def fcs (c : List (List Int)) (i : Nat) : List Int := (A0M (c.getD i [])).map fun f => ((A1U c f : Nat) : Int)
theorem A0N (c : List (List Int)) (i : Nat) : (fcs c i).length = if 1 < (c.getD i []).length then (c.getD i []).length else 0 := by
 unfold fcs A0M;split <;> simp
theorem A3O {c : List (List Int)} (h : CplxOk c) {i : Nat} (hi : i < c.length) {x : Int} (hx : x ∈ fcs c i) : ∃ j : Nat, x = j /\ j < c.length := by
 simp only [fcs, List.mem_map] at hx;obtain ⟨f, hf, rfl⟩ := hx;have := ((A2E c).2 h).2 i hi;exact ⟨_, rfl, (A1j (List.mem_of_mem_take (this.2.2 f hf))).1⟩
theorem A2B {c : List (List Int)} (h : CplxOk c) {i : Nat} (hi : i < c.length) {f : List Int} (hf : f ∈ A0M (c.getD i [])) : f ∈ c :=
 List.mem_of_mem_take ((((A2E c).2 h).2 i hi).2.2 f hf)
theorem A4x {c : List (List Int)} (h : CplxOk c) {f : List Int} (hf : f ∈ c) : Ab6.F (c, f, ()) = some ((((A1U c f : Nat) : Int), ()), ()) := by
 obtain ⟨h1, h2⟩ := A1j hf;have := Ab6.val2 c (A1U c f) h1 h.sorted h.small
 rwa [h2] at this
theorem A3F {c : List (List Int)} (h : CplxOk c) {f : List Int} (hf : f ∈ c) : Ad2.F (c, f, ()) = some ((((A1U c f : Nat) : Int), ()), ()) := by
 obtain ⟨h1, h2⟩ := A1j hf;have := Ad2.val2 c (A1U c f) h1 h.sorted h.small
 rwa [h2] at this
theorem Ab4.val (c : List (List Int)) (h : CplxOk c) (i : Nat) (hi : i < c.length) : Ab4.F (c, (i : Int), ()) = some ((fcs c i, ()), ()) := by
 have h4 := (h.2 i hi).1.1.2;obtain ⟨s, hs⟩ : ∃ s, c.getD i [] = s := ⟨_, rfl⟩;rw [hs] at h4;have hmem : ∀ f ∈ A0M s, f ∈ c := fun f hf => A2B h hi (hs ▸ hf);have hfc : fcs c i = (A0M s).map fun f => ((A1U c f : Nat) : Int) := by rw [fcs, hs]
 refine Ab4.of _ _ (Ev.of_eq (N := fun k => Ab4.l4 k c s ((0 : Nat) : Int) []) ?_ fun k => by rw [Ab4.T, if_pos (by omega)]; simp only [Int.toNat_natCast, hs]; rfl);by_cases h1 : 1 < s.length
 . have hf : A0M s = (List.range s.length).map (A0H s) := by rw [A0M, if_pos h1]
   obtain ⟨x, hx, hg⟩ := Goes.loop (R := ((List Int × Unit) × Unit)) (fun k j (x : List Int) => Ab4.l4 k c s (j : Int) x) s.length (fun j x => x = ((List.range j).map (A0H s)).map fun f => ((A1U c f : Nat) : Int)) (fun j x hj h2 => ⟨_, rfl, Goes.succ fun k => by
     have hm : A0H s j ∈ c := hmem _ (by rw [hf]; exact List.mem_map.2 ⟨j, List.mem_range.2 hj, rfl⟩);rw [Ab4.l4_eq, if_pos (ltI.2 hj), if_pos (by simp only [decide_eq_true_eq]; omega), Af4.val s j hj (by omega)];simp only [Option.bind_some, A4x h hm];rw [if_pos (by rw [h2]; simp only [List.length_map, List.length_range, List.length_cons, List.length_nil, bigA]; omega), A0y (by omega), h2, List.range_succ, List.map_append, List.map_append];rfl⟩) 0 [] (Nat.zero_le _) rfl
   rw [hfc, hf];refine hg _ ((Ev.const _).succ fun k => ?_);rw [Ab4.l4_eq, if_neg (by simp), hx]
 . have hf : A0M s = [] := by rw [A0M, if_neg h1]
   rw [hfc, hf];refine (Ev.const _).succ fun k => ?_;rw [Ab4.l4_eq];by_cases h0 : (0 : Nat) < s.length
   . rw [if_pos (ltI.2 h0), if_neg (by simp only [decide_eq_true_eq]; omega)]; rfl
   . rw [if_neg (by simp only [decide_eq_true_eq]; omega)]; rfl
theorem A1Y {c : List (List Int)} (h : CplxOk c) {i : Nat} (hi : i < c.length) : (A0M (c.getD i [])).length ≤ 4 := by
 have h4 := (h.2 i hi).1.1.2;unfold A0M; split
 . simpa using h4
 . simp
theorem Ac6.val (c : List (List Int)) (h : CplxOk c) (i : Nat) (hi : i < c.length) : Ac6.F (c, (i : Int), ()) = some ((fcs c i, ()), ()) := by
 have h4 := (h.2 i hi).1.1.2;have h5 := A1Y h hi;obtain ⟨fs, hfs⟩ : ∃ fs, A0M (c.getD i []) = fs := ⟨_, rfl⟩;have hmem : ∀ f ∈ fs, f ∈ c := fun f hf => A2B h hi (hfs ▸ hf);have hfc : fcs c i = fs.map fun f => ((A1U c f : Nat) : Int) := by rw [fcs, hfs]
 rw [hfs] at h5;refine Ac6.of _ _ (Ev.of_eq (N := fun k => Ac6.l3 k (fs.length : Int) ((0 : Nat) : Int) c [] fs) ?_ fun k => by rw [Ac6.T, if_pos (by omega)]; simp only [Int.toNat_natCast]; rw [Ac2.val _ (by omega), hfs]; rfl);obtain ⟨x, hx, hg⟩ := Goes.loop (R := ((List Int × Unit) × Unit)) (fun k j (x : List Int) => Ac6.l3 k (fs.length : Int) (j : Int) c x fs) fs.length (fun j x => x = (fs.take j).map fun f => ((A1U c f : Nat) : Int)) (fun j x hj h2 => ⟨_, rfl, Goes.succ fun k => by
   rw [Ac6.l3_eq, if_pos (ltI.2 hj), if_pos (idxI.2 hj)];simp only [Int.toNat_natCast, A3F h (hmem _ (A0z [] hj)), Option.bind_some];rw [if_pos (by rw [h2]; simp only [List.length_map, List.length_take, List.length_cons, List.length_nil, bigA]; omega), A0y (by omega), h2, List.take_add_one, List.getElem?_eq_getElem hj, Option.toList_some, List.map_append, A0x hj];rfl⟩) 0 [] (Nat.zero_le _) rfl
 rw [List.take_of_length_le (Nat.le_refl _)] at hx;rw [hfc];refine hg _ ((Ev.const _).succ fun k => ?_);rw [Ac6.l3_eq, if_neg (by simp), hx]
def off (c : List (List Int)) : Nat -> Nat
 | 0 => 0
 | s + 1 => off c s + (fcs c s).length
def A3r (c : List (List Int)) (s : Nat) : List A3k := (List.range (fcs c s).length).map fun (j : Nat) => ((s : Int), (j : Int), (fcs c s).getD j 0)
def arr (c : List (List Int)) (n : Nat) : List A3k := (List.range n).flatMap (A3r c)
theorem A2q (c : List (List Int)) (n : Nat) : arr c (n + 1) = arr c n ++ A3r c n := by simp [arr, List.range_succ]
theorem A0V (c : List (List Int)) (n : Nat) : (arr c n).length = off c n := by
 induction n with
 | zero => rfl
 | succ n ih => rw [A2q, List.length_append, ih, A3r, List.length_map, List.length_range, off]
theorem A1B {c : List (List Int)} (h : CplxOk c) {n : Nat} (hn : n ≤ c.length) : off c n ≤ 4 * n := by
 induction n with
 | zero => exact Nat.le_refl _
 | succ n ih =>
   have h5 := A1Y h (show n < c.length by omega);have := ih (by omega);have e : (fcs c n).length = (A0M (c.getD n [])).length := by simp [fcs]
   rw [off, e]; omega
theorem A1W (c : List (List Int)) {n s j : Nat} (hs : s < n) (hj : j < (fcs c s).length) : (arr c n).getD (off c s + j) (0, 0, 0) = ((s : Int), (j : Int), (fcs c s).getD j 0) := by
 induction n with
 | zero => omega
 | succ n ih =>
   rw [A2q, List.getD_eq_getElem?_getD];by_cases h : s < n
   . have hmono : ∀ a b, a ≤ b -> off c a ≤ off c b := fun a b hab => by
       induction hab with
       | refl => exact Nat.le_refl _
       | step _ ih => exact Nat.le_trans ih (Nat.le_add_right _ _)
     have h1 := hmono (s + 1) n (by omega);rw [off] at h1;rw [List.getElem?_append_left (by rw [A0V]; omega), <- List.getD_eq_getElem?_getD];exact ih h
   . obtain rfl : s = n := by omega
     rw [List.getElem?_append_right (by rw [A0V]; omega), A0V, show off c s + j - off c s = j by omega, A3r, List.getElem?_map, List.getElem?_range hj];rfl
theorem Ac1.val (c : List (List Int)) (h : CplxOk c) : Ac1.F (c, ()) = some ((arr c c.length, ()), ()) := by
 have hn := h.1;refine Ac1.of _ (Ev.of_eq (N := fun k => Ac1.l3 k (c.length : Int) ((0 : Nat) : Int) c []) ?_ fun k => by rw [Ac1.T, An7.eq, An7.T]; rfl);obtain ⟨x, hx, hg⟩ := Goes.loop (R := ((List A3k × Unit) × Unit)) (fun k i (x : List A3k) => Ac1.l3 k (c.length : Int) (i : Int) c x) c.length (fun i x => x = arr c i) (fun i x hi h2 => by
   have hoff := A1B h (show i ≤ c.length by omega);have h5 := A1Y h hi;have e5 : (fcs c i).length = (A0M (c.getD i [])).length := by simp [fcs]
   refine ⟨_, rfl, (Goes.succ fun k => by rw [Ac1.l3_eq, if_pos (ltI.2 hi), Ac6.val c h i hi]).trans ?_⟩;obtain ⟨y, hy, hg2⟩ := Goes.loop (R := ((List A3k × Unit) × Unit)) (fun k j (y : List A3k) => Ac1.l6 k (i : Int) (c.length : Int) (i : Int) ((fcs c i).length : Int) (j : Int) c y (fcs c i)) (fcs c i).length (fun j y => y = arr c i ++ (List.range j).map fun (j : Nat) => ((i : Int), (j : Int), (fcs c i).getD j 0)) (fun j y hj h3 => ⟨_, rfl, Goes.succ fun k => by
     rw [Ac1.l6_eq, if_pos (ltI.2 hj), if_pos (idxI.2 hj), if_pos (by rw [h3]; simp only [List.length_append, List.length_map, List.length_range, List.length_cons, List.length_nil, A0V, bigA]; omega), A0y (by omega), h3, List.range_succ, List.map_append, List.append_assoc];simp only [Int.toNat_natCast];rfl⟩) 0 x (Nat.zero_le _) (by simp [h2])
   refine hg2.trans (Goes.succ fun k => ?_);rw [Ac1.l6_eq, if_neg (by simp), A0y (by omega), hy, A2q];rfl) 0 [] (Nat.zero_le _) rfl
 refine hg _ ((Ev.const _).succ fun k => ?_);rw [Ac1.l3_eq, if_neg (by simp), hx]
theorem Ac0.val (c : List (List Int)) (h : CplxOk c) (s : Nat) (hs : s ≤ c.length) (j : Nat) (hj : j ≤ 1000) : Ac0.F (c, (s : Int), (j : Int), ()) = some ((((off c s + j : Nat) : Int), ()), ()) := by
 have hn := h.1;have hos := A1B h hs;refine Ac0.of _ _ _ (Ev.of_eq (N := fun k => Ac0.l3 k c (s : Int) (j : Int) 0 ((0 : Nat) : Int)) ?_ fun k => rfl);obtain ⟨x, hx, hg⟩ := Goes.loop (R := ((Int × Unit) × Unit)) (fun k i (x : Int) => Ac0.l3 k c (s : Int) (j : Int) x (i : Int)) s (fun i x => x = (off c i : Int)) (fun i x hi h2 => ⟨_, rfl, Goes.succ fun k => by
   have hic : i < c.length := by omega
   have hoff := A1B h (show i ≤ c.length by omega);have h4 := (h.2 i hic).1.1.2;rw [Ac0.l3_eq, if_pos (ltI.2 hi), if_pos (idxI.2 hic)];simp only [Int.toNat_natCast];rw [off, A0N];by_cases h1 : 1 < (c.getD i []).length
   . rw [if_pos (by simp only [decide_eq_true_eq]; omega), if_pos (idxI.2 hic), if_pos h1, A0w (by omega) (by omega), A0y (by omega), h2];congr 1
   . rw [if_neg (by simp only [decide_eq_true_eq]; omega), if_neg h1, A0y (by omega), h2];rfl⟩) 0 0 (Nat.zero_le _) rfl
 refine hg _ ((Ev.const _).succ fun k => ?_);rw [Ac0.l3_eq, if_neg (by simp), hx, A0w (by omega) (by omega)];congr 3
def A0O (c : List (List Int)) (d : Int) (i : Nat) : List Int := ((List.range i).filter fun j => ((c.getD j []).length : Int) == d + 1).map fun (j : Nat) => (j : Int)
theorem A1u (c : List (List Int)) (d : Int) (i : Nat) : A0O c d (i + 1) = if ((c.getD i []).length : Int) == d + 1 then A0O c d i ++ [(i : Int)] else A0O c d i := by
 simp only [A0O, List.range_succ, List.filter_append, List.map_append];split
 . rename_i h; rw [List.filter_cons_of_pos (by exact h)]; simp
 . rename_i h; rw [List.filter_cons_of_neg (by exact h)]; simp
theorem A0a (c : List (List Int)) (d : Int) (i : Nat) : (A0O c d i).length ≤ i := by
 simp only [A0O, List.length_map];exact Nat.le_trans (List.length_filter_le _ _) (by simp)
theorem A2S {c : List (List Int)} {d : Int} {i : Nat} {x : Int} (h : x ∈ A0O c d i) : ∃ j : Nat, x = j /\ j < i := by
 simp only [A0O, List.mem_map, List.mem_filter, List.mem_range] at h;obtain ⟨j, ⟨h1, -⟩, rfl⟩ := h;exact ⟨j, rfl, h1⟩
theorem Aj8.val (c : List (List Int)) (d : Int) (hd : -1 ≤ d /\ d ≤ 1000) (hn : c.length ≤ 1048576) : Aj8.F (c, d, ()) = some ((A0O c d c.length, ()), ()) := by
 refine Aj8.of _ _ ?_;obtain ⟨s, hs, hg⟩ := Goes.loop (R := ((List Int × Unit) × Unit)) (fun k i (x : List Int) => Aj8.l3 k c d (i : Int) x) c.length (fun i x => x = A0O c d i) (fun i x hi h2 => ⟨_, rfl, Goes.succ fun k => by
   have hl := A0a c d i;rw [Aj8.l3_eq, if_pos (ltI.2 hi), if_pos (idxI.2 hi), A0w (x := d + 1) (by omega) (by omega), A1u];simp only [Int.toNat_natCast];by_cases h : (((c.getD i []).length : Int) == d + 1) = true
   . rw [if_pos h, if_pos h, if_pos (by rw [h2]; simp only [List.length_cons, List.length_nil, bigA]; omega), A0y (by omega), h2]
   . rw [if_neg h, if_neg h, A0y (by omega), h2]⟩) 0 [] (Nat.zero_le _) rfl
 refine Ev.of_eq (hg _ ((Ev.const _).succ fun k => ?_)) fun k => rfl;rw [Aj8.l3_eq, if_neg (by simp), hs]
theorem Aj2.val (c : List (List Int)) (d : Int) (hd : -1 ≤ d /\ d ≤ 1000) (hn : c.length ≤ 1048576) : Aj2.F (c, d, ()) = some ((A0O c d c.length, ()), ()) := by
 refine Aj2.of _ _ ?_;obtain ⟨s, hs, hg⟩ := Goes.loop (R := ((List Int × Unit) × Unit)) (fun k i (x : List Int) => Aj2.l3 k d c (c.length : Int) (i : Int) x) c.length (fun i x => x = A0O c d i) (fun i x hi h2 => ⟨_, rfl, Goes.succ fun k => by
   have hl := A0a c d i;rw [Aj2.l3_eq, if_pos (ltI.2 hi), if_pos (idxI.2 hi), A0w (x := d + 1) (by omega) (by omega), A1u, Ad7.eq, Ad7.T];simp only [Int.toNat_natCast, Option.bind_some];by_cases h : (((c.getD i []).length : Int) == d + 1) = true
   . rw [if_pos h, if_pos h, if_pos (by rw [h2]; simp only [List.length_cons, List.length_nil, bigA]; omega), A0y (by omega), h2]
   . rw [if_neg h, if_neg h, A0y (by omega), h2]⟩) 0 [] (Nat.zero_le _) rfl
 refine Ev.of_eq (hg _ ((Ev.const _).succ fun k => ?_)) fun k => rfl;rw [Aj2.l3_eq, if_neg (by simp), hs]
def sumL (st : List Int) (js : List Int) : Int := js.foldl (fun acc j => IntKind.i64.wrap (acc + st.getD j.toNat 0)) 0
theorem Ai2.val (c : List (List Int)) (st : List Int) (d : Int) (hd : -1 ≤ d /\ d ≤ 1000) (hn : c.length ≤ 1048576) (hs : st.length = c.length) : Ai2.F (c, st, d, ()) = some ((sumL st (A0O c d c.length), ()), ()) := by
 have hl := A0a c d c.length;refine Ai2.of _ _ _ (Ev.of_eq (N := fun k => Ai2.l4 k st 0 ((0 : Nat) : Int) (A0O c d c.length)) ?_ fun k => by rw [Ai2.T, Aj8.val c d hd hn]; rfl);refine Goes.foldl (L := fun k i s => Ai2.l4 k st s (i : Int) (A0O c d c.length)) (A0O c d c.length) 0 (fun acc j => IntKind.i64.wrap (acc + st.getD j.toNat 0)) (fun k i s hi => ?_) 0 _ ((Ev.const _).succ fun k => by rw [Ai2.l4_eq, if_neg (by simp)]; rfl);obtain ⟨j, hj, hjc⟩ := A2S (A0z (0 : Int) hi);rw [Ai2.l4_eq, if_pos (ltI.2 hi), if_pos (idxI.2 hi)];simp only [Int.toNat_natCast];rw [if_pos (by rw [hj]; omega), A0y (by omega)]
theorem Ah8.val (c : List (List Int)) (p : Int) (st : List Int) (ms : List MatV) (d : Int) (hd : -1 ≤ d /\ d ≤ 1000) (hn : c.length ≤ 1048576) (hs : st.length = c.length) : Ah8.F ((c, (p, (st, ms))), d, ()) = some ((sumL st (A0O c d c.length), ()), ()) := by
 have hl := A0a c d c.length;refine Ah8.of _ _ _ _ _ (Ev.of_eq (N := fun k => Ah8.l3 k 0 (A0O c d c.length).length ((0 : Nat) : Int) c p st ms (A0O c d c.length)) ?_ fun k => by rw [Ah8.T, Aj2.val c d hd hn]; rfl);refine Goes.foldl (L := fun k i s => Ah8.l3 k s (A0O c d c.length).length (i : Int) c p st ms (A0O c d c.length)) (A0O c d c.length) 0 (fun acc j => IntKind.i64.wrap (acc + st.getD j.toNat 0)) (fun k i s hi => ?_) 0 _ ((Ev.const _).succ fun k => by rw [Ah8.l3_eq, if_neg (by simp)]; rfl);obtain ⟨j, hj, hjc⟩ := A2S (A0z (0 : Int) hi);rw [Ah8.l3_eq, if_pos (ltI.2 hi), if_pos (idxI.2 hi)];simp only [Int.toNat_natCast];rw [if_pos (by rw [hj]; omega), A0y (by omega)]
def A2a (c : List (List Int)) (st : List Int) : Prop := st.length = c.length /\ A0S 0 3 st /\ ∀ k : Nat, k < 4 -> sumL st (A0O c k c.length) ≤ 32
theorem Ah3.val (c : List (List Int)) (st : List Int) (hn : c.length ≤ 1048576) (hs : st.length ≤ 1048576) : ∃ v, Ah3.F (c, st, ()) = some ((v, ()), ()) /\ (v = true ↔ A2a c st) := by
 obtain ⟨v1, h1, h1'⟩ := Ae6.val st (c.length : Int) 4 (by omega);rw [A0w (x := (4 : Int) - 1) (by omega) (by omega)] at h1';cases v1 with
 | false => exact ⟨false, Ah3.of _ _ ((Ev.const _).of_eq fun k => by rw [Ah3.T, h1]; rfl), by simp only [Bool.false_eq_true, false_iff]; exact fun h => absurd (h1'.2 ⟨by have := h.1; omega, h.2.1⟩) (by simp)⟩
 | true =>
   obtain ⟨hl, ha⟩ := h1'.1 rfl;obtain ⟨v, hv, hv'⟩ := Ev.allP (L := fun k i => Ah3.l4 k c st (i : Int)) (a := ()) (b := ()) (n := 4) (fun i => sumL st (A0O c i c.length) ≤ 32) true (fun i hi => by
     have E := fun k => Ah3.l4_eq k c st (i : Int);simp only [if_pos (show decide ((i : Int) ≤ 3) = true by simp; omega), Ai2.val c st (i : Int) (by omega) hn (by omega), Option.bind_some, A0y (show i < 4611686018427387904 by omega)] at E;by_cases h : sumL st (A0O c i c.length) ≤ 32
     . exact .inl ⟨h, fun k => by rw [E, if_neg (by simp only [decide_eq_true_eq]; omega)]⟩
     . exact .inr ⟨h, fun k => by rw [E, if_pos (by simp only [decide_eq_true_eq]; omega)]⟩) ((Ev.const _).succ fun k => by rw [Ah3.l4_eq, if_neg (by simp)]) 0 (Nat.zero_le _)
   exact ⟨v, Ah3.of _ _ (hv.of_eq fun k => by rw [Ah3.T, h1]; rfl), hv'.trans ⟨fun ⟨_, h⟩ => ⟨by omega, ha, fun k hk => h k (Nat.zero_le _) hk⟩, fun h => ⟨rfl, fun k _ hk => h.2.2 k hk⟩⟩⟩
theorem Ae0.val (c : List (List Int)) (st : List Int) (hn : c.length ≤ 1048576) (hs : st.length ≤ 1048576) : ∃ v, Ae0.F (c, st, ()) = some ((v, ()), ()) /\ (v = true ↔ A2a c st) := by
 by_cases hl : st.length = c.length
 . have hcf := Ad4.val st (Am8.cloG (())) (fun a => !decide (0 ≤ a /\ a ≤ 3)) (fun a _ => by
     show (Am8.F (a, ())).map (·.1) = _;rw [Am8.eq, Am8.T, Aa4.val]; rfl) (by omega)
   by_cases ha : A0S 0 3 st
   . have hany : (st.any fun a => !decide (0 ≤ a /\ a ≤ 3)) = false := by
       simp only [List.any_eq_false]; intro x hx; simp only [Bool.not_eq_true', decide_eq_false_iff_not, Classical.not_not]; exact ha x hx
     obtain ⟨v, hv, hv'⟩ := Ev.allP (L := fun k i => Ae0.l4 k st (i : Int) c) (a := ()) (b := ()) (n := 4) (fun i => sumL st (A0O c i c.length) ≤ 32) true (fun i hi => by
       have E := fun k => Ae0.l4_eq k st (i : Int) c;simp only [if_pos (show decide ((i : Int) < 4) = true by simp; omega), Ah8.val c 0 st [] (i : Int) (by omega) hn (by omega), Option.bind_some, A0y (show i < 4611686018427387904 by omega)] at E;by_cases h : sumL st (A0O c i c.length) ≤ 32
       . exact .inl ⟨h, fun k => by rw [E, if_neg (by simp only [decide_eq_true_eq]; omega)]⟩
       . exact .inr ⟨h, fun k => by rw [E, if_pos (by simp only [decide_eq_true_eq]; omega)]⟩) ((Ev.const _).succ fun k => by rw [Ae0.l4_eq, if_neg (by simp)]) 0 (Nat.zero_le _)
     exact ⟨v, Ae0.of _ _ (hv.of_eq fun k => by rw [Ae0.T, if_neg (by simp [hl]), hcf, hany]; rfl), hv'.trans ⟨fun ⟨_, h⟩ => ⟨hl, ha, fun k hk => h k (Nat.zero_le _) hk⟩, fun h => ⟨rfl, fun k _ hk => h.2.2 k hk⟩⟩⟩
   . have hany : (st.any fun a => !decide (0 ≤ a /\ a ≤ 3)) = true := by
       refine Classical.byContradiction fun hc => ha fun x hx => ?_;simp only [Bool.not_eq_true, List.any_eq_false, Bool.not_eq_true', decide_eq_false_iff_not, Classical.not_not] at hc;exact hc x hx
     exact ⟨false, Ae0.of _ _ ((Ev.const _).of_eq fun k => by rw [Ae0.T, if_neg (by simp [hl]), hcf, hany]; rfl), by simp only [Bool.false_eq_true, false_iff]; exact fun h => ha h.2.1⟩
 . exact ⟨false, Ae0.of _ _ ((Ev.const _).of_eq fun k => by rw [Ae0.T, if_pos (by simp; omega)]), by simp only [Bool.false_eq_true, false_iff]; exact fun h => hl h.1⟩
def A2Z (c : List (List Int)) (p : Int) (st : List Int) (m : MatV) (i j : Nat) : Prop := MatOk m /\ m.1 = p /\ m.2.1 = st.getD i 0 /\ m.2.2.1 = st.getD ((fcs c i).getD j 0).toNat 0
def A2n (s : ShfV) (i : Nat) : Prop := ∀ j, j < (fcs s.1 i).length -> A2Z s.1 s.2.1 s.2.2.1 (s.2.2.2.getD (off s.1 i + j) (0, 0, 0, [])) i j
def A0j (s : ShfV) : Prop := CplxOk s.1 /\ A0C s.2.1 /\ A2a s.1 s.2.2.1 /\ s.2.2.2.length = off s.1 s.1.length /\ ∀ i, i < s.1.length -> A2n s i
theorem A4C (c : List (List Int)) {a b : Nat} (h : a ≤ b) : off c a ≤ off c b := by
 induction h with
 | refl => exact Nat.le_refl _
 | step _ ih => exact Nat.le_trans ih (Nat.le_add_right _ _)
theorem A2z {c : List (List Int)} {i j : Nat} (hi : i < c.length) (hj : j < (fcs c i).length) : off c i + j < off c c.length := by
 have := A4C c (show i + 1 ≤ c.length by omega);rw [off] at this; omega
theorem Am4.val (c : List (List Int)) (p : Int) (st : List Int) (ms : List MatV) (m : MatV) (h : CplxOk c) (hst : st.length = c.length) (hm : m.2.2.2.length < 4611686018427387904) (i j : Nat) (hi : i < c.length) (hj : j < (fcs c i).length) :
   ∃ v, Am4.F ((c, (p, (st, ms))), (i : Int), (j : Int), m, ()) = some ((v, ()), ()) /\ (v = true ↔ A2Z c p st m i j) := by
 obtain ⟨q, r, cc, xs⟩ := m;obtain ⟨v1, h1, h1'⟩ := Ah0.val (q, r, cc, xs) hm;obtain ⟨x, hx, hxc⟩ := A3O h hi (A0z (0 : Int) hj);rw [Am4.eq, Am4.T, Ab4.val c h i hi];simp only [Option.bind_some];rw [if_pos (by omega), h1];simp only [Option.bind_some, Int.toNat_natCast];unfold A2Z;cases v1 with
 | false => exact ⟨false, by rw [if_neg (by simp)], by simp only [Bool.false_eq_true, false_iff]; exact fun hh => absurd (h1'.2 hh.1) (by simp)⟩
 | true =>
   have hmat := h1'.1 rfl;rw [if_pos rfl];by_cases e1 : q = p
   . rw [if_pos (by simp [e1]), if_pos (by omega)];by_cases e2 : r = st.getD i 0
     . rw [if_pos (by simp only [beq_iff_eq]; exact e2), if_pos (by rw [hx]; omega)];exact ⟨_, rfl, by simp only [beq_iff_eq]; exact ⟨fun e3 => ⟨hmat, e1, e2, e3⟩, fun hh => hh.2.2.2⟩⟩
     . exact ⟨false, by rw [if_neg (by simp only [beq_iff_eq]; exact e2)], by simp only [Bool.false_eq_true, false_iff]; exact fun hh => e2 hh.2.2.1⟩
   . exact ⟨false, by rw [if_neg (by simp only [beq_iff_eq]; exact e1)], by simp only [Bool.false_eq_true, false_iff]; exact fun hh => e1 hh.2.1⟩
theorem Aa3.val (s : ShfV) (hsm : SmSh s) : ∃ v, Aa3.F (s, ()) = some ((v, ()), ()) /\ (v = true ↔ A0j s) := by
 obtain ⟨c, p, st, ms⟩ := s;obtain ⟨hc, hst, hms⟩ := hsm;have hc : SmL c := hc;have hst : st.length ≤ 1048576 := hst;have hms : SmMs ms := hms;unfold A0j;simp only [];obtain ⟨v1, h1, h1'⟩ := Ab1.val c hc;obtain ⟨v2, h2, h2'⟩ := Ag9.val p;obtain ⟨v3, h3, h3'⟩ := Ah3.val c st hc.1 hst;have h2p : Ai1.F (p, ()) = some ((v2, ()), ()) := by rw [Ai1.eq, Ai1.T, h2]; rfl
 cases v1 with
 | false => exact ⟨false, Aa3.of _ _ _ _ ((Ev.const _).of_eq fun k => by rw [Aa3.T, h1]; rfl), by simp only [Bool.false_eq_true, false_iff]; exact fun hh => absurd (h1'.2 hh.1) (by simp)⟩
 | true =>
 cases v2 with
 | false => exact ⟨false, Aa3.of _ _ _ _ ((Ev.const _).of_eq fun k => by rw [Aa3.T, h1, h2p]; rfl), by simp only [Bool.false_eq_true, false_iff]; exact fun hh => absurd (h2'.2 hh.2.1) (by simp)⟩
 | true =>
 cases v3 with
 | false => exact ⟨false, Aa3.of _ _ _ _ ((Ev.const _).of_eq fun k => by rw [Aa3.T, h1, h2p, h3]; rfl), by simp only [Bool.false_eq_true, false_iff]; exact fun hh => absurd (h3'.2 hh.2.2.1) (by simp)⟩
 | true =>
 have hcx := h1'.1 rfl;have hstalk := h3'.1 rfl;have hcl := hcx.1;have hoff := A1B hcx (Nat.le_refl c.length);have h4 : An1.F (c, ()) = some ((((off c c.length : Nat) : Int), ()), ()) := by
   have := Ac0.val c hcx c.length (Nat.le_refl _) 0 (by omega);rw [An1.eq, An1.T, show (0 : Int) = ((0 : Nat) : Int) from rfl, this]; rfl
 by_cases hlen : ms.length = off c c.length
 . obtain ⟨v, hv, b, rfl, hb⟩ := Ev.loop (σ := Unit) (R := (Bool × Unit) × Unit) (fun k i _ => Aa3.l4 k c p st ms (i : Int)) c.length (fun i _ => ∀ n, n < i -> A2n (c, p, st, ms) n) (fun r => ∃ b, r = ((b, ()), ()) /\ (b = true ↔ ∀ n, n < c.length -> A2n (c, p, st, ms) n))
     (fun i _ hi hI => by
       have E4 : ∀ k, Aa3.l4 (k + 1) c p st ms (i : Int) = Aa3.l7 k c p st ms (i : Int) ((0 : Nat) : Int) := fun k => by rw [Aa3.l4_eq, if_pos (ltI.2 hi)]; rfl
       have hlc := (hcx.2 i hi).1.1;have step : ∀ j, j < (fcs c i).length -> ∃ v, (v = true ↔ A2Z c p st (ms.getD (off c i + j) (0, 0, 0, [])) i j) /\ ∀ k, Aa3.l7 (k + 1) c p st ms (i : Int) (j : Int) = if (!v) = true then some ((false, ()), ()) else Aa3.l7 k c p st ms (i : Int) ((j + 1 : Nat) : Int) := fun j hj => by
         have hlt := A2z hi hj;have hj2 := hj;rw [A0N] at hj2;have h1l : 1 < (c.getD i []).length := by
           by_cases hh : 1 < (c.getD i []).length
           . exact hh
           . rw [if_neg hh] at hj2; omega
         rw [if_pos h1l] at hj2;have hml : (ms.getD (off c i + j) (0, 0, 0, [])).2.2.2.length < 4611686018427387904 := by
           have : (ms.getD (off c i + j) (0, 0, 0, [])).2.2.2.length ≤ 1048576 := hms.2 _ (A0z _ (by omega));omega
         obtain ⟨v, hv, hv'⟩ := Am4.val c p st ms (ms.getD (off c i + j) (0, 0, 0, [])) hcx hstalk.1 hml i j hi hj;refine ⟨v, hv', fun k => ?_⟩;rw [Aa3.l7_eq, if_pos (idxI.2 hi)];simp only [Int.toNat_natCast];rw [if_pos (by simp only [decide_eq_true_eq]; omega), if_pos (idxI.2 hi), if_pos (by simp only [decide_eq_true_eq]; omega), Ac0.val c hcx i (by omega) j (by omega)];simp only [Option.bind_some, Int.toNat_natCast];rw [if_pos (by omega), hv];simp only [Option.bind_some];rw [A0y (by omega)]
       have stop : ∀ k, Aa3.l7 (k + 1) c p st ms (i : Int) (((fcs c i).length : Nat) : Int) = Aa3.l4 k c p st ms ((i + 1 : Nat) : Int) := fun k => by
         rw [Aa3.l7_eq, if_pos (idxI.2 hi), A0N];simp only [Int.toNat_natCast];by_cases h1l : 1 < (c.getD i []).length
         . rw [if_pos h1l, if_neg (by simp), A0y (by omega)]
         . rw [if_neg h1l, if_pos (by simp only [decide_eq_true_eq]; omega), if_pos (idxI.2 hi), if_neg (by simp only [decide_eq_true_eq]; omega), A0y (by omega)]
       by_cases hP : A2n (c, p, st, ms) i
       . refine .inr ⟨(), fun n hn => ?_, (Goes.succ E4).trans ?_⟩
         . by_cases hni : n = i
           . rw [hni]; exact hP
           . exact hI n (by omega)
         . obtain ⟨_, _, hg⟩ := Goes.loop (σ := Unit) (R := (Bool × Unit) × Unit) (fun k j _ => Aa3.l7 k c p st ms (i : Int) (j : Int)) (fcs c i).length (fun _ _ => True) (fun j _ hj _ => ⟨(), trivial, by
             obtain ⟨v, hv, hv2⟩ := step j hj;have : v = true := hv.2 (hP j hj);subst this;exact Goes.succ fun k => by rw [hv2]; rfl⟩) 0 () (Nat.zero_le _) trivial
           exact hg.trans (Goes.succ stop)
       . left;obtain ⟨v, hv, hv'⟩ := Ev.loop (σ := Unit) (R := (Bool × Unit) × Unit) (fun k j _ => Aa3.l7 k c p st ms (i : Int) (j : Int)) (fcs c i).length (fun j _ => ∀ n, n < j -> A2Z c p st (ms.getD (off c i + n) (0, 0, 0, [])) i n) (fun r => r = ((false, ()), ())) (fun j _ hj hJ => by
           obtain ⟨v, hv, hv2⟩ := step j hj;cases v with
           | false => exact .inl ⟨_, (Ev.const _).succ fun k => by rw [hv2]; rfl, rfl⟩
           | true =>
             refine .inr ⟨(), fun n hn => ?_, Goes.succ fun k => by rw [hv2]; rfl⟩;by_cases hnj : n = j
             . rw [hnj]; exact hv.1 rfl
             . exact hJ n (by omega)) (fun _ hJ => absurd (fun j hj => hJ j hj) hP) 0 () (Nat.zero_le _) (by intro n hn; omega)
         subst hv';exact ⟨_, hv.succ E4, false, rfl, by simp only [Bool.false_eq_true, false_iff]; exact fun hh => hP (hh i hi)⟩)
     (fun _ hI => ⟨_, (Ev.const _).succ fun k => by rw [Aa3.l4_eq, if_neg (by simp)], true, rfl, by simp only [true_iff]; exact hI⟩) 0 () (Nat.zero_le _) (by intro n hn; omega)
   refine ⟨b, Aa3.of _ _ _ _ (hv.of_eq fun k => ?_), hb.trans ⟨fun hh => ⟨hcx, h2'.1 rfl, hstalk, hlen, hh⟩, fun hh => hh.2.2.2.2⟩⟩;rw [Aa3.T, h1, h2p, h3, h4];simp only [Option.bind_some, Bool.not_true, Bool.false_eq_true, if_false];rw [if_neg (by simp [hlen])]; rfl
 . refine ⟨false, Aa3.of _ _ _ _ ((Ev.const _).of_eq fun k => ?_), by simp only [Bool.false_eq_true, false_iff]; exact fun hh => hlen hh.2.2.2.1⟩;rw [Aa3.T, h1, h2p, h3, h4];simp only [Option.bind_some, Bool.not_true, Bool.false_eq_true, if_false];rw [if_pos (by simp; omega)]
theorem Ac7.same (m n : MatV) (h : SmM m) : ∃ b, Ac7.F (m, n, ()) = some ((b, ()), ()) /\ (b = true ↔ m = n) := by
 obtain ⟨a, b, c, xs⟩ := m;obtain ⟨a', b', c', ys⟩ := n;have hn : xs.length ≤ 1048576 := h;simp only [Prod.mk.injEq];by_cases h1 : a = a'
 . by_cases h2 : b = b'
   . by_cases h3 : c = c'
     . by_cases hl : xs.length = ys.length
       . obtain ⟨e, he, he'⟩ := A0Y (fun k i => Ac7.l4 k a b c xs a' b' c' ys (i : Int)) xs ys 0 hl (fun i hi => ⟨xs.getD i 0 == ys.getD i 0, by simp, fun k => by
           rw [Ac7.l4_eq, if_pos (ltI.2 hi), if_pos (idxI.2 hi), if_pos (idx2 (hl ▸ hi))]; simp only [Int.toNat_natCast]; rw [A0y (by omega)]; rfl⟩) (fun k => by rw [Ac7.l4_eq, if_neg (by simp)])
         exact ⟨e, Ac7.of _ _ _ _ _ _ _ _ (he.of_eq fun k => by rw [Ac7.T, if_neg (by simp [h1]), if_neg (by simp [h2]), if_neg (by simp [h3]), if_neg (by simp [hl])]; rfl), by simp [h1, h2, h3, he']⟩
       . exact ⟨false, Ac7.of _ _ _ _ _ _ _ _ ((Ev.const _).of_eq fun k => by rw [Ac7.T, if_neg (by simp [h1]), if_neg (by simp [h2]), if_neg (by simp [h3]), if_pos (by simp; omega)]), by simp [h1, h2, h3]; intro e; exact hl (by rw [e])⟩
     . exact ⟨false, Ac7.of _ _ _ _ _ _ _ _ ((Ev.const _).of_eq fun k => by rw [Ac7.T, if_neg (by simp [h1]), if_neg (by simp [h2]), if_pos (by simp [h3])]), by simp [h3]⟩
   . exact ⟨false, Ac7.of _ _ _ _ _ _ _ _ ((Ev.const _).of_eq fun k => by rw [Ac7.T, if_neg (by simp [h1]), if_pos (by simp [h2])]), by simp [h2]⟩
 . exact ⟨false, Ac7.of _ _ _ _ _ _ _ _ ((Ev.const _).of_eq fun k => by rw [Ac7.T, if_pos (by simp [h1])]), by simp [h1]⟩
theorem Ag0.same (m n : MatV) (h : SmM m) : ∃ b, Ag0.F (m, n, ()) = some ((b, ()), ()) /\ (b = true ↔ m = n) := by
 obtain ⟨a, b, c, xs⟩ := m;obtain ⟨a', b', c', ys⟩ := n;obtain ⟨e, he, he'⟩ := Aa6.same xs ys h;rw [Ag0.eq, Ag0.T, he];simp only [Option.bind_some, Prod.mk.injEq];by_cases h1 : a = a'
 . by_cases h2 : b = b'
   . by_cases h3 : c = c'
     . exact ⟨e, by rw [if_pos (by simp [h1]), if_pos (by simp [h2]), if_pos (by simp [h3])], by simp [h1, h2, h3, he']⟩
     . exact ⟨false, by rw [if_pos (by simp [h1]), if_pos (by simp [h2]), if_neg (by simp [h3])], by simp [h3]⟩
   . exact ⟨false, by rw [if_pos (by simp [h1]), if_neg (by simp [h2])], by simp [h2]⟩
 . exact ⟨false, by rw [if_neg (by simp [h1])], by simp [h1]⟩
theorem Goes.find {R T : Type} {L : Nat -> Nat -> Option R} {M : Nat -> Option R} {n : Nat} (i0 : Nat) (f : Nat -> Option T) (res : T -> R)
   (hstep : ∀ i, i0 ≤ i -> i < n -> (f i = none /\ Goes (fun k => L k i) (fun k => L k (i + 1))) ∨ (∃ t, f i = some t /\ Ev (fun k => L k i) (res t)))
   (hend : Goes (fun k => L k n) M) (i : Nat) (h0 : i0 ≤ i) (hi : i ≤ n) :
   ((List.range' i (n - i)).findSome? f = none /\ Goes (fun k => L k i) M) ∨ (∃ t, (List.range' i (n - i)).findSome? f = some t /\ Ev (fun k => L k i) (res t)) := by
 have key : ∀ m i, i0 ≤ i -> i + m = n -> ((List.range' i m).findSome? f = none /\ Goes (fun k => L k i) M) ∨ (∃ t, (List.range' i m).findSome? f = some t /\ Ev (fun k => L k i) (res t)) := by
   intro m;induction m with
   | zero => intro i h0 hi; obtain rfl : i = n := by omega
             exact .inl ⟨rfl, hend⟩
   | succ m ih =>
     intro i h0 hi;rw [List.range'_succ, List.findSome?_cons];rcases hstep i h0 (by omega) with ⟨h1, h2⟩ | ⟨t, h1, h2⟩
     . rw [h1];rcases ih (i + 1) (by omega) (by omega) with ⟨h3, h4⟩ | ⟨t, h3, h4⟩
       . exact .inl ⟨h3, h2.trans h4⟩
       . exact .inr ⟨t, h3, h2 _ h4⟩
     . rw [h1]; exact .inr ⟨t, rfl, h2⟩
 exact key (n - i) i h0 (by omega)
def A0A (s : ShfV) (i j : Nat) : MatV := s.2.2.2.getD (off s.1 i + j) (0, 0, 0, [])
theorem A3N {c : List (List Int)} (h : CplxOk c) {k i : Nat} (hk : k < c.length) (hi : i < (fcs c k).length) : ∃ f : Nat, (fcs c k).getD i 0 = (f : Int) /\ f < c.length /\ c.getD f [] = A0H (c.getD k []) i /\ i < (c.getD k []).length /\ 1 < (c.getD k []).length := by
 rw [A0N] at hi;have h1 : 1 < (c.getD k []).length := by
   by_cases h1 : 1 < (c.getD k []).length
   . exact h1
   . rw [if_neg h1] at hi; omega
 rw [if_pos h1] at hi;have hf : (A0M (c.getD k [])) = (List.range (c.getD k []).length).map (A0H (c.getD k [])) := by rw [A0M, if_pos h1]
 have hm : A0H (c.getD k []) i ∈ A0M (c.getD k []) := by rw [hf]; exact List.mem_map.2 ⟨i, List.mem_range.2 hi, rfl⟩
 obtain ⟨h2, h3⟩ := A1j (A2B h hk hm);refine ⟨_, ?_, h2, h3, hi, h1⟩;rw [fcs, hf];obtain ⟨s, hs⟩ : ∃ s, c.getD k [] = s := ⟨_, rfl⟩;rw [hs] at hi ⊢;simp only [List.getD_eq_getElem?_getD, List.getElem?_map, List.getElem?_range hi, Option.map_some, Option.getD_some]
theorem Ag3.val (s : ShfV) (h : CplxOk s.1) (n : Nat) (hn : n ≤ s.1.length) : Ag3.F (s, (n : Int), ()) = some ((((off s.1 n : Nat) : Int), ()), ()) := by
 obtain ⟨c, p, st, ms⟩ := s;have h : CplxOk c := h;have hn : n ≤ c.length := hn;have hcl := h.1;have hos := A1B h hn;have hcut : cutL c (0 : Int) (n : Int) = c.take n := by simp [cutL]
 have hlen : (c.take n).length = n := by simp; omega
 refine Ag3.of _ _ _ _ _ (Ev.of_eq (N := fun k => Ag3.l3 k 0 (c.take n) (n : Int) ((0 : Nat) : Int)) ?_ fun k => by rw [Ag3.T, if_pos (by omega), hcut, hlen]; rfl);obtain ⟨x, hx, hg⟩ := Goes.loop (R := ((Int × Unit) × Unit)) (fun k i (x : Int) => Ag3.l3 k x (c.take n) (n : Int) (i : Int)) n (fun i x => x = (off c i : Int)) (fun i x hi h2 => ⟨_, rfl, Goes.succ fun k => by
   have hic : i < c.length := by omega
   have hoff := A1B h (show i ≤ c.length by omega);have h4 := (h.2 i hic).1.1.2;have ht : (c.take n).getD i [] = c.getD i [] := by simp only [List.getD_eq_getElem?_getD, List.getElem?_take, hi, if_true]
   rw [Ag3.l3_eq, if_pos (ltI.2 hi), if_pos (by rw [hlen]; omega)];simp only [Int.toNat_natCast, ht];rw [off, A0N];by_cases h1 : 1 < (c.getD i []).length
   . rw [if_pos (by simp only [decide_eq_true_eq]; omega), Ad7.eq, Ad7.T, if_pos h1];simp only [Option.bind_some];rw [A0w (by omega) (by omega), A0y (by omega), h2];congr 1
   . rw [if_neg (by simp only [decide_eq_true_eq]; omega), if_neg h1, A0y (by omega), h2];rfl⟩) 0 0 (Nat.zero_le _) rfl
 refine hg _ ((Ev.const _).succ fun k => ?_);rw [Ag3.l3_eq, if_neg (by simp), hx]
theorem Ad8.val (s : ShfV) (h : A0j s) (i j : Nat) (hi : i < s.1.length) (hj : j < (fcs s.1 i).length) : Ad8.F (s, (i : Int), (j : Int), ()) = some ((A0A s i j, ()), ()) := by
 have h1 := Ag3.val s h.1 i (by omega);have h2 := A2z hi hj;have h3 := h.2.2.2.1;have h4 := A1B h.1 (Nat.le_refl s.1.length);have h5 := h.1.1;have hT : Ad8.F (s, (i : Int), (j : Int), ()) = Ad8.T s.1 s.2.1 s.2.2.1 s.2.2.2 (i : Int) (j : Int) := Ad8.eq _ _ _ _ _ _;have hw : IntKind.i64.wrap (((off s.1 i : Nat) : Int) + (j : Int)) = ((off s.1 i + j : Nat) : Int) := by rw [A0w (by omega) (by omega)]; omega
 have h1 : Ag3.F ((s.1, (s.2.1, (s.2.2.1, s.2.2.2))), (i : Int), ()) = _ := h1;rw [hT, Ad8.T, h1];simp only [Option.bind_some, hw];rw [if_pos (by omega)];simp only [Int.toNat_natCast];rfl
theorem Aa5.val (s : ShfV) (h : A0j s) (i j : Nat) (hi : i < s.1.length) (hj : j < (fcs s.1 i).length) : Aa5.F (s, (i : Int), (j : Int), ()) = some ((A0A s i j, ()), ()) := by
 have h2 := A2z hi hj;have h3 := h.2.2.2.1;have h4 := A1B h.1 (Nat.le_refl s.1.length);have h5 := h.1.1;have h1 := Ac0.val s.1 h.1 i (by omega) j (by omega);have hT : Aa5.F (s, (i : Int), (j : Int), ()) = Aa5.T s.1 s.2.1 s.2.2.1 s.2.2.2 (i : Int) (j : Int) := Aa5.eq _ _ _ _ _ _;rw [hT, Aa5.T, h1];simp only [Option.bind_some];rw [if_pos (by omega)];simp only [Int.toNat_natCast];rfl
def fc (c : List (List Int)) (k i : Nat) : Nat := ((fcs c k).getD i 0).toNat
def sqA (s : ShfV) (k i j : Nat) : MatV := mulM (A0A s k i) (A0A s (fc s.1 k i) (j - 1))
def sqB (s : ShfV) (k i j : Nat) : MatV := mulM (A0A s k j) (A0A s (fc s.1 k j) i)
theorem A1a {s : ShfV} (h : A0j s) {i j : Nat} (hi : i < s.1.length) (hj : j < (fcs s.1 i).length) : A2Z s.1 s.2.1 s.2.2.1 (A0A s i j) i j := h.2.2.2.2 i hi j hj
structure SqFit (s : ShfV) (k i j : Nat) (f : Nat) : Prop where
 at_ : (fcs s.1 k).getD i 0 = (f : Int)
 fc_ : fc s.1 k i = f
 lt : f < s.1.length
 jlt : j < (fcs s.1 f).length
 ilt : i < (fcs s.1 k).length
 dir : Ab7.F (A0A s k i, A0A s f j, ()) = some ((mulM (A0A s k i) (A0A s f j), ()), ())
 tim : Aa1.F (A0A s k i, A0A s f j, ()) = some ((mulM (A0A s k i) (A0A s f j), ()), ())
 ok : MatOk (mulM (A0A s k i) (A0A s f j))
theorem A3l {s : ShfV} (h : A0j s) {k i j : Nat} (hk : k < s.1.length) (h3 : 2 < (s.1.getD k []).length) (hi : i < (s.1.getD k []).length) (hj : j + 1 < (s.1.getD k []).length) : ∃ f, SqFit s k i j f := by
 have hil : i < (fcs s.1 k).length := by rw [A0N, if_pos (by omega)]; exact hi
 obtain ⟨f, h1, h2, h4, h5, h6⟩ := A3N h.1 hk hil;have hfl : (s.1.getD f []).length = (s.1.getD k []).length - 1 := by rw [h4]; exact A0n hi
 have hjl : j < (fcs s.1 f).length := by rw [A0N, if_pos (by omega)]; omega
 have m1 := A1a h hk hil;have m2 := A1a h h2 hjl;have hp : (A0A s k i).1 = (A0A s f j).1 := by rw [m1.2.1, m2.2.1]
 have hs : (A0A s k i).2.2.1 = (A0A s f j).2.1 := by rw [m1.2.2.2, m2.2.2.1, h1]; rfl
 exact ⟨f, h1, by rw [fc, h1, Int.toNat_natCast], h2, hjl, hil, Ab7.val _ _ m1.1 m2.1 hp hs, Aa1.val _ _ m1.1 m2.1 hp hs, A2D m1.1 m2.1⟩
theorem MatOk.small {m : MatV} (h : MatOk m) : SmM m := by
 have := A4w h.2.1 h.2.2.1;have := h.2.2.2.1;unfold SmM Sm;omega
noncomputable def A1o (s : ShfV) (k i j : Nat) : Option (Nat × Nat × Nat) := @ite _ (sqA s k i j = sqB s k i j) (Classical.propDecidable _) none (some (k, i, j))
noncomputable def A2Y (s : ShfV) (k n i : Nat) : Option (Nat × Nat × Nat) := (List.range' (i + 1) (n - (i + 1))).findSome? (A1o s k i)
noncomputable def A1K (s : ShfV) (k : Nat) : Option (Nat × Nat × Nat) := if (s.1.getD k []).length < 3 then none else (List.range' 0 ((s.1.getD k []).length - 0)).findSome? (A2Y s k (s.1.getD k []).length)
noncomputable def A1L (s : ShfV) : Option (Nat × Nat × Nat) := (List.range' 0 (s.1.length - 0)).findSome? (A1K s)
theorem Ab0.val (s : ShfV) (h : A0j s) : Ab0.F (s, ()) = some ((match A1L s with | none => (0, 0, false, ()) | some (k, i, j) => ((k : Int), (fcs s.1 (fc s.1 k i)).getD (j - 1) 0, true, ())), ()) := by
 have hcl := h.1.1;have hT : ∀ r, Ev (fun k => Ab0.T k s.1 s.2.1 s.2.2.1 s.2.2.2) r -> Ab0.F (s, ()) = some r := fun r hr => Ab0.of _ _ _ _ hr;have res : ∀ t : Nat × Nat × Nat, ((Int × Int × Bool × Unit) × Unit) := fun t => (((t.1 : Int), (fcs s.1 (fc s.1 t.1 t.2.1)).getD (t.2.2 - 1) 0, true, ()), ());have main := Goes.find (R := ((Int × Int × Bool × Unit) × Unit)) (L := fun n k => Ab0.l2 n s.1 (s.1.length : Int) (k : Int) s.1 s.2.1 s.2.2.1 s.2.2.2) (M := fun _ => some ((0, 0, false, ()), ())) (n := s.1.length) 0 (A1K s) (fun t : Nat × Nat × Nat => (((t.1 : Int), (fcs s.1 (fc s.1 t.1 t.2.1)).getD (t.2.2 - 1) 0, true, ()), ())) (fun k _ hk => by
   have E := fun n => Ab0.l2_eq n s.1 (s.1.length : Int) (k : Int) s.1 s.2.1 s.2.2.1 s.2.2.2;simp only [if_pos (ltI.2 hk), if_pos (idxI.2 hk), Int.toNat_natCast, A0y (show k < 4611686018427387904 by omega), Ac6.val s.1 h.1 k hk, Option.bind_some] at E;by_cases h3 : (s.1.getD k []).length < 3
   . exact .inl ⟨by rw [A1K, if_pos h3], Goes.succ fun n => by rw [E, if_pos (by simp only [decide_eq_true_eq]; omega)]⟩
   obtain ⟨t, ht⟩ : ∃ t, s.1.getD k [] = t := ⟨_, rfl⟩;have h4 := (h.1.2 k hk).1.1.2;rw [ht] at h4 h3;have hw : A1K s k = (List.range' 0 (t.length - 0)).findSome? (A2Y s k t.length) := by rw [A1K, ht, if_neg h3]
   rw [hw];simp only [ht] at E;have e0 : Goes (fun n => Ab0.l2 n s.1 (s.1.length : Int) (k : Int) s.1 s.2.1 s.2.2.1 s.2.2.2) (fun n => Ab0.l8 n t (k : Int) s.1 (s.1.length : Int) (k : Int) (t.length : Int) ((0 : Nat) : Int) s.1 s.2.1 s.2.2.1 s.2.2.2 (fcs s.1 k)) := Goes.succ fun n => by rw [E, if_neg (by simp only [decide_eq_true_eq]; omega)]; rfl
   have inner := Goes.find (R := ((Int × Int × Bool × Unit) × Unit)) (L := fun n i => Ab0.l8 n t (k : Int) s.1 (s.1.length : Int) (k : Int) (t.length : Int) (i : Int) s.1 s.2.1 s.2.2.1 s.2.2.2 (fcs s.1 k)) (M := fun n => Ab0.l2 n s.1 (s.1.length : Int) ((k + 1 : Nat) : Int) s.1 s.2.1 s.2.2.1 s.2.2.2) (n := t.length) 0 (A2Y s k t.length) (fun t : Nat × Nat × Nat => (((t.1 : Int), (fcs s.1 (fc s.1 t.1 t.2.1)).getD (t.2.2 - 1) 0, true, ()), ())) (fun i _ hi => by
     have e1 : Goes (fun n => Ab0.l8 n t (k : Int) s.1 (s.1.length : Int) (k : Int) (t.length : Int) (i : Int) s.1 s.2.1 s.2.2.1 s.2.2.2 (fcs s.1 k)) (fun n => Ab0.l11 n t (k : Int) (i : Int) ((i + 1 : Nat) : Int) s.1 (s.1.length : Int) (k : Int) (t.length : Int) (i : Int) s.1 s.2.1 s.2.2.1 s.2.2.2 (fcs s.1 k)) := Goes.succ fun n => by rw [Ab0.l8_eq, if_pos (ltI.2 hi), A0y (by omega)]
     have deep := Goes.find (R := ((Int × Int × Bool × Unit) × Unit)) (L := fun n j => Ab0.l11 n t (k : Int) (i : Int) (j : Int) s.1 (s.1.length : Int) (k : Int) (t.length : Int) (i : Int) s.1 s.2.1 s.2.2.1 s.2.2.2 (fcs s.1 k)) (M := fun n => Ab0.l8 n t (k : Int) s.1 (s.1.length : Int) (k : Int) (t.length : Int) ((i + 1 : Nat) : Int) s.1 s.2.1 s.2.2.1 s.2.2.2 (fcs s.1 k)) (n := t.length) (i + 1) (A1o s k i) (fun t : Nat × Nat × Nat => (((t.1 : Int), (fcs s.1 (fc s.1 t.1 t.2.1)).getD (t.2.2 - 1) 0, true, ()), ())) (fun j hij hj => by
       obtain ⟨f, F⟩ := A3l h hk (by rw [ht]; omega) (show i < _ by rw [ht]; omega) (show j - 1 + 1 < _ by rw [ht]; omega);obtain ⟨g, G⟩ := A3l h hk (by rw [ht]; omega) (show j < _ by rw [ht]; omega) (show i + 1 < _ by rw [ht]; omega);have hA : sqA s k i j = mulM (A0A s k i) (A0A s f (j - 1)) := by rw [sqA, F.fc_]
       have hB : sqB s k i j = mulM (A0A s k j) (A0A s g i) := by rw [sqB, G.fc_]
       obtain ⟨b, hb, hb'⟩ := Ag0.same (mulM (A0A s k i) (A0A s f (j - 1))) (mulM (A0A s k j) (A0A s g i)) F.ok.small;have E2 := fun n => Ab0.l11_eq n t (k : Int) (i : Int) (j : Int) s.1 (s.1.length : Int) (k : Int) (t.length : Int) (i : Int) s.1 s.2.1 s.2.2.1 s.2.2.2 (fcs s.1 k);simp only [if_pos (ltI.2 hj), Ad8.val s h k i hk F.ilt, Ad8.val s h k j hk G.ilt, A3I (show 0 < j by omega) (show j < 4611686018427387904 by omega), Option.bind_some, if_pos (idxI.2 F.ilt), if_pos (idxI.2 G.ilt), Int.toNat_natCast, F.at_, G.at_, Ad8.val s h f (j - 1) F.lt F.jlt, Ad8.val s h g i G.lt G.jlt, F.dir, G.dir, hb, Ac6.val s.1 h.1 f F.lt, if_pos (idxI.2 F.jlt), A0y (show j < 4611686018427387904 by omega)] at E2;cases b with
       | true => exact .inl ⟨by rw [A1o, if_pos (by rw [hA, hB]; exact hb'.1 rfl)], Goes.succ fun n => by rw [E2, if_neg (by simp)]⟩
       | false => exact .inr ⟨(k, i, j), by rw [A1o, if_neg (by rw [hA, hB]; exact fun e => absurd (hb'.2 e) (by simp))], (Ev.const _).succ fun n => by rw [E2, if_pos (by simp)]; simp only [F.fc_]⟩) (Goes.succ fun n => by rw [Ab0.l11_eq, if_neg (by simp), A0y (by omega)]) (i + 1) (Nat.le_refl _) (by omega)
     rcases deep with ⟨d1, d2⟩ | ⟨r, d1, d2⟩
     . exact .inl ⟨d1, e1.trans d2⟩
     . exact .inr ⟨r, d1, e1 _ d2⟩) (Goes.succ fun n => by rw [Ab0.l8_eq, if_neg (by simp), A0y (by omega)]) 0 (Nat.le_refl _) (Nat.zero_le _)
   rcases inner with ⟨d1, d2⟩ | ⟨r, d1, d2⟩
   . exact .inl ⟨d1, e0.trans d2⟩
   . exact .inr ⟨r, d1, e0 _ d2⟩) (Goes.succ fun n => by rw [Ab0.l2_eq, if_neg (by simp)]) 0 (Nat.le_refl _) (Nat.zero_le _)
 rcases main with ⟨d1, d2⟩ | ⟨⟨k, i, j⟩, d1, d2⟩
 . rw [A1L, d1];exact hT _ ((d2 _ (Ev.const _)).of_eq fun n => rfl)
 . rw [A1L, d1];exact hT _ (d2.of_eq fun n => rfl)
theorem Ag4.val (m : MatV) (p a b : Int) (hm : m.2.2.2.length < 4611686018427387904) : ∃ v, Ag4.F (m, p, a, b, ()) = some ((v, ()), ()) /\ (v = true ↔ MatOk m /\ m.1 = p /\ m.2.1 = b /\ m.2.2.1 = a) := by
 obtain ⟨q, r, cc, xs⟩ := m;obtain ⟨v1, h1, h1'⟩ := Al0.val (q, r, cc, xs) hm;rw [Ag4.eq, Ag4.T, h1];simp only [Option.bind_some];cases v1 with
 | false => exact ⟨false, by rw [if_neg (by simp)], by simp only [Bool.false_eq_true, false_iff]; exact fun hh => absurd (h1'.2 hh.1) (by simp)⟩
 | true =>
   have hmat := h1'.1 rfl;rw [if_pos rfl];by_cases e1 : q = p
   . rw [if_pos (by simp only [beq_iff_eq]; exact e1)];by_cases e2 : r = b
     . rw [if_pos (by simp only [beq_iff_eq]; exact e2)];exact ⟨_, rfl, by simp only [beq_iff_eq]; exact ⟨fun e3 => ⟨hmat, e1, e2, e3⟩, fun hh => hh.2.2.2⟩⟩
     . exact ⟨false, by rw [if_neg (by simp only [beq_iff_eq]; exact e2)], by simp only [Bool.false_eq_true, false_iff]; exact fun hh => e2 hh.2.2.1⟩
   . exact ⟨false, by rw [if_neg (by simp only [beq_iff_eq]; exact e1)], by simp only [Bool.false_eq_true, false_iff]; exact fun hh => e1 hh.2.1⟩
theorem A2T {c : List (List Int)} : ∀ {n q : Nat}, q < off c n -> ∃ s, s < n /\ ∃ j, j < (fcs c s).length /\ q = off c s + j := by
 intro n;induction n with
 | zero => intro q h; simp [off] at h
 | succ n ih =>
   intro q h;by_cases hq : q < off c n
   . obtain ⟨s, hs, j, hj, e⟩ := ih hq;exact ⟨s, by omega, j, hj, e⟩
   . rw [off] at h;exact ⟨n, by omega, q - off c n, by omega, by omega⟩
theorem Ac9.val (s : ShfV) (hsm : SmSh s) : ∃ v, Ac9.F (s, ()) = some ((v, ()), ()) /\ (v = true ↔ A0j s) := by
 obtain ⟨c, p, st, ms⟩ := s;obtain ⟨hc, hst, hms⟩ := hsm;have hc : SmL c := hc;have hst : st.length ≤ 1048576 := hst;have hms : SmMs ms := hms;unfold A0j;simp only [];obtain ⟨v1, h1, h1'⟩ := Ag1.val c hc;obtain ⟨v2, h2, h2'⟩ := Ad5.val p;obtain ⟨v3, h3, h3'⟩ := Ae0.val c st hc.1 hst;cases v1 with
 | false => exact ⟨false, Ac9.of _ _ _ _ ((Ev.const _).of_eq fun k => by rw [Ac9.T, h1]; rfl), by simp only [Bool.false_eq_true, false_iff]; exact fun hh => absurd (h1'.2 hh.1) (by simp)⟩
 | true =>
 cases v2 with
 | false => exact ⟨false, Ac9.of _ _ _ _ ((Ev.const _).of_eq fun k => by rw [Ac9.T, h1, h2]; rfl), by simp only [Bool.false_eq_true, false_iff]; exact fun hh => absurd (h2'.2 hh.2.1) (by simp)⟩
 | true =>
 cases v3 with
 | false => exact ⟨false, Ac9.of _ _ _ _ ((Ev.const _).of_eq fun k => by rw [Ac9.T, h1, h2, h3]; rfl), by simp only [Bool.false_eq_true, false_iff]; exact fun hh => absurd (h3'.2 hh.2.2.1) (by simp)⟩
 | true =>
 have hcx := h1'.1 rfl;have hstalk := h3'.1 rfl;have hcl := hcx.1;have hoff := A1B hcx (Nat.le_refl c.length);have hal := A0V c c.length;obtain ⟨A, hA⟩ : ∃ A, arr c c.length = A := ⟨_, rfl⟩;rw [hA] at hal;obtain ⟨b, hb, hb'⟩ := Ev.allP (L := fun k q => Ac9.l5 k (A.length : Int) (q : Int) c p st ms A) (a := ()) (b := ()) (n := A.length) (fun q => q < ms.length /\ ∀ i j, i < c.length -> j < (fcs c i).length -> q = off c i + j -> A2Z c p st (ms.getD q (0, 0, 0, [])) i j) ((A.length : Int) == (ms.length : Int)) (fun q hq => by
   obtain ⟨i, hi, j, hj, e⟩ := A2T (show q < off c c.length by omega);have hg := A1W c hi hj;rw [<- e, hA] at hg;obtain ⟨x, hx, hxc⟩ := A3O hcx hi (A0z (0 : Int) hj);have E := fun k => Ac9.l5_eq k (A.length : Int) (q : Int) c p st ms A;simp only [if_pos (ltI.2 hq), if_pos (idxI.2 hq), Int.toNat_natCast, hg, A0y (show q < 4611686018427387904 by omega)] at E;have huniq : ∀ i' j', i' < c.length -> j' < (fcs c i').length -> q = off c i' + j' -> i' = i /\ j' = j := fun i' j' hi' hj' e' => by
     have g2 := A1W c hi' hj';rw [<- e', hA, hg] at g2;simp only [Prod.mk.injEq, Int.ofNat_inj] at g2;exact ⟨g2.1.symm, g2.2.1.symm⟩
   by_cases hqm : q < ms.length
   . have hml : (ms.getD q (0, 0, 0, [])).2.2.2.length < 4611686018427387904 := by
       have : (ms.getD q (0, 0, 0, [])).2.2.2.length ≤ 1048576 := hms.2 _ (A0z _ hqm);omega
     obtain ⟨v, hv, hv'⟩ := Ag4.val (ms.getD q (0, 0, 0, [])) p (st.getD ((fcs c i).getD j 0).toNat 0) (st.getD i 0) hml;have hst2 := hstalk.1;simp only [if_neg (show ¬ decide ((q : Int) ≥ (ms.length : Int)) = true by simp only [decide_eq_true_eq]; omega), if_pos (idxI.2 hqm), if_pos (show 0 ≤ (fcs c i).getD j 0 /\ (fcs c i).getD j 0 < (st.length : Int) by rw [hx]; omega), if_pos (show 0 ≤ (i : Int) /\ (i : Int) < (st.length : Int) by omega), hv, Option.bind_some] at E;cases v with
     | true => exact .inl ⟨⟨hqm, fun i' j' hi' hj' e' => by obtain ⟨rfl, rfl⟩ := huniq i' j' hi' hj' e'; exact hv'.1 rfl⟩, fun k => by rw [E]; rfl⟩
     | false => exact .inr ⟨fun hh => absurd (hv'.2 (hh.2 i j hi hj e)) (by simp), fun k => by rw [E]; rfl⟩
   . exact .inr ⟨fun hh => hqm hh.1, fun k => by rw [E, if_pos (by simp only [decide_eq_true_eq]; omega)]⟩) ((Ev.const _).succ fun k => by rw [Ac9.l5_eq, if_neg (by simp)]) 0 (Nat.zero_le _)
 refine ⟨b, Ac9.of _ _ _ _ (hb.of_eq fun k => ?_), hb'.trans ?_⟩
 . rw [Ac9.T, h1, h2, h3, Ac1.val c hcx, hA]; rfl
 . simp only [beq_iff_eq, Int.ofNat_inj];constructor
   . rintro ⟨e, hall⟩;refine ⟨hcx, h2'.1 rfl, hstalk, by omega, fun i hi j hj => ?_⟩;have := A2z hi hj;exact (hall (off c i + j) (Nat.zero_le _) (by omega)).2 i j hi hj rfl
   . rintro ⟨-, -, -, e, hall⟩;exact ⟨by omega, fun q _ hq => ⟨by omega, fun i j hi hj e' => e' ▸ hall i hi j hj⟩⟩
theorem Af5.val (s : ShfV) (h : A0j s) {k i j : Nat} (hk : k < s.1.length) (h3 : 2 < (s.1.getD k []).length) (hi : i < (s.1.getD k []).length) (hj : j < (s.1.getD k []).length) (hij : i ≠ j) :
   Af5.F (s, (k : Int), (i : Int), (j : Int), ()) = some ((mulM (A0A s k i) (A0A s (fc s.1 k i) (if i < j then j - 1 else j)), ()), ()) := by
 have hT : Af5.F (s, (k : Int), (i : Int), (j : Int), ()) = Af5.T s.1 s.2.1 s.2.2.1 s.2.2.2 (k : Int) (i : Int) (j : Int) := Af5.eq _ _ _ _ _ _ _;have h4 := (h.1.2 k hk).1.1.2;have hcl := h.1.1;rw [hT, Af5.T, Ab4.val s.1 h.1 k hk];simp only [Option.bind_some];by_cases hlt : i < j
 . obtain ⟨f, F⟩ := A3l h hk h3 hi (show j - 1 + 1 < _ by omega);have g1 : Aa5.F ((s.1, (s.2.1, (s.2.2.1, s.2.2.2))), (k : Int), (i : Int), ()) = _ := Aa5.val s h k i hk F.ilt;have g2 : Aa5.F ((s.1, (s.2.1, (s.2.2.1, s.2.2.2))), (f : Int), ((j - 1 : Nat) : Int), ()) = _ := Aa5.val s h f (j - 1) F.lt F.jlt;rw [if_pos (idxI.2 F.ilt), if_pos (by simp only [decide_eq_true_eq]; omega), g1, A3I (by omega) (by omega)];simp only [Option.bind_some, Int.toNat_natCast, F.at_, g2, F.tim];rw [if_pos hlt, F.fc_]
 . obtain ⟨f, F⟩ := A3l h hk h3 hi (show j + 1 < _ by omega);have g1 : Aa5.F ((s.1, (s.2.1, (s.2.2.1, s.2.2.2))), (k : Int), (i : Int), ()) = _ := Aa5.val s h k i hk F.ilt;have g2 : Aa5.F ((s.1, (s.2.1, (s.2.2.1, s.2.2.2))), (f : Int), (j : Int), ()) = _ := Aa5.val s h f j F.lt F.jlt;rw [if_pos (idxI.2 F.ilt), if_neg (by simp only [decide_eq_true_eq]; omega), g1];simp only [Option.bind_some, Int.toNat_natCast, F.at_, g2, F.tim];rw [if_neg hlt, F.fc_]
theorem Aa8.val (s : ShfV) (h : A0j s) : Aa8.F (s, ()) = some ((match A1L s with | none => (-1, 0, 0, ()) | some (k, i, j) => ((k : Int), (i : Int), (j : Int), ())), ()) := by
 have hcl := h.1.1;have hT : ∀ r, Ev (fun k => Aa8.T k s.1 s.2.1 s.2.2.1 s.2.2.2) r -> Aa8.F (s, ()) = some r := fun r hr => Aa8.of _ _ _ _ hr;have main := Goes.find (R := ((Int × Int × Int × Unit) × Unit)) (L := fun n k => Aa8.l2 n s.1 s.2.1 s.2.2.1 s.2.2.2 (k : Int)) (M := fun _ => some ((-1, 0, 0, ()), ())) (n := s.1.length) 0 (A1K s) (fun t : Nat × Nat × Nat => (((t.1 : Int), (t.2.1 : Int), (t.2.2 : Int), ()), ())) (fun k _ hk => by
   obtain ⟨t, ht⟩ : ∃ t, s.1.getD k [] = t := ⟨_, rfl⟩;have h4 := (h.1.2 k hk).1.1;rw [ht] at h4;have e0 : Goes (fun n => Aa8.l2 n s.1 s.2.1 s.2.2.1 s.2.2.2 (k : Int)) (fun n => Aa8.l6 n s.1 s.2.1 s.2.2.1 s.2.2.2 (k : Int) (t.length : Int) ((0 : Nat) : Int)) := Goes.succ fun n => by rw [Aa8.l2_eq, if_pos (ltI.2 hk), if_pos (idxI.2 hk)]; simp only [Int.toNat_natCast, ht]; rfl
   by_cases h3 : t.length < 3
   . exact .inl ⟨by rw [A1K, ht, if_pos h3], e0.trans (Goes.succ fun n => by rw [Aa8.l6_eq, if_pos (by simp only [decide_eq_true_eq]; omega), if_neg (by simp only [decide_eq_true_eq]; omega), A0y (by omega)])⟩
   have hw : A1K s k = (List.range' 0 (t.length - 0)).findSome? (A2Y s k t.length) := by rw [A1K, ht, if_neg h3]
   rw [hw];have inner := Goes.find (R := ((Int × Int × Int × Unit) × Unit)) (L := fun n i => Aa8.l6 n s.1 s.2.1 s.2.2.1 s.2.2.2 (k : Int) (t.length : Int) (i : Int)) (M := fun n => Aa8.l2 n s.1 s.2.1 s.2.2.1 s.2.2.2 ((k + 1 : Nat) : Int)) (n := t.length) 0 (A2Y s k t.length) (fun t : Nat × Nat × Nat => (((t.1 : Int), (t.2.1 : Int), (t.2.2 : Int), ()), ())) (fun i _ hi => by
     have e1 : Goes (fun n => Aa8.l6 n s.1 s.2.1 s.2.2.1 s.2.2.2 (k : Int) (t.length : Int) (i : Int)) (fun n => Aa8.l9 n s.1 s.2.1 s.2.2.1 s.2.2.2 (k : Int) (t.length : Int) (i : Int) ((i + 1 : Nat) : Int)) := Goes.succ fun n => by rw [Aa8.l6_eq, if_pos (ltI.2 hi), if_pos (by simp only [decide_eq_true_eq]; omega), A0y (by omega)]
     have deep := Goes.find (R := ((Int × Int × Int × Unit) × Unit)) (L := fun n j => Aa8.l9 n s.1 s.2.1 s.2.2.1 s.2.2.2 (k : Int) (t.length : Int) (i : Int) (j : Int)) (M := fun n => Aa8.l6 n s.1 s.2.1 s.2.2.1 s.2.2.2 (k : Int) (t.length : Int) ((i + 1 : Nat) : Int)) (n := t.length) (i + 1) (A1o s k i) (fun t : Nat × Nat × Nat => (((t.1 : Int), (t.2.1 : Int), (t.2.2 : Int), ()), ())) (fun j hij hj => by
       have A := Af5.val s h hk (by rw [ht]; omega) (show i < _ by rw [ht]; omega) (show j < _ by rw [ht]; omega) (by omega);have B := Af5.val s h hk (by rw [ht]; omega) (show j < _ by rw [ht]; omega) (show i < _ by rw [ht]; omega) (by omega);rw [if_pos (by omega)] at A;rw [if_neg (by omega)] at B;have A : Af5.F ((s.1, (s.2.1, (s.2.2.1, s.2.2.2))), (k : Int), (i : Int), (j : Int), ()) = some ((sqA s k i j, ()), ()) := A;have B : Af5.F ((s.1, (s.2.1, (s.2.2.1, s.2.2.2))), (k : Int), (j : Int), (i : Int), ()) = some ((sqB s k i j, ()), ()) := B;obtain ⟨f, F⟩ := A3l h hk (by rw [ht]; omega) (show i < _ by rw [ht]; omega) (show j - 1 + 1 < _ by rw [ht]; omega);have hA : sqA s k i j = mulM (A0A s k i) (A0A s f (j - 1)) := by rw [sqA, F.fc_]
       obtain ⟨b, hb, hb'⟩ := Ac7.same (sqA s k i j) (sqB s k i j) (by rw [hA]; exact F.ok.small);have E2 := fun n => Aa8.l9_eq n s.1 s.2.1 s.2.2.1 s.2.2.2 (k : Int) (t.length : Int) (i : Int) (j : Int);simp only [if_pos (ltI.2 hj), A, B, Option.bind_some, hb, A0y (show j < 4611686018427387904 by omega)] at E2;cases b with
       | true => exact .inl ⟨by rw [A1o, if_pos (hb'.1 rfl)], Goes.succ fun n => by rw [E2, if_neg (by simp)]⟩
       | false => exact .inr ⟨(k, i, j), by rw [A1o, if_neg (fun e => absurd (hb'.2 e) (by simp))], (Ev.const _).succ fun n => by rw [E2, if_pos (by simp)]⟩) (Goes.succ fun n => by rw [Aa8.l9_eq, if_neg (by simp), A0y (by omega)]) (i + 1) (Nat.le_refl _) (by omega)
     rcases deep with ⟨d1, d2⟩ | ⟨r, d1, d2⟩
     . exact .inl ⟨d1, e1.trans d2⟩
     . exact .inr ⟨r, d1, e1 _ d2⟩) (Goes.succ fun n => by rw [Aa8.l6_eq, if_neg (by simp), A0y (by omega)]) 0 (Nat.le_refl _) (Nat.zero_le _)
   rcases inner with ⟨d1, d2⟩ | ⟨r, d1, d2⟩
   . exact .inl ⟨d1, e0.trans d2⟩
   . exact .inr ⟨r, d1, e0 _ d2⟩) (Goes.succ fun n => by rw [Aa8.l2_eq, if_neg (by simp)]) 0 (Nat.le_refl _) (Nat.zero_le _)
 rcases main with ⟨d1, d2⟩ | ⟨⟨k, i, j⟩, d1, d2⟩
 . rw [A1L, d1];exact hT _ ((d2 _ (Ev.const _)).of_eq fun n => rfl)
 . rw [A1L, d1];exact hT _ (d2.of_eq fun n => rfl)
def A0D (s : ShfV) : Prop := A0j s /\ A1L s = none
theorem Ai3.val (s : ShfV) (hs : SmSh s) : ∃ v, Ai3.F (s, ()) = some ((v, ()), ()) /\ (v = true ↔ A0D s) := by
 have hT : Ai3.F (s, ()) = Ai3.T s.1 s.2.1 s.2.2.1 s.2.2.2 := Ai3.eq _ _ _ _;obtain ⟨v, hv, hv'⟩ := Ac9.val s hs;have hv : Ac9.F ((s.1, (s.2.1, (s.2.2.1, s.2.2.2))), ()) = _ := hv;rw [hT, Ai3.T, hv];simp only [Option.bind_some];cases v with
 | false => exact ⟨false, by rw [if_pos (by simp)], by simp only [Bool.false_eq_true, false_iff]; exact fun h => absurd (hv'.2 h.1) (by simp)⟩
 | true =>
   have hok := hv'.1 rfl;have hw : Ab0.F ((s.1, (s.2.1, (s.2.2.1, s.2.2.2))), ()) = _ := Ab0.val s hok;rw [if_neg (by simp), hw];simp only [Option.bind_some];cases hwt : A1L s with
   | none => exact ⟨true, rfl, by simp [A0D, hok, hwt]⟩
   | some t => obtain ⟨k, i, j⟩ := t; exact ⟨false, rfl, by simp [A0D, hwt]⟩
theorem Aa7.val (s : ShfV) (hs : SmSh s) : ∃ v, Aa7.F (s, ()) = some ((v, ()), ()) /\ (v = true ↔ A0D s) := by
 have hT : Aa7.F (s, ()) = Aa7.T s.1 s.2.1 s.2.2.1 s.2.2.2 := Aa7.eq _ _ _ _;obtain ⟨v, hv, hv'⟩ := Aa3.val s hs;have hv : Aa3.F ((s.1, (s.2.1, (s.2.2.1, s.2.2.2))), ()) = _ := hv;rw [hT, Aa7.T, hv];simp only [Option.bind_some];cases v with
 | false => exact ⟨false, by rw [if_pos (by simp)], by simp only [Bool.false_eq_true, false_iff]; exact fun h => absurd (hv'.2 h.1) (by simp)⟩
 | true =>
   have hok := hv'.1 rfl;have hw : Aa8.F ((s.1, (s.2.1, (s.2.2.1, s.2.2.2))), ()) = _ := Aa8.val s hok;rw [if_neg (by simp), hw];simp only [Option.bind_some];cases hwt : A1L s with
   | none => exact ⟨true, rfl, by simp [A0D, hok, hwt]⟩
   | some t => obtain ⟨k, i, j⟩ := t; exact ⟨false, by simp, by simp [A0D, hwt]⟩
end Go.Proofs.YtnfpapicmhhlnaaGreat
