/- What the functions answer. -/
import Derived.Test.YtjimdbbeilfkfaaGreatOpenPartG1
namespace Go.Proofs.YtjimdbbeilfkfaaGreat
open Go Go.Vm
set_option linter.unusedVariables false
set_option linter.unusedSimpArgs false
abbrev A0Y := Int × Int × Int
theorem A0q {x : Int} (h1 : -9223372036854775808 ≤ x) (h2 : x ≤ 9223372036854775807) : IntKind.i64.wrap x = x := by
 have e : (2 : Int) ^ (IntKind.i64).bits = 18446744073709551616 := by decide
 have e2 : (2 : Int) ^ ((IntKind.i64).bits - 1) = 9223372036854775808 := by decide
 unfold IntKind.wrap;simp only [e, e2, show IntKind.i64.signed = true from rfl, Bool.true_and, decide_eq_true_eq];split <;> omega
theorem A0y {i : Nat} (h : i < 4611686018427387904) : IntKind.i64.wrap ((i : Int) + 1) = ((i + 1 : Nat) : Int) := by
 rw [A0q (by omega) (by omega)]; omega
theorem idxI {α : Type} {xs : List α} {i : Nat} : (0 ≤ (i : Int) /\ (i : Int) < (xs.length : Int)) ↔ i < xs.length := by omega
theorem ltI {i n : Nat} : (decide ((i : Int) < (n : Int))) = true ↔ i < n := by simp
theorem A0x {α : Type} {xs : List α} {i : Nat} {d : α} (h : i < xs.length) : xs.getD i d = xs[i] := by
 rw [List.getD_eq_getElem?_getD, List.getElem?_eq_getElem h]; rfl
def Goes {R : Type} (A B : Nat -> Option R) : Prop := ∀ r, Ev B r -> Ev A r
theorem Goes.refl {R : Type} (A : Nat -> Option R) : Goes A A := fun _ h => h
theorem Goes.trans {R : Type} {A B C : Nat -> Option R} (h : Goes A B) (k : Goes B C) : Goes A C := fun r hr => h r (k r hr)
theorem Goes.succ {R : Type} {A B : Nat -> Option R} (e : ∀ k, A (k + 1) = B k) : Goes A B := fun _ h => h.succ e
theorem Goes.of_eq {R : Type} {A B : Nat -> Option R} (e : ∀ k, A k = B k) : Goes A B := fun _ h => h.of_eq e
theorem Ev.loop {σ R : Type} (L : Nat -> Nat -> σ -> Option R) (n : Nat) (I : Nat -> σ -> Prop) (Q : R -> Prop)
   (hstep : ∀ i s, i < n -> I i s -> (∃ r, Ev (fun k => L k i s) r /\ Q r) ∨ (∃ s', I (i + 1) s' /\ Goes (fun k => L k i s) (fun k => L k (i + 1) s')))
   (hend : ∀ s, I n s -> ∃ r, Ev (fun k => L k n s) r /\ Q r) : ∀ i s, i ≤ n -> I i s -> ∃ r, Ev (fun k => L k i s) r /\ Q r := by
 have key : ∀ j i s, i + j = n -> I i s -> ∃ r, Ev (fun k => L k i s) r /\ Q r := by
   intro j;induction j with
   | zero => intro i s hi h; obtain rfl : i = n := by omega
             exact hend s h
   | succ j ih =>
     intro i s hi h;rcases hstep i s (by omega) h with h1 | ⟨s', h1, h2⟩
     . exact h1
     . obtain ⟨r, hr, hq⟩ := ih (i + 1) s' (by omega) h1;exact ⟨r, h2 r hr, hq⟩
 exact fun i s hi h => key (n - i) i s (by omega) h
theorem Goes.loop {σ R : Type} (L : Nat -> Nat -> σ -> Option R) (n : Nat) (I : Nat -> σ -> Prop)
   (hstep : ∀ i s, i < n -> I i s -> ∃ s', I (i + 1) s' /\ Goes (fun k => L k i s) (fun k => L k (i + 1) s')) : ∀ i s, i ≤ n -> I i s -> ∃ s', I n s' /\ Goes (fun k => L k i s) (fun k => L k n s') := by
 have key : ∀ j i s, i + j = n -> I i s -> ∃ s', I n s' /\ Goes (fun k => L k i s) (fun k => L k n s') := by
   intro j;induction j with
   | zero => intro i s hi h; obtain rfl : i = n := by omega
             exact ⟨s, h, Goes.refl _⟩
   | succ j ih =>
     intro i s hi h;obtain ⟨s', h1, h2⟩ := hstep i s (by omega) h;obtain ⟨s2, h3, h4⟩ := ih (i + 1) s' (by omega) h1;exact ⟨s2, h3, h2.trans h4⟩
 exact fun i s hi h => key (n - i) i s (by omega) h
theorem Ev.all {A B : Type} {L : Nat -> Nat -> Option ((Bool × A) × B)} {a : A} {b : B} {n : Nat} (p : Nat -> Bool) (hstep : ∀ k i, i < n -> L (k + 1) i = if p i = true then L k (i + 1) else some ((false, a), b)) (hend : ∀ k, L (k + 1) n = some ((true, a), b)) (i : Nat) (hi : i ≤ n) :
   ∃ v, Ev (fun k => L k i) ((v, a), b) /\ (v = true ↔ ∀ j, i ≤ j -> j < n -> p j = true) := by
 have key : ∀ m i, i + m = n -> ∃ v, Ev (fun k => L k i) ((v, a), b) /\ (v = true ↔ ∀ j, i ≤ j -> j < n -> p j = true) := by
   intro m;induction m with
   | zero => intro i hi; obtain rfl : i = n := by omega
             exact ⟨true, (Ev.const _).succ hend, by simp; intro j _ _; omega⟩
   | succ m ih =>
     intro i hi;obtain ⟨v, hv, hv'⟩ := ih (i + 1) (by omega);cases hp : p i with
     | false => exact ⟨false, (Ev.const _).succ fun k => by rw [hstep k i (by omega), hp]; rfl, by simp; exact ⟨i, Nat.le_refl _, by omega, hp⟩⟩
     | true =>
       refine ⟨v, hv.succ fun k => by rw [hstep k i (by omega), hp]; rfl, hv'.trans ⟨fun h j hj hn => ?_, fun h j hj hn => h j (by omega) hn⟩⟩;by_cases hij : j = i
       . rw [hij]; exact hp
       . exact h j (by omega) hn
 exact key (n - i) i (by omega)
theorem all_eq {α : Type} {xs ys : List α} (hl : xs.length = ys.length) (q : α -> α -> Bool) (hq : ∀ x y, q x y = true ↔ x = y) (d : α) : (∀ j, 0 ≤ j -> j < xs.length -> q (xs.getD j d) (ys.getD j d) = true) ↔ xs = ys := by
 constructor
 . intro h;refine List.ext_getElem hl fun i h1 h2 => ?_;have := (hq _ _).1 (h i (Nat.zero_le _) h1)
   rwa [A0x h1, A0x h2] at this
 . rintro rfl j _ _;exact (hq _ _).2 rfl
theorem Goes.fill {α R : Type} {L : Nat -> Nat -> List α -> Option R} (xs : List α) (d : α) (hstep : ∀ k i ys, i < xs.length -> ys.length = xs.length -> L (k + 1) i ys = L k (i + 1) (ys.set i (xs.getD i d))) (ys : List α) (hy : ys.length = xs.length) :
   Goes (fun k => L k 0 ys) (fun k => L k xs.length xs) := by
 obtain ⟨s, ⟨hs1, hs2⟩, hs3⟩ := Goes.loop L xs.length (fun i s => s.length = xs.length /\ s.take i = xs.take i) (fun i s hi ⟨h1, h2⟩ => ⟨s.set i (xs.getD i d), ⟨by simp [h1], by
   rw [List.take_add_one, List.take_add_one, List.take_set_of_le (Nat.le_refl _), h2];simp [hi, h1, A0x hi]⟩, Goes.succ fun k => hstep k i s hi h1⟩) 0 ys (Nat.zero_le _) ⟨hy, by simp⟩
 have : s = xs := by
   rw [List.take_of_length_le (by omega), List.take_of_length_le (Nat.le_refl _)] at hs2;exact hs2
 rw [this] at hs3;exact hs3
theorem ite_nb {α : Type} (b : Bool) (x y : α) : (if (!b) = true then x else y) = if b = true then y else x := by cases b <;> rfl
theorem Ev.allP {A B : Type} {L : Nat -> Nat -> Option ((Bool × A) × B)} {a : A} {b : B} {n : Nat} (P : Nat -> Prop) (e : Bool) (hstep : ∀ i, i < n -> (P i /\ ∀ k, L (k + 1) i = L k (i + 1)) ∨ (¬ P i /\ ∀ k, L (k + 1) i = some ((false, a), b))) (hend : Ev (fun k => L k n) ((e, a), b)) (i : Nat) (hi : i ≤ n) :
   ∃ v, Ev (fun k => L k i) ((v, a), b) /\ (v = true ↔ e = true /\ ∀ j, i ≤ j -> j < n -> P j) := by
 have key : ∀ m i, i + m = n -> ∃ v, Ev (fun k => L k i) ((v, a), b) /\ (v = true ↔ e = true /\ ∀ j, i ≤ j -> j < n -> P j) := by
   intro m;induction m with
   | zero => intro i hi; obtain rfl : i = n := by omega
             exact ⟨e, hend, ⟨fun h => ⟨h, fun j h1 h2 => by omega⟩, fun h => h.1⟩⟩
   | succ m ih =>
     intro i hi;obtain ⟨v, hv, hv'⟩ := ih (i + 1) (by omega);rcases hstep i (by omega) with ⟨hp, h⟩ | ⟨hp, h⟩
     . refine ⟨v, hv.succ h, hv'.trans ⟨fun ⟨h1, h2⟩ => ⟨h1, fun j hj hn => ?_⟩, fun ⟨h1, h2⟩ => ⟨h1, fun j hj hn => h2 j (by omega) hn⟩⟩⟩;by_cases hij : j = i
       . rw [hij]; exact hp
       . exact h2 j (by omega) hn
     . exact ⟨false, (Ev.const _).succ h, ⟨fun h => (by cases h), fun ⟨_, h2⟩ => absurd (h2 i (Nat.le_refl _) (by omega)) hp⟩⟩
 exact key (n - i) i (by omega)
theorem A2z {i : Nat} (h : 0 < i) (h2 : i < 4611686018427387904) : IntKind.i64.wrap ((i : Int) - 1) = ((i - 1 : Nat) : Int) := by
 rw [A0q (by omega) (by omega)]; omega
theorem Goes.foldl {α σ R : Type} {L : Nat -> Nat -> σ -> Option R} (xs : List α) (d : α) (f : σ -> α -> σ) (hstep : ∀ k i s, i < xs.length -> L (k + 1) i s = L k (i + 1) (f s (xs.getD i d))) (s : σ) : Goes (fun k => L k 0 s) (fun k => L k xs.length (xs.foldl f s)) := by
 have key : ∀ m i s, i + m = xs.length -> Goes (fun k => L k i s) (fun k => L k xs.length ((xs.drop i).foldl f s)) := by
   intro m;induction m with
   | zero => intro i s hi; obtain rfl : i = xs.length := by omega
             rw [List.drop_length]; exact Goes.refl _
   | succ m ih =>
     intro i s hi;have h : i < xs.length := by omega
     refine (Goes.succ fun k => hstep k i s h).trans ?_;rw [List.drop_eq_getElem_cons h, List.foldl_cons, <- A0x (d := d) h];exact ih (i + 1) _ (by omega)
 have := key xs.length 0 s (by omega);simpa using this
theorem A0z {α : Type} {xs : List α} {i : Nat} (d : α) (h : i < xs.length) : xs.getD i d ∈ xs := by rw [A0x h]; exact List.getElem_mem h
theorem Ev.allF {A B : Type} {L : Nat -> Nat -> Option ((Bool × A) × B)} {a : A} {b : B} {n : Nat} (P : Nat -> Prop) (e : Bool) (i0 : Nat) (hstep : ∀ i, i0 ≤ i -> i < n -> (P i /\ ∀ k, L (k + 1) i = L k (i + 1)) ∨ (¬ P i /\ ∀ k, L (k + 1) i = some ((false, a), b))) (hend : Ev (fun k => L k n) ((e, a), b)) (i : Nat) (h0 : i0 ≤ i) (hi : i ≤ n) :
   ∃ v, Ev (fun k => L k i) ((v, a), b) /\ (v = true ↔ e = true /\ ∀ j, i ≤ j -> j < n -> P j) := by
 have key : ∀ m i, i0 ≤ i -> i + m = n -> ∃ v, Ev (fun k => L k i) ((v, a), b) /\ (v = true ↔ e = true /\ ∀ j, i ≤ j -> j < n -> P j) := by
   intro m;induction m with
   | zero => intro i h0 hi; obtain rfl : i = n := by omega
             exact ⟨e, hend, ⟨fun h => ⟨h, fun j h1 h2 => by omega⟩, fun h => h.1⟩⟩
   | succ m ih =>
     intro i h0 hi;obtain ⟨v, hv, hv'⟩ := ih (i + 1) (by omega) (by omega);rcases hstep i h0 (by omega) with ⟨hp, h⟩ | ⟨hp, h⟩
     . refine ⟨v, hv.succ h, hv'.trans ⟨fun ⟨h1, h2⟩ => ⟨h1, fun j hj hn => ?_⟩, fun ⟨h1, h2⟩ => ⟨h1, fun j hj hn => h2 j (by omega) hn⟩⟩⟩;by_cases hij : j = i
       . rw [hij]; exact hp
       . exact h2 j (by omega) hn
     . exact ⟨false, (Ev.const _).succ h, ⟨fun h => (by cases h), fun ⟨_, h2⟩ => absurd (h2 i (Nat.le_refl _) (by omega)) hp⟩⟩
 exact key (n - i) i h0 (by omega)
theorem Aa1.val (n lo hi : Int) : Aa1.F (n, lo, hi, ()) = some ((decide (lo ≤ n /\ n ≤ hi), ()), ()) := by
 rw [Aa1.eq, Aa1.T];by_cases h : lo ≤ n
 . rw [if_pos (by simp [h])]; simp [h]
 . rw [if_neg (by simp [h])]; simp [h]
theorem Aa4.val (n lo hi : Int) : Aa4.F (n, lo, hi, ()) = some ((decide (lo ≤ n /\ n ≤ hi), ()), ()) := by
 rw [Aa4.eq, Aa4.T];by_cases h : lo ≤ n
 . rw [if_pos (by simp [h])]; simp [h]
 . rw [if_neg (by simp [h])]; simp [h]
def cmpI (x y : Int) : Int := if x < y then -1 else if x > y then 1 else 0
theorem Aj4.val (x y : Int) : Aj4.F (x, y, ()) = some ((cmpI x y, ()), ()) := by
 rw [Aj4.eq, Aj4.T, Aj6.eq, Aj6.T, Aj6.eq, Aj6.T];simp only [Option.bind_some, bne_self_eq_false, Bool.false_eq_true, if_false, decide_eq_true_eq, cmpI]
 repeat' split
 all_goals rfl
theorem Af7.val2 (x y : Int) : Af7.F ([x, y], ()) = some ((if x ≠ 0 then x else y, ()), ()) := by
 refine Af7.of _ ⟨3, fun k hk => ?_⟩;obtain ⟨k, rfl⟩ : ∃ j, k = j + 1 + 1 + 1 := ⟨k - 3, by omega⟩;show Af7.T (k + 1 + 1 + 1) [x, y] = _;rw [Af7.T, Af7.l3_eq];by_cases hx : x = 0
 . subst hx;simp only [List.length_cons, List.length_nil];rw [if_pos (by simp), if_pos (by simp), if_neg (by simp), Af7.l3_eq];simp only [List.length_cons, List.length_nil];rw [A0q (by omega) (by omega)];rw [if_pos (by simp), if_pos (by simp)];by_cases hy : y = 0
   . subst hy;rw [if_neg (by simp), Af7.l3_eq, A0q (by omega) (by omega), if_neg (by simp)]; simp
   . rw [if_pos (by simp [hy])]; simp
 . simp only [List.length_cons, List.length_nil];rw [if_pos (by simp), if_pos (by simp), if_pos (by simp [hx])];simp [hx]
abbrev MatV := Int × Int × Int × List Int
abbrev ShfV := List (List Int) × Int × List Int × List MatV
def Sm (xs : List Int) : Prop := xs.length ≤ 1048576
def SmL (xs : List (List Int)) : Prop := xs.length ≤ 1048576 /\ ∀ x ∈ xs, Sm x
def SmM (m : MatV) : Prop := Sm m.2.2.2
def SmMs (ms : List MatV) : Prop := ms.length ≤ 1048576 /\ ∀ m ∈ ms, SmM m
def SmSh (s : ShfV) : Prop := SmL s.1 /\ Sm s.2.2.1 /\ SmMs s.2.2.2
theorem A2D {α : Type} (L : Nat -> Nat -> Int -> Option ((Int × Unit) × Unit)) (xs : List α) (d : α) (P : α -> Prop)
   (hstep : ∀ i l, i < xs.length -> 0 ≤ l -> l ≤ 1048576 -> (∃ r, 0 ≤ r /\ r ≤ l /\ P (xs.getD i d) /\ ∀ k, L (k + 1) i l = L k (i + 1) r) ∨ ∀ k, L (k + 1) i l = some ((-1, ()), ()))
   (hend : ∀ k l, L (k + 1) xs.length l = some ((l, ()), ())) (l : Int) (h0 : 0 ≤ l) (h1 : l ≤ 1048576) :
   ∃ r, Ev (fun k => L k 0 l) ((r, ()), ()) /\ (r = -1 ∨ 0 ≤ r /\ r ≤ l /\ ∀ x ∈ xs, P x) := by
 obtain ⟨r, hr, q, rfl, hq⟩ := Ev.loop (σ := Int) L xs.length (fun i s => 0 ≤ s /\ s ≤ l /\ ∀ j, j < i -> P (xs.getD j d)) (fun r => ∃ q : Int, r = ((q, ()), ()) /\ (q = -1 ∨ 0 ≤ q /\ q ≤ l /\ ∀ x ∈ xs, P x))
   (fun i s hi ⟨a, b, c⟩ => by
     rcases hstep i s hi a (by omega) with ⟨r, r0, r1, hp, e⟩ | e
     . refine .inr ⟨r, ⟨r0, by omega, fun j hj => ?_⟩, Goes.succ e⟩;by_cases hji : j = i
       . rw [hji]; exact hp
       . exact c j (by omega)
     . exact .inl ⟨_, (Ev.const _).succ e, -1, rfl, .inl rfl⟩)
   (fun s ⟨a, b, c⟩ => ⟨_, (Ev.const _).succ fun k => hend k s, s, rfl, .inr ⟨a, b, fun x hx => by
     obtain ⟨j, hj, rfl⟩ := List.getElem_of_mem hx;rw [<- A0x (d := d) hj]; exact c j hj⟩⟩) 0 l (Nat.zero_le _) ⟨h0, Int.le_refl _, fun j hj => by omega⟩
 exact ⟨q, hr, hq⟩
theorem A0U {α : Type} (L : Nat -> Nat -> Option ((Bool × Unit) × Unit)) (xs ys : List α) (d : α) (hl : xs.length = ys.length)
   (hstep : ∀ i, i < xs.length -> ∃ b : Bool, (b = true ↔ xs.getD i d = ys.getD i d) /\ ∀ k, L (k + 1) i = if (!b) = true then some ((false, ()), ()) else L k (i + 1))
   (hend : ∀ k, L (k + 1) xs.length = some ((true, ()), ())) : ∃ v, Ev (fun k => L k 0) ((v, ()), ()) /\ (v = true ↔ xs = ys) := by
 obtain ⟨v, hv, hv'⟩ := Ev.allP (L := L) (a := ()) (b := ()) (n := xs.length) (fun i => xs.getD i d = ys.getD i d) true (fun i hi => by
   obtain ⟨b, hb, e⟩ := hstep i hi;cases b with
   | true => exact .inl ⟨hb.1 rfl, fun k => by rw [e]; rfl⟩
   | false => exact .inr ⟨fun h => absurd (hb.2 h) (by simp), fun k => by rw [e]; rfl⟩) ((Ev.const _).succ hend) 0 (Nat.zero_le _)
 refine ⟨v, hv, hv'.trans ⟨fun ⟨_, h⟩ => ?_, fun h => ⟨rfl, fun j _ _ => by rw [h]⟩⟩⟩;refine List.ext_getElem hl fun i h1 h2 => ?_;have := h i (Nat.zero_le _) h1
 rwa [A0x h1, A0x h2] at this
theorem idx2 {i n : Nat} (h : i < n) : 0 ≤ (i : Int) /\ (i : Int) < (n : Int) := by omega
def lexc : List Int -> List Int -> Int
 | [], [] => 0
 | [], _ :: _ => -1
 | _ :: _, [] => 1
 | a :: u, b :: v => if cmpI a b ≠ 0 then cmpI a b else lexc u v
theorem A0v (x y : Int) : (x < y /\ cmpI x y = -1) ∨ (x = y /\ cmpI x y = 0) ∨ (y < x /\ cmpI x y = 1) := by
 unfold cmpI;by_cases h : x < y
 . exact .inl ⟨h, if_pos h⟩
 . by_cases h2 : x > y
   . exact .inr (.inr ⟨h2, by rw [if_neg h, if_pos h2]⟩)
   . exact .inr (.inl ⟨by omega, by rw [if_neg h, if_neg h2]⟩)
theorem A1S : ∀ (a b : List Int), lexc a b = 0 ↔ a = b
 | [], [] => by simp [lexc]
 | [], _ :: _ => by simp [lexc]
 | _ :: _, [] => by simp [lexc]
 | a :: u, b :: v => by
   rcases A0v a b with ⟨h, e⟩ | ⟨h, e⟩ | ⟨h, e⟩
   . simp [lexc, e]; intro h'; omega
   . subst h; simp [lexc, e, A1S u v]
   . simp [lexc, e]; intro h'; omega
theorem A1D : ∀ (a b c : List Int), lexc a b < 0 -> lexc b c < 0 -> lexc a c < 0
 | [], [], c, h1, _ => by simp [lexc] at h1
 | [], _ :: _, [], _, h2 => by simp [lexc] at h2
 | [], _ :: _, _ :: _, _, _ => by simp [lexc]
 | _ :: _, [], c, h1, _ => by simp [lexc] at h1
 | _ :: _, _ :: _, [], _, h2 => by simp [lexc] at h2
 | a :: u, b :: v, c :: w, h1, h2 => by
   have ih := A1D u v w;simp only [lexc] at h1 h2 ⊢;rcases A0v a b with ⟨g1, e1⟩ | ⟨g1, e1⟩ | ⟨g1, e1⟩ <;> rcases A0v b c with ⟨g2, e2⟩ | ⟨g2, e2⟩ | ⟨g2, e2⟩ <;> rcases A0v a c with ⟨g3, e3⟩ | ⟨g3, e3⟩ | ⟨g3, e3⟩ <;> simp [e1, e2, e3] at h1 h2 ⊢ <;> first | omega | exact ih h1 h2
def cmpS (a b : List Int) : Int := if cmpI a.length b.length ≠ 0 then cmpI a.length b.length else lexc a b
theorem A0H (a b : List Int) : cmpS a b = 0 ↔ a = b := by
 unfold cmpS;rcases A0v a.length b.length with ⟨h, e⟩ | ⟨h, e⟩ | ⟨h, e⟩
 . simp [e]; intro h'; rw [h'] at h; omega
 . simp [e, A1S]
 . simp [e]; intro h'; rw [h'] at h; omega
theorem A0W (a b c : List Int) (h1 : cmpS a b < 0) (h2 : cmpS b c < 0) : cmpS a c < 0 := by
 unfold cmpS at *;rcases A0v a.length b.length with ⟨g1, e1⟩ | ⟨g1, e1⟩ | ⟨g1, e1⟩ <;> rcases A0v b.length c.length with ⟨g2, e2⟩ | ⟨g2, e2⟩ | ⟨g2, e2⟩ <;> rcases A0v a.length c.length with ⟨g3, e3⟩ | ⟨g3, e3⟩ | ⟨g3, e3⟩ <;> simp [e1, e2, e3] at h1 h2 ⊢ <;> first | omega | exact A1D a b c h1 h2
theorem A1r {a b : List Int} (h : a.length < b.length) : cmpS a b < 0 := by
 unfold cmpS;rcases A0v a.length b.length with ⟨g, e⟩ | ⟨g, e⟩ | ⟨g, e⟩
 . simp [e]
 . omega
 . omega
theorem Aj3.val (x y : Int) : Aj3.F (x, y, ()) = some ((cmpI x y, ()), ()) := by
 rw [Aj3.eq, Aj3.T, Aj5.eq, Aj5.T, Aj5.eq, Aj5.T];simp only [Option.bind_some, bne_self_eq_false, Bool.false_eq_true, if_false, decide_eq_true_eq, cmpI]
 repeat' split
 all_goals rfl
theorem A1R {a b : List Int} {i : Nat} (ha : i < a.length) (hb : i < b.length) : lexc (a.drop i) (b.drop i) = if cmpI (a.getD i 0) (b.getD i 0) ≠ 0 then cmpI (a.getD i 0) (b.getD i 0) else lexc (a.drop (i + 1)) (b.drop (i + 1)) := by
 rw [List.drop_eq_getElem_cons ha, List.drop_eq_getElem_cons hb, A0x ha, A0x hb]; rfl
theorem Ah3.val (a b : List Int) (ha : a.length ≤ 1048576) (hb : b.length ≤ 1048576) : Ah3.F (a, b, ()) = some ((lexc a b, ()), ()) := by
 obtain ⟨r, hr, hq⟩ := Ev.loop (σ := Unit) (R := (Int × Unit) × Unit) (fun k i _ => Ah3.l2 k a b a a.length (i : Int)) a.length (fun i _ => i ≤ b.length /\ lexc a b = lexc (a.drop i) (b.drop i)) (fun r => r = ((lexc a b, ()), ()))
   (fun i s hi ⟨h1, h2⟩ => by
     have E := fun k => Ah3.l2_eq k a b a a.length (i : Int);simp only [if_pos (ltI.2 hi), if_pos (idxI.2 hi), Int.toNat_natCast, A0y (show i < 4611686018427387904 by omega)] at E;by_cases hib : i < b.length
     . simp only [if_neg (show ¬ decide ((i : Int) ≥ (b.length : Int)) = true by simp; omega), if_pos (idxI.2 hib), Aj4.val, Option.bind_some] at E;have hd := A1R hi hib;obtain ⟨cc, hcc⟩ : ∃ cc, cmpI (a.getD i 0) (b.getD i 0) = cc := ⟨_, rfl⟩;rw [hcc] at hd;simp only [hcc] at E;by_cases hc : cc = 0
       . refine .inr ⟨(), ⟨by omega, by rw [h2, hd, if_neg (by simp [hc])]⟩, Goes.succ fun k => by rw [E, if_neg (by simp [hc])]⟩
       . exact .inl ⟨_, (Ev.const _).succ fun k => by rw [E, if_pos (by simp [hc])], by rw [h2, hd, if_pos hc]⟩
     . refine .inl ⟨_, (Ev.const _).succ fun k => by rw [E, if_pos (by simp; omega)], ?_⟩;rw [h2, List.drop_eq_getElem_cons hi, List.drop_of_length_le (show b.length ≤ i by omega)]; rfl)
   (fun s ⟨h1, h2⟩ => by
     by_cases hl : a.length < b.length
     . refine ⟨_, (Ev.const _).succ fun k => by rw [Ah3.l2_eq, if_neg (by simp), if_pos (by simp; omega)], ?_⟩;rw [h2, List.drop_of_length_le (Nat.le_refl _), List.drop_eq_getElem_cons hl]; rfl
     . refine ⟨_, (Ev.const _).succ fun k => by rw [Ah3.l2_eq, if_neg (by simp), if_neg (by simp; omega)], ?_⟩;rw [h2, List.drop_of_length_le (Nat.le_refl _), List.drop_of_length_le (by omega)]; rfl) 0 () (Nat.zero_le _) ⟨Nat.zero_le _, rfl⟩
 subst hq;exact Ah3.of _ _ (hr.of_eq fun k => rfl)
theorem Aa9.val (a b : List Int) (ha : a.length ≤ 1048576) (hb : b.length ≤ 1048576) : Aa9.F (a, b, ()) = some ((cmpS a b, ()), ()) := by
 rw [Aa9.eq, Aa9.T, Aj3.val, Ah3.val a b ha hb];simp only [Option.bind_some, Af7.val2, cmpS]
theorem Af5.val (a b : List Int) (ha : a.length ≤ 1048576) : Af5.F (a, b, ()) = some ((decide (cmpS a b < 0), ()), ()) := by
 by_cases hl : a.length = b.length
 . obtain ⟨r, hr, hq⟩ := Ev.loop (σ := Unit) (R := (Bool × Unit) × Unit) (fun k i _ => Af5.l4 k a b (i : Int)) a.length (fun i _ => lexc a b = lexc (a.drop i) (b.drop i)) (fun r => r = ((decide (lexc a b < 0), ()), ()))
     (fun i s hi h2 => by
       have hib : i < b.length := by omega
       have E := fun k => Af5.l4_eq k a b (i : Int);simp only [if_pos (ltI.2 hi), if_pos (idxI.2 hi), if_pos (idxI.2 hib), Int.toNat_natCast, A0y (show i < 4611686018427387904 by omega)] at E;have hd := A1R hi hib;obtain ⟨ai, hai⟩ : ∃ ai, a.getD i 0 = ai := ⟨_, rfl⟩;obtain ⟨bi, hbi⟩ : ∃ bi, b.getD i 0 = bi := ⟨_, rfl⟩;rw [hai, hbi] at hd;simp only [hai, hbi] at E;rcases A0v ai bi with ⟨g, e⟩ | ⟨g, e⟩ | ⟨g, e⟩
       . refine .inl ⟨_, (Ev.const _).succ fun k => by rw [E, if_pos (by simp; omega)], ?_⟩;rw [h2, hd, if_pos (by rw [e]; omega), e]; simp [g]
       . exact .inr ⟨(), by rw [h2, hd, if_neg (by rw [e]; simp)], Goes.succ fun k => by rw [E, if_neg (by simp [g])]⟩
       . refine .inl ⟨_, (Ev.const _).succ fun k => by rw [E, if_pos (by simp; omega)], ?_⟩;rw [h2, hd, if_pos (by rw [e]; omega), e]; simp; omega)
     (fun s h2 => ⟨_, (Ev.const _).succ fun k => by rw [Af5.l4_eq, if_neg (by simp)], by rw [h2, List.drop_of_length_le (Nat.le_refl _), List.drop_of_length_le (by omega)]; rfl⟩) 0 () (Nat.zero_le _) rfl
   subst hq;refine Af5.of _ _ (hr.of_eq fun k => ?_) |>.trans ?_
   . rw [Af5.T, if_neg (by simp [hl])]; rfl
   . have : cmpS a b = lexc a b := by
       unfold cmpS;rcases A0v a.length b.length with ⟨g, e⟩ | ⟨g, e⟩ | ⟨g, e⟩
       . omega
       . simp [e]
       . omega
     rw [this]
 . have : decide (cmpS a b < 0) = decide ((a.length : Int) < (b.length : Int)) := by
     unfold cmpS;rcases A0v a.length b.length with ⟨g, e⟩ | ⟨g, e⟩ | ⟨g, e⟩
     . simp [e]; omega
     . omega
     . simp [e]; omega
   rw [this];exact Af5.of _ _ ((Ev.const _).of_eq fun k => by rw [Af5.T, if_pos (by simp; omega)])
def A0I (xs : List (List Int)) : Prop := ∀ i j, i < j -> j < xs.length -> cmpS (xs.getD i []) (xs.getD j []) < 0
theorem A1I {xs : List (List Int)} (h : ∀ i, 0 < i -> i < xs.length -> cmpS (xs.getD (i - 1) []) (xs.getD i []) < 0) : A0I xs := by
 intro i j;induction j with
 | zero => intro h1; omega
 | succ j ih =>
   intro h1 h2;have h3 := h (j + 1) (by omega) h2;simp only [Nat.add_sub_cancel] at h3;by_cases hij : i = j
   . rw [hij]; exact h3
   . exact A0W _ _ _ (ih (by omega) (by omega)) h3
theorem wrapU {x : Int} (h1 : 0 ≤ x) (h2 : x < 18446744073709551616) : IntKind.u64.wrap x = x := by
 have e : (2 : Int) ^ (IntKind.u64).bits = 18446744073709551616 := by decide
 unfold IntKind.wrap;simp only [e, show IntKind.u64.signed = false from rfl, Bool.false_and, Bool.false_eq_true, if_false];omega
theorem midI {i j : Nat} (h : i + j < 4611686018427387904) : IntKind.i64.wrap ((IntKind.u64.wrap (IntKind.i64.wrap ((i : Int) + (j : Int)))).fdiv (2 ^ (min (1 : Int).toNat IntKind.u64.bits))) = (((i + j) / 2 : Nat) : Int) := by
 rw [A0q (x := (i : Int) + (j : Int)) (by omega) (by omega), wrapU (by omega) (by omega)];have e : (2 : Int) ^ (min (1 : Int).toNat IntKind.u64.bits) = ((2 : Nat) : Int) := by decide
 rw [e, show (i : Int) + (j : Int) = ((i + j : Nat) : Int) by omega, <- Int.ofNat_fdiv, A0q (by omega) (by omega)]
theorem binSearch.val (xs : List (List Int)) (t : List Int) (hs : A0I xs) (h1 : SmL xs) (h2 : t.length ≤ 1048576) :
   ∃ r : Int, ∃ b : Bool, Al0.F (xs, t, Aa9.cloG (()), ()) = some ((r, (b, ())), ()) /\ 0 ≤ r /\ (b = true ↔ t ∈ xs) /\ (b = true -> r.toNat < xs.length /\ xs.getD r.toNat [] = t) := by
 have hn := h1.1;have hcmp : ∀ i, i < xs.length -> Aa9.cloG (()) (xs.getD i [], t, ()) = some (cmpS (xs.getD i []) t, ()) := fun i hi => by
   show (Aa9.F (xs.getD i [], t, ())).map (·.1) = _;rw [Aa9.val _ _ (h1.2 _ (A0z _ hi)) h2]; rfl
 have key : ∀ d i j : Nat, j - i ≤ d -> i ≤ j -> j ≤ xs.length -> (∀ m, m < i -> cmpS (xs.getD m []) t < 0) -> (∀ m, j ≤ m -> m < xs.length -> ¬ cmpS (xs.getD m []) t < 0) →
     ∃ r : Int, ∃ b : Bool, Ev (fun k => Al0.l3 k xs t (Aa9.cloG (())) xs.length (i : Int) (j : Int)) ((r, (b, ())), ()) /\ 0 ≤ r /\ (b = true ↔ t ∈ xs) /\ (b = true -> r.toNat < xs.length /\ xs.getD r.toNat [] = t) := by
   intro d;induction d with
   | zero =>
     intro i j hd hij hj hlo hhi;obtain rfl : i = j := by omega
     have E := fun k => Al0.l3_eq k xs t (Aa9.cloG (())) xs.length (i : Int) (i : Int);simp only [if_neg (show ¬ decide ((i : Int) < (i : Int)) = true by simp)] at E;by_cases hi : i < xs.length
     . simp only [if_pos (ltI.2 hi), if_pos (idxI.2 hi), Int.toNat_natCast, hcmp i hi, Option.bind_some] at E;refine ⟨_, _, (Ev.const _).succ E, by omega, ?_, fun hb => ?_⟩
       rotate_left
       . simp only [beq_iff_eq, A0H] at hb;rw [Int.toNat_natCast]; exact ⟨hi, hb⟩
       simp only [beq_iff_eq, A0H];refine ⟨fun h => h ▸ A0z [] hi, fun h => ?_⟩;obtain ⟨m, hm, e⟩ := List.getElem_of_mem h;have e' : xs.getD m [] = t := by rw [A0x hm]; exact e
       rcases Nat.lt_trichotomy m i with h3 | h3 | h3
       . have := hlo m h3;rw [e', (A0H t t).2 rfl] at this; omega
       . rw [<- h3]; exact e'
       . have := hs i m h3 hm;rw [e'] at this;exact absurd this (hhi i (Nat.le_refl _) hi)
     . simp only [if_neg (show ¬ decide ((i : Int) < (xs.length : Int)) = true by simp; omega)] at E;refine ⟨_, _, (Ev.const _).succ E, by omega, ?_, fun hb => by cases hb⟩;simp only [Bool.false_eq_true, false_iff];intro h;obtain ⟨m, hm, e⟩ := List.getElem_of_mem h;have e' : xs.getD m [] = t := by rw [A0x hm]; exact e
       have := hlo m (by omega);rw [e', (A0H t t).2 rfl] at this; omega
   | succ d ih =>
     intro i j hd hij hj hlo hhi;by_cases he : i = j
     . exact ih i j (by omega) hij hj hlo hhi
     have E := fun k => Al0.l3_eq k xs t (Aa9.cloG (())) xs.length (i : Int) (j : Int);have hm : (i + j) / 2 < xs.length := by omega
     simp only [if_pos (show decide ((i : Int) < (j : Int)) = true by simp; omega), if_neg (show ¬ (1 : Int) < 0 by omega), midI (show i + j < 4611686018427387904 by omega), if_pos (idxI.2 hm), Int.toNat_natCast, hcmp _ hm, Option.bind_some, A0y (show (i + j) / 2 < 4611686018427387904 by omega)] at E;by_cases hc : cmpS (xs.getD ((i + j) / 2) []) t < 0
     . obtain ⟨r, b, hr, h⟩ := ih ((i + j) / 2 + 1) j (by omega) (by omega) hj (fun m hm2 => by
         by_cases h3 : m = (i + j) / 2
         . rw [h3]; exact hc
         . exact A0W _ _ _ (hs m ((i + j) / 2) (by omega) hm) hc) hhi
       exact ⟨r, b, hr.succ fun k => by rw [E, if_pos (by simpa using hc)], h⟩
     . obtain ⟨r, b, hr, h⟩ := ih i ((i + j) / 2) (by omega) (by omega) (by omega) hlo (fun m hm2 hm3 h4 => by
         by_cases h3 : m = (i + j) / 2
         . rw [h3] at h4; exact hc h4
         . exact hc (A0W _ _ _ (hs ((i + j) / 2) m (by omega) hm3) h4))
       exact ⟨r, b, hr.succ fun k => by rw [E, if_neg (by simpa using hc)], h⟩
 obtain ⟨r, b, hr, h⟩ := key xs.length 0 xs.length (by omega) (Nat.zero_le _) (Nat.le_refl _) (fun m hm => by omega) (fun m h3 h4 => by omega);exact ⟨r, b, Al0.of _ _ _ (hr.of_eq fun k => rfl), h⟩
theorem Aa5.val (xs : List (List Int)) (t : List Int) (hs : A0I xs) (h1 : SmL xs) (h2 : t.length ≤ 1048576) : ∃ r : Int, Aa5.F (xs, t, ()) = some ((r, ()), ()) /\ (r < 0 ↔ t ∉ xs) := by
 obtain ⟨r, b, hr, h3, h4, -⟩ := binSearch.val xs t hs h1 h2;rw [Aa5.eq, Aa5.T, hr];simp only [Option.bind_some];cases b with
 | true => exact ⟨r, by rw [if_neg (by simp)], by simp [h4.1 rfl]; omega⟩
 | false => exact ⟨-1, by rw [if_pos (by simp)], by simp; intro h; exact absurd (h4.2 h) (by simp)⟩
theorem A1K {xs : List (List Int)} (hs : A0I xs) {i j : Nat} (hi : i < xs.length) (hj : j < xs.length) (h : xs.getD i [] = xs.getD j []) : i = j := by
 rcases Nat.lt_trichotomy i j with h1 | h1 | h1
 . have := hs i j h1 hj;rw [h, (A0H _ _).2 rfl] at this; omega
 . exact h1
 . have := hs j i h1 hi;rw [h, (A0H _ _).2 rfl] at this; omega
theorem Aa5.val2 (xs : List (List Int)) (j : Nat) (hj : j < xs.length) (hs : A0I xs) (h1 : SmL xs) : Aa5.F (xs, xs.getD j [], ()) = some (((j : Int), ()), ()) := by
 obtain ⟨r, b, hr, h3, h4, h5⟩ := binSearch.val xs (xs.getD j []) hs h1 (h1.2 _ (A0z _ hj));have hb : b = true := h4.2 (A0z _ hj);obtain ⟨h6, h7⟩ := h5 hb;have := A1K hs h6 hj h7;rw [Aa5.eq, Aa5.T, hr, hb];simp only [Option.bind_some, Bool.not_true, Bool.false_eq_true, if_false];rw [show r = (j : Int) by omega]
theorem Ai3.val (xs : List (List Int)) (f : List Int × Unit -> Option (Bool × Unit)) (p : List Int -> Bool) (hf : ∀ x ∈ xs, f (x, ()) = some (p x, ())) (hn : xs.length < 4611686018427387904) :
   ∃ r : Int, Ai3.F (xs, f, ()) = some ((r, ()), ()) /\ ((r = -1 /\ ∀ x ∈ xs, p x = false) ∨ ∃ j : Nat, j < xs.length /\ r = j /\ p (xs.getD j []) = true /\ ∀ i, i < j -> p (xs.getD i []) = false) := by
 obtain ⟨r, hr, hq⟩ := Ev.loop (σ := Unit) (R := (Int × Unit) × Unit) (fun k i _ => Ai3.l2 k xs f xs.length (i : Int)) xs.length (fun i _ => ∀ j, j < i -> p (xs.getD j []) = false)
   (fun r => ∃ v : Int, r = ((v, ()), ()) /\ ((v = -1 /\ ∀ x ∈ xs, p x = false) ∨ ∃ j : Nat, j < xs.length /\ v = j /\ p (xs.getD j []) = true /\ ∀ i, i < j -> p (xs.getD i []) = false))
   (fun i s hi hI => by
     have E := fun k => Ai3.l2_eq k xs f xs.length (i : Int);simp only [if_pos (ltI.2 hi), if_pos (idxI.2 hi), Int.toNat_natCast, hf _ (A0z [] hi), Option.bind_some, A0y (show i < 4611686018427387904 by omega)] at E;cases hp : p (xs.getD i []) with
     | true => exact .inl ⟨_, (Ev.const _).succ fun k => by rw [E, if_pos hp], i, rfl, .inr ⟨i, hi, rfl, hp, hI⟩⟩
     | false =>
       refine .inr ⟨(), fun j hj => ?_, Goes.succ fun k => by rw [E, if_neg (by rw [hp]; simp)]⟩;by_cases hji : j = i
       . rw [hji]; exact hp
       . exact hI j (by omega))
   (fun s hI => ⟨_, (Ev.const _).succ fun k => by rw [Ai3.l2_eq, if_neg (by simp)], -1, rfl, .inl ⟨rfl, fun x hx => by
     obtain ⟨j, hj, rfl⟩ := List.getElem_of_mem hx;rw [<- A0x (d := []) hj]; exact hI j hj⟩⟩) 0 () (Nat.zero_le _) (by intro j hj; omega)
 obtain ⟨v, rfl, hv⟩ := hq;exact ⟨v, Ai3.of _ _ (hr.of_eq fun k => rfl), hv⟩
theorem Ad8.val (xs : List (List Int)) (f : List Int × Unit -> Option (Bool × Unit)) (p : List Int -> Bool) (hf : ∀ x ∈ xs, f (x, ()) = some (p x, ())) (hn : xs.length < 4611686018427387904) :
   Ad8.F (xs, f, ()) = some ((xs.any p, ()), ()) := by
 obtain ⟨r, hr, h⟩ := Ai3.val xs f p hf hn;rw [Ad8.eq, Ad8.T, hr];simp only [Option.bind_some];rcases h with ⟨rfl, h⟩ | ⟨j, hj, rfl, hp, -⟩
 . have : xs.any p = false := by simp only [List.any_eq_false]; intro x hx; simp [h x hx]
   rw [this]; rfl
 . have : xs.any p = true := List.any_eq_true.2 ⟨_, A0z [] hj, hp⟩;rw [this]; simp
theorem Ai4.val (xs : List Int) (f : Int × Unit -> Option (Bool × Unit)) (p : Int -> Bool) (hf : ∀ x ∈ xs, f (x, ()) = some (p x, ())) (hn : xs.length < 4611686018427387904) :
   ∃ r : Int, Ai4.F (xs, f, ()) = some ((r, ()), ()) /\ ((r = -1 /\ ∀ x ∈ xs, p x = false) ∨ ∃ j : Nat, j < xs.length /\ r = j /\ p (xs.getD j 0) = true /\ ∀ i, i < j -> p (xs.getD i 0) = false) := by
 obtain ⟨r, hr, hq⟩ := Ev.loop (σ := Unit) (R := (Int × Unit) × Unit) (fun k i _ => Ai4.l2 k xs f xs.length (i : Int)) xs.length (fun i _ => ∀ j, j < i -> p (xs.getD j 0) = false)
   (fun r => ∃ v : Int, r = ((v, ()), ()) /\ ((v = -1 /\ ∀ x ∈ xs, p x = false) ∨ ∃ j : Nat, j < xs.length /\ v = j /\ p (xs.getD j 0) = true /\ ∀ i, i < j -> p (xs.getD i 0) = false))
   (fun i s hi hI => by
     have E := fun k => Ai4.l2_eq k xs f xs.length (i : Int);simp only [if_pos (ltI.2 hi), if_pos (idxI.2 hi), Int.toNat_natCast, hf _ (A0z 0 hi), Option.bind_some, A0y (show i < 4611686018427387904 by omega)] at E;cases hp : p (xs.getD i 0) with
     | true => exact .inl ⟨_, (Ev.const _).succ fun k => by rw [E, if_pos hp], i, rfl, .inr ⟨i, hi, rfl, hp, hI⟩⟩
     | false =>
       refine .inr ⟨(), fun j hj => ?_, Goes.succ fun k => by rw [E, if_neg (by rw [hp]; simp)]⟩;by_cases hji : j = i
       . rw [hji]; exact hp
       . exact hI j (by omega))
   (fun s hI => ⟨_, (Ev.const _).succ fun k => by rw [Ai4.l2_eq, if_neg (by simp)], -1, rfl, .inl ⟨rfl, fun x hx => by
     obtain ⟨j, hj, rfl⟩ := List.getElem_of_mem hx;rw [<- A0x (d := 0) hj]; exact hI j hj⟩⟩) 0 () (Nat.zero_le _) (by intro j hj; omega)
 obtain ⟨v, rfl, hv⟩ := hq;exact ⟨v, Ai4.of _ _ (hr.of_eq fun k => rfl), hv⟩
theorem Ad0.val (xs : List Int) (f : Int × Unit -> Option (Bool × Unit)) (p : Int -> Bool) (hf : ∀ x ∈ xs, f (x, ()) = some (p x, ())) (hn : xs.length < 4611686018427387904) :
   Ad0.F (xs, f, ()) = some ((xs.any p, ()), ()) := by
 obtain ⟨r, hr, h⟩ := Ai4.val xs f p hf hn;rw [Ad0.eq, Ad0.T, hr];simp only [Option.bind_some];rcases h with ⟨rfl, h⟩ | ⟨j, hj, rfl, hp, -⟩
 . have : xs.any p = false := by simp only [List.any_eq_false]; intro x hx; simp [h x hx]
   rw [this]; rfl
 . have : xs.any p = true := List.any_eq_true.2 ⟨_, A0z 0 hj, hp⟩;rw [this]; simp
def A2y (xs : List Int) : Prop := ∀ i, 0 < i -> i < xs.length -> xs.getD (i - 1) 0 < xs.getD i 0
def A0R (lo hi : Int) (xs : List Int) : Prop := ∀ a ∈ xs, lo ≤ a /\ a ≤ hi
theorem allIn_iff {lo hi : Int} {xs : List Int} : A0R lo hi xs ↔ ∀ i, i < xs.length -> lo ≤ xs.getD i 0 /\ xs.getD i 0 ≤ hi := by
 refine ⟨fun h i hi => h _ (A0z 0 hi), fun h a ha => ?_⟩;obtain ⟨j, hj, rfl⟩ := List.getElem_of_mem ha;have := h j hj
 rwa [A0x hj] at this
theorem Ai6.val (xs : List Int) (lo hi : Int) (hn : xs.length < 4611686018427387904) : ∃ v, Ai6.F (xs, lo, hi, ()) = some ((v, ()), ()) /\ (v = true ↔ A0R lo hi xs /\ A2y xs) := by
 obtain ⟨v, hv, hv'⟩ := Ev.allP (L := fun k i => Ai6.l2 k xs lo hi (i : Int)) (a := ()) (b := ()) (n := xs.length) (fun i => (lo ≤ xs.getD i 0 /\ xs.getD i 0 ≤ hi) /\ (0 < i -> xs.getD (i - 1) 0 < xs.getD i 0)) true (fun i hi2 => by
   have E := fun k => Ai6.l2_eq k xs lo hi (i : Int);simp only [if_pos (ltI.2 hi2), if_pos (idxI.2 hi2), Int.toNat_natCast, Aa1.val, Option.bind_some, A0y (show i < 4611686018427387904 by omega)] at E;by_cases h : lo ≤ xs.getD i 0 /\ xs.getD i 0 ≤ hi
   . simp only [decide_eq_true h, Bool.not_true, Bool.false_eq_true, if_false] at E;by_cases h0 : 0 < i
     . have h1 : i - 1 < xs.length := by omega
       simp only [if_pos (show decide ((i : Int) > 0) = true by simp; omega), A2z h0 (show i < 4611686018427387904 by omega), if_pos (idxI.2 h1), Int.toNat_natCast] at E;by_cases h2 : xs.getD (i - 1) 0 < xs.getD i 0
       . exact .inl ⟨⟨h, fun _ => h2⟩, fun k => by rw [E, if_neg (by simp only [decide_eq_true_eq]; omega)]⟩
       . exact .inr ⟨fun hh => h2 (hh.2 h0), fun k => by rw [E, if_pos (by simp only [decide_eq_true_eq]; omega)]⟩
     . exact .inl ⟨⟨h, fun h1 => absurd h1 h0⟩, fun k => by rw [E, if_neg (by simp only [decide_eq_true_eq]; omega)]⟩
   . exact .inr ⟨fun hh => h hh.1, fun k => by rw [E, if_pos (by rw [decide_eq_false h]; rfl)]⟩) ((Ev.const _).succ fun k => by rw [Ai6.l2_eq, if_neg (by simp)]) 0 (Nat.zero_le _)
 refine ⟨v, Ai6.of _ _ _ (hv.of_eq fun k => rfl), hv'.trans ?_⟩;rw [allIn_iff];exact ⟨fun ⟨_, h⟩ => ⟨fun i hi => (h i (Nat.zero_le _) hi).1, fun i h0 hi => (h i (Nat.zero_le _) hi).2 h0⟩, fun ⟨h1, h2⟩ => ⟨rfl, fun i _ hi => ⟨h1 i hi, fun h0 => h2 i h0 hi⟩⟩⟩
theorem Ae5.val (xs : List Int) (hn : xs.length < 4611686018427387904) : ∃ v, Ae5.F (xs, ()) = some ((v, ()), ()) /\ (v = true ↔ A2y xs) := by
 by_cases hz : xs.length = 0
 . exact ⟨true, Ae5.of _ (((Ev.const _).succ fun k => by rw [Ae5.T, Ae5.l2_eq, if_neg (by simp [hz])]).of_eq fun k => rfl), by simp; intro i h1 h2; omega⟩
 obtain ⟨v, hv, hv'⟩ := Ev.allF (L := fun k i => Ae5.l2 k xs (i : Int)) (a := ()) (b := ()) (n := xs.length) (fun i => 0 < i -> xs.getD (i - 1) 0 < xs.getD i 0) true 1 (fun i h0 hi2 => by
   have E := fun k => Ae5.l2_eq k xs (i : Int);have h0 : 0 < i := h0
   . have h1 : i - 1 < xs.length := by omega
     simp only [if_pos (ltI.2 hi2), if_pos (idxI.2 hi2), Int.toNat_natCast, A0y (show i < 4611686018427387904 by omega), A2z h0 (show i < 4611686018427387904 by omega), if_pos (idxI.2 h1)] at E;by_cases h2 : xs.getD (i - 1) 0 < xs.getD i 0
     . exact .inl ⟨fun _ => h2, fun k => by rw [E, if_neg (by simp only [decide_eq_true_eq]; omega)]⟩
     . exact .inr ⟨fun hh => h2 (hh h0), fun k => by rw [E, if_pos (by simp only [decide_eq_true_eq]; omega)]⟩) ((Ev.const _).succ fun k => by rw [Ae5.l2_eq, if_neg (by simp)]) 1 (Nat.le_refl _) (by omega)
 refine ⟨v, Ae5.of _ (hv.of_eq fun k => rfl), hv'.trans ?_⟩;exact ⟨fun ⟨_, h⟩ i h0 hi => h i h0 hi h0, fun h => ⟨rfl, fun i _ hi h0 => h i h0 hi⟩⟩
theorem Ad9.same (xs ys : List Int) (h : Sm xs) : ∃ b, Ad9.F (xs, ys, ()) = some ((b, ()), ()) /\ (b = true ↔ xs = ys) := by
 have hn : xs.length ≤ 1048576 := h;by_cases hl : xs.length = ys.length
 . obtain ⟨b, hb, hb'⟩ := A0U (fun k i => Ad9.l4 k xs ys (i : Int)) xs ys 0 hl (fun i hi => ⟨xs.getD i 0 == ys.getD i 0, by simp, fun k => by
     rw [Ad9.l4_eq, if_pos (ltI.2 hi), if_pos (idxI.2 hi), if_pos (idx2 (hl ▸ hi))]; simp only [Int.toNat_natCast]; rw [A0y (by omega)]; rfl⟩) (fun k => by rw [Ad9.l4_eq, if_neg (by simp)])
   exact ⟨b, Ad9.of _ _ (hb.of_eq fun k => by rw [Ad9.T, if_neg (by simp [hl])]; rfl), hb'⟩
 . exact ⟨false, Ad9.of _ _ ((Ev.const _).of_eq fun k => by rw [Ad9.T, if_pos (by simp; omega)]), by simp; intro e; exact hl (by rw [e])⟩
def A0B (s : List Int) (k : Nat) : List Int := s.take k ++ s.drop (k + 1)
theorem A0Q {s : List Int} {k : Nat} (h : k < s.length) : (A0B s k).length = s.length - 1 := by simp [A0B]; omega
def A0m (s : List Int) : Prop := (1 ≤ s.length /\ s.length ≤ 4) /\ A0R 0 9 s /\ A2y s
def CplxOk (c : List (List Int)) : Prop := c.length ≤ 48 /\ ∀ i, i < c.length -> A0m (c.getD i []) /\ (0 < i -> cmpS (c.getD (i - 1) []) (c.getD i []) < 0) /\ (1 < (c.getD i []).length -> ∀ k, k < (c.getD i []).length -> A0B (c.getD i []) k ∈ c)
theorem CplxOk.sorted {c : List (List Int)} (h : CplxOk c) : A0I c := A1I fun i h0 hi => (h.2 i hi).2.1 h0
theorem CplxOk.small {c : List (List Int)} (h : CplxOk c) : SmL c := ⟨by have := h.1; omega, fun x hx => by
 obtain ⟨j, hj, rfl⟩ := List.getElem_of_mem hx;have := (h.2 j hj).1.1.2;rw [A0x hj] at this;unfold Sm; omega⟩
theorem Aa0.val (c : List (List Int)) (s : List Int) (h : SmL c) : ∃ r : Int, Aa0.F (c, s, ()) = some ((r, ()), ()) /\ (r < 0 ↔ s ∉ c) := by
 have hn := h.1;obtain ⟨v, hv, r, hv', hr⟩ := Ev.loop (σ := Unit) (R := (Int × Unit) × Unit) (fun k i _ => Aa0.l2 k c s (i : Int)) c.length (fun i _ => ∀ j, j < i -> c.getD j [] ≠ s) (fun v => ∃ r : Int, v = ((r, ()), ()) /\ (r < 0 ↔ s ∉ c))
   (fun i _ hi hI => by
     have E := fun k => Aa0.l2_eq k c s (i : Int);obtain ⟨b, hb, hb'⟩ := Ad9.same (c.getD i []) s (h.2 _ (A0z _ hi));simp only [if_pos (ltI.2 hi), if_pos (idxI.2 hi), Int.toNat_natCast, hb, Option.bind_some, A0y (show i < 4611686018427387904 by omega)] at E;cases b with
     | true =>
       have hm : s ∈ c := hb'.1 rfl ▸ A0z [] hi;exact .inl ⟨_, (Ev.const _).succ fun k => by rw [E, if_pos rfl], _, rfl, by simp [hm]⟩
     | false =>
       refine .inr ⟨(), fun j hj => ?_, Goes.succ fun k => by rw [E, if_neg (by simp)]⟩;by_cases hji : j = i
       . rw [hji]; exact fun e => absurd (hb'.2 e) (by simp)
       . exact hI j (by omega))
   (fun _ hI => ⟨_, (Ev.const _).succ fun k => by rw [Aa0.l2_eq, if_neg (by simp)], _, rfl, by
     have : s ∉ c := fun hm => by
       obtain ⟨j, hj, e⟩ := List.getElem_of_mem hm;exact hI j hj (by rw [A0x hj]; exact e)
     simp [this]⟩) 0 () (Nat.zero_le _) (by intro j hj; omega)
 subst hv';exact ⟨r, Aa0.of _ _ (hv.of_eq fun k => rfl), hr⟩
theorem Aa0.val2 (c : List (List Int)) (n : Nat) (hn : n < c.length) (hs : A0I c) (h : SmL c) : Aa0.F (c, c.getD n [], ()) = some (((n : Int), ()), ()) := by
 have hl := h.1;obtain ⟨v, hv, hv'⟩ := Ev.loop (σ := Unit) (R := (Int × Unit) × Unit) (fun k i _ => Aa0.l2 k c (c.getD n []) (i : Int)) c.length (fun i _ => i ≤ n) (fun v => v = (((n : Int), ()), ()))
   (fun i _ hi hI => by
     have E := fun k => Aa0.l2_eq k c (c.getD n []) (i : Int);obtain ⟨b, hb, hb'⟩ := Ad9.same (c.getD i []) (c.getD n []) (h.2 _ (A0z _ hi));simp only [if_pos (ltI.2 hi), if_pos (idxI.2 hi), Int.toNat_natCast, hb, Option.bind_some, A0y (show i < 4611686018427387904 by omega)] at E;cases b with
     | true =>
       have := A1K hs hi hn (hb'.1 rfl);exact .inl ⟨_, (Ev.const _).succ fun k => by rw [E, if_pos rfl], by rw [this]⟩
     | false =>
       refine .inr ⟨(), ?_, Goes.succ fun k => by rw [E, if_neg (by simp)]⟩;have : i ≠ n := fun e => absurd (hb'.2 (by rw [e])) (by simp);omega)
   (fun _ hI => by omega) 0 () (Nat.zero_le _) (Nat.zero_le _)
 subst hv';exact Aa0.of _ _ (hv.of_eq fun k => rfl)
theorem cutA (s : List Int) (k : Nat) : cutL s (0 : Int) (k : Int) = s.take k := by simp [cutL]
theorem cutB (s : List Int) (k : Nat) : cutL s ((k : Nat) : Int) (s.length : Int) = s.drop k := by simp [cutL]
theorem Ae0.val (s : List Int) (k : Nat) (hk : k < s.length) (hs : s.length ≤ 1048576) : Ae0.F (s, (k : Int), ()) = some ((A0B s k, ()), ()) := by
 rw [Ae0.eq, Ae0.T, if_pos (by omega), cutA, Ab0.eq, Ab0.T, if_pos (by simp only [List.length_nil, List.length_take, bigA]; omega)];simp only [Option.bind_some];rw [A0y (by omega), if_pos (by omega), cutB, if_pos (by simp only [List.nil_append, List.length_take, List.length_drop, bigA]; omega)];rfl
theorem Ad5.val2 (a b : List Int) (ha : a.length ≤ 1048576) (hb : b.length ≤ 1048576) : Ad5.F ([a, b], ()) = some ((a ++ b, ()), ()) := by
 have w1 : IntKind.i64.wrap (0 + (a.length : Int)) = (a.length : Int) := by rw [A0q (by omega) (by omega)]; omega
 have w2 : IntKind.i64.wrap ((a.length : Int) + (b.length : Int)) = (a.length : Int) + (b.length : Int) := A0q (by omega) (by omega);have w3 : IntKind.i64.wrap ((0 : Int) + 1) = 1 := A0q (by omega) (by omega);have w4 : IntKind.i64.wrap ((1 : Int) + 1) = 2 := A0q (by omega) (by omega);refine Ad5.of _ ⟨6, fun k hk => ?_⟩;obtain ⟨k, rfl⟩ : ∃ j, k = j + 1 + 1 + 1 + 1 + 1 + 1 := ⟨k - 6, by omega⟩;show Ad5.T (k + 1 + 1 + 1 + 1 + 1 + 1) [a, b] = _;have e0 : ((([a, b] : List (List Int)).length : Nat) : Int) = 2 := rfl;rw [Ad5.T, e0, Ad5.l3_eq, if_pos (by decide), if_pos (by rw [e0]; decide)];simp only [Int.toNat_zero, List.getD_cons_zero, w1, w3];rw [if_neg (by simp only [decide_eq_true_eq]; omega), Ad5.l3_eq, if_pos (by decide), if_pos (by rw [e0]; decide)];simp only [show (1 : Int).toNat = 1 from rfl, List.getD_cons_succ, List.getD_cons_zero, w2, w4];rw [if_neg (by simp only [decide_eq_true_eq]; omega), Ad5.l3_eq, if_neg (by decide), if_pos (by simp only [bigN]; omega), e0, Ad5.l11_eq, if_pos (by decide), if_pos (by rw [e0]; decide)];simp only [Int.toNat_zero, List.getD_cons_zero, w3];rw [if_pos (by simp only [List.length_nil, bigA]; omega), Ad5.l11_eq, if_pos (by decide), if_pos (by rw [e0]; decide)];simp only [show (1 : Int).toNat = 1 from rfl, List.getD_cons_succ, List.getD_cons_zero, w4, List.nil_append];rw [if_pos (by simp only [bigA]; omega), Ad5.l11_eq, if_neg (by decide)]
def A0D (s : List Int) : List (List Int) := if 1 < s.length then (List.range s.length).map (A0B s) else []
theorem Ab9.val (s : List Int) (hs : s.length ≤ 1048576) : Ab9.F (s, ()) = some ((A0D s, ()), ()) := by
 by_cases h1 : 1 < s.length
 . obtain ⟨r, hr, hg⟩ := Goes.loop (R := (List (List Int) × Unit) × Unit) (fun k i (x : List (List Int)) => Ab9.l3 k s s.length (i : Int) x) s.length (fun i x => x = (List.range i).map (A0B s)) (fun i x hi hx => ⟨_, rfl, Goes.succ fun k => by
     rw [Ab9.l3_eq, if_pos (ltI.2 hi), if_pos (by simp; omega), if_pos (by omega), A0y (by omega), if_pos (by omega), cutA, cutB, Ad5.val2 _ _ (by simp; omega) (by simp; omega)];simp only [Option.bind_some];rw [if_pos (by rw [hx]; simp only [List.length_map, List.length_range, List.length_cons, List.length_nil, bigA]; omega), hx, List.range_succ, List.map_append];rfl⟩) 0 [] (Nat.zero_le _) rfl
   have : A0D s = r := by rw [A0D, if_pos h1, hr]
   rw [this];exact Ab9.of _ ((hg _ ((Ev.const _).succ fun k => by rw [Ab9.l3_eq, if_neg (by simp)])).of_eq fun k => rfl)
 . obtain ⟨r, hr, hg⟩ := Goes.loop (R := (List (List Int) × Unit) × Unit) (fun k i (x : List (List Int)) => Ab9.l3 k s s.length (i : Int) x) s.length (fun i x => x = []) (fun i x hi hx => ⟨_, hx, Goes.succ fun k => by
     rw [Ab9.l3_eq, if_pos (ltI.2 hi), if_neg (by simp; omega), A0y (by omega)]⟩) 0 [] (Nat.zero_le _) rfl
   have : A0D s = r := by rw [A0D, if_neg h1, hr]
   rw [this];exact Ab9.of _ ((hg _ ((Ev.const _).succ fun k => by rw [Ab9.l3_eq, if_neg (by simp)])).of_eq fun k => rfl)
theorem Ak0.val (s : List Int) (hs : s.length ≤ 1048576) : ∃ v, Ak0.F (s, ()) = some ((v, ()), ()) /\ (v = true ↔ A0m s) := by
 obtain ⟨v1, h1, h1'⟩ := Ae5.val s (by omega);have h2 := Ad0.val s (Al9.cloG (())) (fun a => !decide (0 ≤ a /\ a ≤ 9)) (fun a _ => by
   show (Al9.F (a, ())).map (·.1) = _;rw [Al9.eq, Al9.T, Am8.eq, Am8.T, Aa4.val]; rfl) (by omega)
 rw [Ak0.eq, Ak0.T, h1, h2];simp only [Option.bind_some];unfold A0m;by_cases g1 : 1 ≤ s.length
 . by_cases g2 : s.length ≤ 4
   . rw [if_pos (by simp; omega), if_pos (by simp; omega)];cases v1 with
     | true =>
       refine ⟨_, by rw [if_pos rfl], ?_⟩;have hr := h1'.1 rfl;simp only [Bool.not_eq_true', List.any_eq_false, Bool.not_eq_eq_eq_not, Bool.not_true, A0R, g1, g2, hr, and_self, and_true, true_and];simp
     | false => exact ⟨false, by rw [if_neg (by simp)], by simp; intro _ _ _ hr; exact absurd (h1'.2 hr) (by simp)⟩
   . exact ⟨false, by rw [if_pos (by simp; omega), if_neg (by simp; omega)], by simp; intro _ h; omega⟩
 . exact ⟨false, by rw [if_neg (by simp; omega)], by simp; intro h; omega⟩
theorem Al2.val (s : List Int) (hs : s.length ≤ 1048576) : ∃ v, Al2.F (s, ()) = some ((v, ()), ()) /\ (v = true ↔ A0m s) := by
 obtain ⟨v1, h1, h1'⟩ := Ai6.val s 0 9 (by omega);rw [Al2.eq, Al2.T, h1, Aa1.val];simp only [Option.bind_some];unfold A0m;by_cases g : 1 ≤ (s.length : Int) /\ (s.length : Int) ≤ 4
 . rw [if_pos (by simp only [decide_eq_true_eq]; exact g)];exact ⟨v1, rfl, h1'.trans ⟨fun h => ⟨by omega, h⟩, fun h => h.2⟩⟩
 . exact ⟨false, by rw [if_neg (by simp only [decide_eq_true_eq]; exact g)], by simp; intro a b; omega⟩
theorem Aa2.val (c : List (List Int)) (h : SmL c) : ∃ v, Aa2.F (c, ()) = some ((v, ()), ()) /\ (v = true ↔ CplxOk c) := by
 by_cases hn : c.length ≤ 48
 . obtain ⟨v, hv, hv'⟩ := Ev.loop (σ := Unit) (R := (Bool × Unit) × Unit) (fun k i _ => Aa2.l4 k c (i : Int)) c.length (fun i _ => ∀ j, j < i -> A0m (c.getD j []) /\ (0 < j -> cmpS (c.getD (j - 1) []) (c.getD j []) < 0) /\ (1 < (c.getD j []).length -> ∀ k, k < (c.getD j []).length -> A0B (c.getD j []) k ∈ c)) (fun r => ∃ v, r = ((v, ()), ()) /\ (v = true ↔ CplxOk c))
     (fun i _ hi hI => by
       have hsm : (c.getD i []).length ≤ 1048576 := h.2 _ (A0z _ hi);obtain ⟨s, hs⟩ : ∃ s, c.getD i [] = s := ⟨_, rfl⟩;have E := fun k => Aa2.l4_eq k c (i : Int);obtain ⟨b, hb, hb'⟩ := Al2.val s (hs ▸ hsm);rw [hs] at hsm;simp only [if_pos (ltI.2 hi), if_pos (idxI.2 hi), Int.toNat_natCast, hs, hb, Option.bind_some] at E;have bad : (¬ (A0m s /\ (0 < i -> cmpS (c.getD (i - 1) []) s < 0) /\ (1 < s.length -> ∀ k, k < s.length -> A0B s k ∈ c))) -> ∃ v, (((false, ()), ()) : (Bool × Unit) × Unit) = ((v, ()), ()) /\ (v = true ↔ CplxOk c) := fun hno => ⟨false, rfl, by simp; intro hc; exact hno (by have := hc.2 i hi; rw [hs] at this; exact this)⟩;cases b with
       | false => exact .inl ⟨_, (Ev.const _).succ fun k => by rw [E]; rfl, bad fun hc => absurd (hb'.2 hc.1) (by simp)⟩
       | true =>
         have hsimp := hb'.1 rfl;simp only [Bool.not_true, Bool.false_eq_true, if_false] at E;have inner : (∃ r, Ev (fun k => Aa2.l10 k c (i : Int) s ((0 : Nat) : Int)) r /\ r = ((false, ()), ()) /\ ¬ (1 < s.length -> ∀ k, k < s.length -> A0B s k ∈ c)) ∨ ((1 < s.length -> ∀ k, k < s.length -> A0B s k ∈ c) /\ Goes (fun k => Aa2.l10 k c (i : Int) s ((0 : Nat) : Int)) (fun k => Aa2.l4 k c ((i + 1 : Nat) : Int))) := by
           by_cases h1 : 1 < s.length
           . by_cases hall : ∀ k, k < s.length -> A0B s k ∈ c
             . refine .inr ⟨fun _ => hall, ?_⟩;obtain ⟨_, _, hg⟩ := Goes.loop (σ := Unit) (R := (Bool × Unit) × Unit) (fun k j _ => Aa2.l10 k c (i : Int) s (j : Int)) s.length (fun _ _ => True) (fun j _ hj _ => ⟨(), trivial, Goes.succ fun k => by
                 obtain ⟨r, hr, hr'⟩ := Aa0.val c (A0B s j) h;rw [Aa2.l10_eq, if_pos (ltI.2 hj), if_pos (by simp; omega), Ae0.val s j hj hsm];simp only [Option.bind_some, hr];rw [if_neg (by simp only [decide_eq_true_eq, hr']; exact fun hh => hh (hall j hj)), A0y (by omega)]⟩) 0 () (Nat.zero_le _) trivial
               exact hg.trans (Goes.succ fun k => by rw [Aa2.l10_eq, if_neg (by simp), A0y (by omega)])
             . left;obtain ⟨v, hv, hv'⟩ := Ev.loop (σ := Unit) (R := (Bool × Unit) × Unit) (fun k j _ => Aa2.l10 k c (i : Int) s (j : Int)) s.length (fun j _ => ∀ k, k < j -> A0B s k ∈ c) (fun r => r = ((false, ()), ())) (fun j _ hj hJ => by
                 obtain ⟨r, hr, hr'⟩ := Aa0.val c (A0B s j) h;have E2 := fun k => Aa2.l10_eq k c (i : Int) s (j : Int);simp only [if_pos (ltI.2 hj), if_pos (show decide ((s.length : Int) > 1) = true by simp; omega), Ae0.val s j hj hsm, Option.bind_some, hr, A0y (show j < 4611686018427387904 by omega)] at E2;by_cases hd : A0B s j ∈ c
                 . refine .inr ⟨(), fun k hk => ?_, Goes.succ fun k => by rw [E2, if_neg (by simp only [decide_eq_true_eq, hr']; exact fun hh => hh hd)]⟩;by_cases hkj : k = j
                   . rw [hkj]; exact hd
                   . exact hJ k (by omega)
                 . exact .inl ⟨_, (Ev.const _).succ fun k => by rw [E2, if_pos (by simp only [decide_eq_true_eq, hr']; exact hd)], rfl⟩) (fun _ hJ => absurd hJ hall) 0 () (Nat.zero_le _) (by intro k hk; omega)
               exact ⟨v, hv, hv', fun hh => hall (hh h1)⟩
           . refine .inr ⟨fun hh => absurd hh h1, Goes.succ fun k => ?_⟩;rw [Aa2.l10_eq];by_cases h0 : (0 : Nat) < s.length
             . rw [if_pos (ltI.2 h0), if_neg (by simp; omega), A0y (by omega)]
             . rw [if_neg (by simp only [decide_eq_true_eq]; omega), A0y (by omega)]
         have pre : ((0 < i -> cmpS (c.getD (i - 1) []) s < 0) /\ ∀ k, Aa2.l4 (k + 1) c (i : Int) = Aa2.l10 k c (i : Int) s ((0 : Nat) : Int)) ∨ ((∀ k, Aa2.l4 (k + 1) c (i : Int) = some ((false, ()), ())) /\ ¬ (0 < i -> cmpS (c.getD (i - 1) []) s < 0)) := by
           by_cases h0 : 0 < i
           . have h1 : i - 1 < c.length := by omega
             simp only [if_pos (show decide ((i : Int) > 0) = true by simp; omega), A2z h0 (show i < 4611686018427387904 by omega), if_pos (idxI.2 h1), Int.toNat_natCast, Af5.val _ s (h.2 _ (A0z _ h1)), Option.bind_some] at E;by_cases hlt : cmpS (c.getD (i - 1) []) s < 0
             . exact .inl ⟨fun _ => hlt, fun k => by rw [E, if_neg (by simp only [decide_eq_true hlt]; simp)]; rfl⟩
             . exact .inr ⟨fun k => by rw [E, if_pos (by simp only [decide_eq_false hlt]; rfl)], fun hh => hlt (hh h0)⟩
           . simp only [if_neg (show ¬ decide ((i : Int) > 0) = true by simp; omega)] at E;exact .inl ⟨fun h => absurd h h0, fun k => by rw [E]; rfl⟩
         rcases pre with ⟨hlt, E3⟩ | ⟨E4, hno⟩
         . rcases inner with ⟨r, hr, rfl, hno⟩ | ⟨hyes, hg⟩
           . exact .inl ⟨_, hr.succ E3, bad fun hc => hno hc.2.2⟩
           . refine .inr ⟨(), fun j hj => ?_, (Goes.succ E3).trans hg⟩;by_cases hji : j = i
             . rw [hji, hs]; exact ⟨hsimp, hlt, hyes⟩
             . exact hI j (by omega)
         . exact .inl ⟨_, (Ev.const _).succ E4, bad fun hc => hno hc.2.1⟩)
     (fun _ hI => ⟨_, (Ev.const _).succ fun k => by rw [Aa2.l4_eq, if_neg (by simp)], true, rfl, by simp; exact ⟨hn, hI⟩⟩) 0 () (Nat.zero_le _) (by intro j hj; omega)
   obtain ⟨b, rfl, hb⟩ := hv';exact ⟨b, Aa2.of _ (hv.of_eq fun k => by rw [Aa2.T, if_neg (by simp; omega)]; rfl), hb⟩
 . exact ⟨false, Aa2.of _ ((Ev.const _).of_eq fun k => by rw [Aa2.T, if_pos (by simp; omega)]), by simp; intro hc; exact hn hc.1⟩
theorem mem_faces {s f : List Int} : f ∈ A0D s ↔ 1 < s.length /\ ∃ k, k < s.length /\ A0B s k = f := by
 unfold A0D;by_cases h : 1 < s.length
 . rw [if_pos h]; simp [h]
 . rw [if_neg h]; simp [h]
theorem A1w {c : List (List Int)} {i m : Nat} (h : m < i) : (c.take i).getD m [] = c.getD m [] := by
 simp only [List.getD_eq_getElem?_getD, List.getElem?_take, h, if_true]
theorem A1b {c : List (List Int)} {i m : Nat} (h : m < i) (hm : m < c.length) : c.getD m [] ∈ c.take i := by
 rw [<- A1w h];exact A0z [] (by simp; omega)
def OkAt (c : List (List Int)) (j : Nat) : Prop := A0m (c.getD j []) /\ (0 < j -> cmpS (c.getD (j - 1) []) (c.getD j []) < 0) /\ ∀ f ∈ A0D (c.getD j []), f ∈ c.take j
theorem A1O (c : List (List Int)) : (c.length ≤ 48 /\ ∀ j, j < c.length -> OkAt c j) ↔ CplxOk c := by
 constructor
 . rintro ⟨h1, h2⟩;refine ⟨h1, fun i hi => ⟨(h2 i hi).1, (h2 i hi).2.1, fun hl k hk => List.mem_of_mem_take ((h2 i hi).2.2 _ (mem_faces.2 ⟨hl, k, hk, rfl⟩))⟩⟩
 . intro h;refine ⟨h.1, fun j hj => ⟨(h.2 j hj).1, (h.2 j hj).2.1, fun f hf => ?_⟩⟩;obtain ⟨hl, k, hk, rfl⟩ := mem_faces.1 hf;have hm := (h.2 j hj).2.2 hl k hk;obtain ⟨m, hm1, e⟩ := List.getElem_of_mem hm;have e' : c.getD m [] = A0B (c.getD j []) k := by rw [A0x hm1]; exact e
   have hlen := A0Q hk;have hshort : cmpS (A0B (c.getD j []) k) (c.getD j []) < 0 := A1r (by omega);by_cases hmj : m < j
   . rw [<- e']; exact A1b hmj hm1
   . exfalso;by_cases hmj2 : m = j
     . rw [hmj2] at e';rw [<- e', (A0H _ _).2 rfl] at hshort; omega
     . have h3 := h.sorted j m (by omega) hm1;rw [e'] at h3;have := A0W _ _ _ hshort h3;rw [(A0H _ _).2 rfl] at this; omega
theorem Ac7.val (c : List (List Int)) (h : SmL c) : ∃ v, Ac7.F (c, ()) = some ((v, ()), ()) /\ (v = true ↔ CplxOk c) := by
 have hn := h.1;obtain ⟨v, hv, hv'⟩ := Ev.loop (σ := Unit) (R := (Bool × Unit) × Unit) (fun k i _ => Ac7.l2 k c c.length (i : Int) c) c.length (fun i _ => ∀ j, j < i -> OkAt c j) (fun r => ∃ v, r = ((v, ()), ()) /\ (v = true ↔ c.length ≤ 48 /\ ∀ j, j < c.length -> OkAt c j))
   (fun i _ hi hI => by
     have hsm : (c.getD i []).length ≤ 1048576 := h.2 _ (A0z _ hi);have hsorted : A0I (c.take i) := A1I fun m h0 hm => by
       have hm' : m < i := by simp at hm; omega
       rw [A1w (by omega), A1w hm'];exact (hI m hm').2.1 h0
     have hsmall : SmL (c.take i) := ⟨by simp; omega, fun x hx => h.2 x (List.mem_of_mem_take hx)⟩;have hclo : ∀ f : List Int, f.length ≤ 1048576 -> Aj8.cloG (c, (i : Int), ()) (f, ()) = some (decide (f ∉ c.take i), ()) := fun f hf => by
       show (Aj8.F (f, c, (i : Int), ())).map (·.1) = _;obtain ⟨r, hr, hr'⟩ := Aa5.val (c.take i) f hsorted hsmall hf;rw [Aj8.eq, Aj8.T, if_pos (by omega)];have : cutL c (0 : Int) (i : Int) = c.take i := by simp [cutL]
       rw [this, hr];simp only [Option.bind_some, Option.map_some, hr']
     obtain ⟨s, hs⟩ : ∃ s, c.getD i [] = s := ⟨_, rfl⟩;have E := fun k => Ac7.l2_eq k c c.length (i : Int) c;obtain ⟨b, hb, hb'⟩ := Ak0.val s (hs ▸ hsm);rw [hs] at hsm;have hfl : ∀ f ∈ A0D s, f.length ≤ 1048576 := fun f hf => by
       obtain ⟨_, k, hk, rfl⟩ := mem_faces.1 hf;have := A0Q hk; omega
     have hcf := Ad8.val (A0D s) (Aj8.cloG (c, (i : Int), ())) (fun f => decide (f ∉ c.take i)) (fun f hf => hclo f (hfl f hf)) (by
       unfold A0D; split
       . simp; omega
       . simp)
     simp only [if_pos (ltI.2 hi), if_pos (idxI.2 hi), Int.toNat_natCast, hs, hb, Option.bind_some, Ab9.val s hsm, hcf, A0y (show i < 4611686018427387904 by omega)] at E;have bad : ¬ OkAt c i -> ∃ v, (((false, ()), ()) : (Bool × Unit) × Unit) = ((v, ()), ()) /\ (v = true ↔ c.length ≤ 48 /\ ∀ j, j < c.length -> OkAt c j) := fun hno => ⟨false, rfl, by simp only [Bool.false_eq_true, false_iff]; exact fun hc => hno (hc.2 i hi)⟩;cases b with
     | false => exact .inl ⟨_, (Ev.const _).succ fun k => by rw [E]; rfl, bad fun hc => absurd (hb'.2 (hs ▸ hc.1)) (by simp)⟩
     | true =>
       have hsimp := hb'.1 rfl;simp only [Bool.not_true, Bool.false_eq_true, if_false] at E;have pre : ((0 < i -> cmpS (c.getD (i - 1) []) s < 0) /\ ∀ k, Ac7.l2 (k + 1) c c.length (i : Int) c = if ((A0D s).any fun f => decide (f ∉ c.take i)) = true then some ((false, ()), ()) else Ac7.l2 k c c.length ((i + 1 : Nat) : Int) c) ∨ ((∀ k, Ac7.l2 (k + 1) c c.length (i : Int) c = some ((false, ()), ())) /\ ¬ (0 < i -> cmpS (c.getD (i - 1) []) s < 0)) := by
         by_cases h0 : 0 < i
         . have h1 : i - 1 < c.length := by omega
           simp only [if_pos (show decide ((i : Int) > 0) = true by simp; omega), A2z h0 (show i < 4611686018427387904 by omega), if_pos (idxI.2 h1), Int.toNat_natCast, Aa9.val _ s (h.2 _ (A0z _ h1)) hsm, Option.bind_some] at E;by_cases hlt : cmpS (c.getD (i - 1) []) s < 0
           . exact .inl ⟨fun _ => hlt, fun k => by rw [E, if_neg (by simp only [decide_eq_true_eq]; omega)]⟩
           . exact .inr ⟨fun k => by rw [E, if_pos (by simp only [decide_eq_true_eq]; omega)], fun hh => hlt (hh h0)⟩
         . simp only [if_neg (show ¬ decide ((i : Int) > 0) = true by simp; omega)] at E;exact .inl ⟨fun h => absurd h h0, fun k => by rw [E]⟩
       rcases pre with ⟨hlt, E3⟩ | ⟨E4, hno⟩
       . by_cases hf : ∀ f ∈ A0D s, f ∈ c.take i
         . refine .inr ⟨(), fun j hj => ?_, Goes.succ fun k => by rw [E3, if_neg (by simp only [List.any_eq_true, decide_eq_true_eq, not_exists, not_and, Classical.not_not]; exact hf)]⟩;by_cases hji : j = i
           . rw [hji]; exact ⟨hs ▸ hsimp, fun h0 => by rw [hs]; exact hlt h0, fun f hff => hf f (hs ▸ hff)⟩
           . exact hI j (by omega)
         . refine .inl ⟨_, (Ev.const _).succ fun k => by rw [E3, if_pos (by simp only [List.any_eq_true, decide_eq_true_eq]; simpa using hf)], bad fun hc => hf fun f hff => hc.2.2 f (hs ▸ hff)⟩
       . exact .inl ⟨_, (Ev.const _).succ E4, bad fun hc => hno (by have := hc.2.1; rw [hs] at this; exact this)⟩)
   (fun _ hI => ⟨_, (Ev.const _).succ fun k => by rw [Ac7.l2_eq, if_neg (by simp)], _, rfl, by simp only [decide_eq_true_eq]; exact ⟨fun h1 => ⟨by omega, hI⟩, fun h1 => by omega⟩⟩) 0 () (Nat.zero_le _) (by intro j hj; omega)
 obtain ⟨b, rfl, hb⟩ := hv';exact ⟨b, Ac7.of _ (hv.of_eq fun k => rfl), hb.trans (A1O c)⟩
def A0o (c : List (List Int)) (f : List Int) : Nat := c.findIdx fun x => decide (x = f)
theorem A0X {c : List (List Int)} {f : List Int} (h : f ∈ c) : A0o c f < c.length /\ c.getD (A0o c f) [] = f := by
 have h1 : A0o c f < c.length := List.findIdx_lt_length_of_exists ⟨f, h, by simp⟩;refine ⟨h1, ?_⟩;rw [A0x h1];have := List.findIdx_getElem (p := fun x => decide (x = f)) (xs := c) (w := h1);exact of_decide_eq_true this
def fcs (c : List (List Int)) (i : Nat) : List Int := (A0D (c.getD i [])).map fun f => ((A0o c f : Nat) : Int)
theorem A0F (c : List (List Int)) (i : Nat) : (fcs c i).length = if 1 < (c.getD i []).length then (c.getD i []).length else 0 := by
 unfold fcs A0D;split <;> simp
theorem A0u {c : List (List Int)} (h : CplxOk c) {i : Nat} (hi : i < c.length) {x : Int} (hx : x ∈ fcs c i) : ∃ j : Nat, x = j /\ j < c.length := by
 simp only [fcs, List.mem_map] at hx;obtain ⟨f, hf, rfl⟩ := hx;have := ((A1O c).2 h).2 i hi;exact ⟨_, rfl, (A0X (List.mem_of_mem_take (this.2.2 f hf))).1⟩
theorem A1M {c : List (List Int)} (h : CplxOk c) {i : Nat} (hi : i < c.length) {f : List Int} (hf : f ∈ A0D (c.getD i [])) : f ∈ c :=
 List.mem_of_mem_take ((((A1O c).2 h).2 i hi).2.2 f hf)
theorem A2I {c : List (List Int)} (h : CplxOk c) {f : List Int} (hf : f ∈ c) : Aa0.F (c, f, ()) = some ((((A0o c f : Nat) : Int), ()), ()) := by
 obtain ⟨h1, h2⟩ := A0X hf;have := Aa0.val2 c (A0o c f) h1 h.sorted h.small
 rwa [h2] at this
theorem A1t {c : List (List Int)} (h : CplxOk c) {f : List Int} (hf : f ∈ c) : Aa5.F (c, f, ()) = some ((((A0o c f : Nat) : Int), ()), ()) := by
 obtain ⟨h1, h2⟩ := A0X hf;have := Aa5.val2 c (A0o c f) h1 h.sorted h.small
 rwa [h2] at this
theorem Ab3.val (c : List (List Int)) (h : CplxOk c) (i : Nat) (hi : i < c.length) : Ab3.F (c, (i : Int), ()) = some ((fcs c i, ()), ()) := by
 have h4 := (h.2 i hi).1.1.2;obtain ⟨s, hs⟩ : ∃ s, c.getD i [] = s := ⟨_, rfl⟩;rw [hs] at h4;have hmem : ∀ f ∈ A0D s, f ∈ c := fun f hf => A1M h hi (hs ▸ hf);have hfc : fcs c i = (A0D s).map fun f => ((A0o c f : Nat) : Int) := by rw [fcs, hs]
 refine Ab3.of _ _ (Ev.of_eq (N := fun k => Ab3.l4 k c s ((0 : Nat) : Int) []) ?_ fun k => by rw [Ab3.T, if_pos (by omega)]; simp only [Int.toNat_natCast, hs]; rfl);by_cases h1 : 1 < s.length
 . have hf : A0D s = (List.range s.length).map (A0B s) := by rw [A0D, if_pos h1]
   obtain ⟨x, hx, hg⟩ := Goes.loop (R := ((List Int × Unit) × Unit)) (fun k j (x : List Int) => Ab3.l4 k c s (j : Int) x) s.length (fun j x => x = ((List.range j).map (A0B s)).map fun f => ((A0o c f : Nat) : Int)) (fun j x hj h2 => ⟨_, rfl, Goes.succ fun k => by
     have hm : A0B s j ∈ c := hmem _ (by rw [hf]; exact List.mem_map.2 ⟨j, List.mem_range.2 hj, rfl⟩);rw [Ab3.l4_eq, if_pos (ltI.2 hj), if_pos (by simp only [decide_eq_true_eq]; omega), Ae0.val s j hj (by omega)];simp only [Option.bind_some, A2I h hm];rw [if_pos (by rw [h2]; simp only [List.length_map, List.length_range, List.length_cons, List.length_nil, bigA]; omega), A0y (by omega), h2, List.range_succ, List.map_append, List.map_append];rfl⟩) 0 [] (Nat.zero_le _) rfl
   rw [hfc, hf];refine hg _ ((Ev.const _).succ fun k => ?_);rw [Ab3.l4_eq, if_neg (by simp), hx]
 . have hf : A0D s = [] := by rw [A0D, if_neg h1]
   rw [hfc, hf];refine (Ev.const _).succ fun k => ?_;rw [Ab3.l4_eq];by_cases h0 : (0 : Nat) < s.length
   . rw [if_pos (ltI.2 h0), if_neg (by simp only [decide_eq_true_eq]; omega)]; rfl
   . rw [if_neg (by simp only [decide_eq_true_eq]; omega)]; rfl
theorem A0r {c : List (List Int)} (h : CplxOk c) {i : Nat} (hi : i < c.length) : (A0D (c.getD i [])).length ≤ 4 := by
 have h4 := (h.2 i hi).1.1.2;unfold A0D; split
 . simpa using h4
 . simp
theorem Ac3.val (c : List (List Int)) (h : CplxOk c) (i : Nat) (hi : i < c.length) : Ac3.F (c, (i : Int), ()) = some ((fcs c i, ()), ()) := by
 have h4 := (h.2 i hi).1.1.2;have h5 := A0r h hi;obtain ⟨fs, hfs⟩ : ∃ fs, A0D (c.getD i []) = fs := ⟨_, rfl⟩;have hmem : ∀ f ∈ fs, f ∈ c := fun f hf => A1M h hi (hfs ▸ hf);have hfc : fcs c i = fs.map fun f => ((A0o c f : Nat) : Int) := by rw [fcs, hfs]
 rw [hfs] at h5;refine Ac3.of _ _ (Ev.of_eq (N := fun k => Ac3.l3 k (fs.length : Int) ((0 : Nat) : Int) c [] fs) ?_ fun k => by rw [Ac3.T, if_pos (by omega)]; simp only [Int.toNat_natCast]; rw [Ab9.val _ (by omega), hfs]; rfl);obtain ⟨x, hx, hg⟩ := Goes.loop (R := ((List Int × Unit) × Unit)) (fun k j (x : List Int) => Ac3.l3 k (fs.length : Int) (j : Int) c x fs) fs.length (fun j x => x = (fs.take j).map fun f => ((A0o c f : Nat) : Int)) (fun j x hj h2 => ⟨_, rfl, Goes.succ fun k => by
   rw [Ac3.l3_eq, if_pos (ltI.2 hj), if_pos (idxI.2 hj)];simp only [Int.toNat_natCast, A1t h (hmem _ (A0z [] hj)), Option.bind_some];rw [if_pos (by rw [h2]; simp only [List.length_map, List.length_take, List.length_cons, List.length_nil, bigA]; omega), A0y (by omega), h2, List.take_add_one, List.getElem?_eq_getElem hj, Option.toList_some, List.map_append, A0x hj];rfl⟩) 0 [] (Nat.zero_le _) rfl
 rw [List.take_of_length_le (Nat.le_refl _)] at hx;rw [hfc];refine hg _ ((Ev.const _).succ fun k => ?_);rw [Ac3.l3_eq, if_neg (by simp), hx]
def off (c : List (List Int)) : Nat -> Nat
 | 0 => 0
 | s + 1 => off c s + (fcs c s).length
def A1p (c : List (List Int)) (s : Nat) : List A0Y := (List.range (fcs c s).length).map fun (j : Nat) => ((s : Int), (j : Int), (fcs c s).getD j 0)
def arr (c : List (List Int)) (n : Nat) : List A0Y := (List.range n).flatMap (A1p c)
theorem A0p (c : List (List Int)) (n : Nat) : arr c (n + 1) = arr c n ++ A1p c n := by simp [arr, List.range_succ]
theorem A0k (c : List (List Int)) (n : Nat) : (arr c n).length = off c n := by
 induction n with
 | zero => rfl
 | succ n ih => rw [A0p, List.length_append, ih, A1p, List.length_map, List.length_range, off]
theorem A0N {c : List (List Int)} (h : CplxOk c) {n : Nat} (hn : n ≤ c.length) : off c n ≤ 4 * n := by
 induction n with
 | zero => exact Nat.le_refl _
 | succ n ih =>
   have h5 := A0r h (show n < c.length by omega);have := ih (by omega);have e : (fcs c n).length = (A0D (c.getD n [])).length := by simp [fcs]
   rw [off, e]; omega
theorem A1L (c : List (List Int)) {n s j : Nat} (hs : s < n) (hj : j < (fcs c s).length) : (arr c n).getD (off c s + j) (0, 0, 0) = ((s : Int), (j : Int), (fcs c s).getD j 0) := by
 induction n with
 | zero => omega
 | succ n ih =>
   rw [A0p, List.getD_eq_getElem?_getD];by_cases h : s < n
   . have hmono : ∀ a b, a ≤ b -> off c a ≤ off c b := fun a b hab => by
       induction hab with
       | refl => exact Nat.le_refl _
       | step _ ih => exact Nat.le_trans ih (Nat.le_add_right _ _)
     have h1 := hmono (s + 1) n (by omega);rw [off] at h1;rw [List.getElem?_append_left (by rw [A0k]; omega), <- List.getD_eq_getElem?_getD];exact ih h
   . obtain rfl : s = n := by omega
     rw [List.getElem?_append_right (by rw [A0k]; omega), A0k, show off c s + j - off c s = j by omega, A1p, List.getElem?_map, List.getElem?_range hj];rfl
theorem Ab8.val (c : List (List Int)) (h : CplxOk c) : Ab8.F (c, ()) = some ((arr c c.length, ()), ()) := by
 have hn := h.1;refine Ab8.of _ (Ev.of_eq (N := fun k => Ab8.l3 k (c.length : Int) ((0 : Nat) : Int) c []) ?_ fun k => by rw [Ab8.T, An0.eq, An0.T]; rfl);obtain ⟨x, hx, hg⟩ := Goes.loop (R := ((List A0Y × Unit) × Unit)) (fun k i (x : List A0Y) => Ab8.l3 k (c.length : Int) (i : Int) c x) c.length (fun i x => x = arr c i) (fun i x hi h2 => by
   have hoff := A0N h (show i ≤ c.length by omega);have h5 := A0r h hi;have e5 : (fcs c i).length = (A0D (c.getD i [])).length := by simp [fcs]
   refine ⟨_, rfl, (Goes.succ fun k => by rw [Ab8.l3_eq, if_pos (ltI.2 hi), Ac3.val c h i hi]).trans ?_⟩;obtain ⟨y, hy, hg2⟩ := Goes.loop (R := ((List A0Y × Unit) × Unit)) (fun k j (y : List A0Y) => Ab8.l6 k (i : Int) (c.length : Int) (i : Int) ((fcs c i).length : Int) (j : Int) c y (fcs c i)) (fcs c i).length (fun j y => y = arr c i ++ (List.range j).map fun (j : Nat) => ((i : Int), (j : Int), (fcs c i).getD j 0)) (fun j y hj h3 => ⟨_, rfl, Goes.succ fun k => by
     rw [Ab8.l6_eq, if_pos (ltI.2 hj), if_pos (idxI.2 hj), if_pos (by rw [h3]; simp only [List.length_append, List.length_map, List.length_range, List.length_cons, List.length_nil, A0k, bigA]; omega), A0y (by omega), h3, List.range_succ, List.map_append, List.append_assoc];simp only [Int.toNat_natCast];rfl⟩) 0 x (Nat.zero_le _) (by simp [h2])
   refine hg2.trans (Goes.succ fun k => ?_);rw [Ab8.l6_eq, if_neg (by simp), A0y (by omega), hy, A0p];rfl) 0 [] (Nat.zero_le _) rfl
 refine hg _ ((Ev.const _).succ fun k => ?_);rw [Ab8.l3_eq, if_neg (by simp), hx]
theorem Ab7.val (c : List (List Int)) (h : CplxOk c) (s : Nat) (hs : s ≤ c.length) (j : Nat) (hj : j ≤ 1000) : Ab7.F (c, (s : Int), (j : Int), ()) = some ((((off c s + j : Nat) : Int), ()), ()) := by
 have hn := h.1;have hos := A0N h hs;refine Ab7.of _ _ _ (Ev.of_eq (N := fun k => Ab7.l3 k c (s : Int) (j : Int) 0 ((0 : Nat) : Int)) ?_ fun k => rfl);obtain ⟨x, hx, hg⟩ := Goes.loop (R := ((Int × Unit) × Unit)) (fun k i (x : Int) => Ab7.l3 k c (s : Int) (j : Int) x (i : Int)) s (fun i x => x = (off c i : Int)) (fun i x hi h2 => ⟨_, rfl, Goes.succ fun k => by
   have hic : i < c.length := by omega
   have hoff := A0N h (show i ≤ c.length by omega);have h4 := (h.2 i hic).1.1.2;rw [Ab7.l3_eq, if_pos (ltI.2 hi), if_pos (idxI.2 hic)];simp only [Int.toNat_natCast];rw [off, A0F];by_cases h1 : 1 < (c.getD i []).length
   . rw [if_pos (by simp only [decide_eq_true_eq]; omega), if_pos (idxI.2 hic), if_pos h1, A0q (by omega) (by omega), A0y (by omega), h2];congr 1
   . rw [if_neg (by simp only [decide_eq_true_eq]; omega), if_neg h1, A0y (by omega), h2];rfl⟩) 0 0 (Nat.zero_le _) rfl
 refine hg _ ((Ev.const _).succ fun k => ?_);rw [Ab7.l3_eq, if_neg (by simp), hx, A0q (by omega) (by omega)];congr 3
theorem Aa6.val (xs : List Int) (h : xs.length ≤ 1048576) : Aa6.F (xs, ()) = some ((xs, ()), ()) := by
 rw [Aa6.eq, Aa6.T];have hb : ([] : List Int).length + xs.length ≤ bigA := by simp only [List.length_nil, bigA]; omega
 by_cases h0 : 0 < xs.length
 . rw [if_pos h0, if_pos hb]; rfl
 . have : xs = [] := List.eq_nil_of_length_eq_zero (by omega);subst this;rw [if_neg h0];exact b2y rfl (by rw [if_pos hb]; rfl)
theorem Ah5.val (xs : List (List Int)) (h : SmL xs) : Ah5.F (xs, ()) = some ((xs, ()), ()) := by
 have hn := h.1;refine Ah5.of _ ?_;obtain ⟨s, hs, hg⟩ := Goes.loop (R := ((List (List Int) × Unit) × Unit)) (fun k i (x : List (List Int)) => Ah5.l3 k xs (xs.length : Int) (i : Int) x) xs.length (fun i x => x = xs.take i) (fun i x hi h2 => ⟨_, rfl, Goes.succ fun k => by
   rw [Ah5.l3_eq, if_pos (ltI.2 hi), if_pos (idxI.2 hi)];simp only [Int.toNat_natCast, Aa6.val _ (h.2 _ (A0z [] hi)), Option.bind_some];rw [if_pos (by rw [h2]; simp only [List.length_take, List.length_cons, List.length_nil, bigA]; omega), A0y (by omega), h2, List.take_add_one, List.getElem?_eq_getElem hi, Option.toList_some, A0x hi]⟩) 0 [] (Nat.zero_le _) rfl
 rw [List.take_of_length_le (Nat.le_refl _)] at hs;refine Ev.of_eq (hg _ ((Ev.const _).succ fun k => ?_)) fun k => rfl;rw [Ah5.l3_eq, if_neg (by simp), hs]
theorem Ac4.same (xs ys : List Int) (h : Sm xs) : ∃ b, Ac4.F (xs, ys, ()) = some ((b, ()), ()) /\ (b = true ↔ xs = ys) := by
 have hn : xs.length ≤ 1048576 := h;by_cases hl : xs.length = ys.length
 . obtain ⟨b, hb, hb'⟩ := A0U (fun k i => Ac4.l4 k xs ys xs.length (i : Int)) xs ys 0 hl (fun i hi => ⟨xs.getD i 0 == ys.getD i 0, by simp, fun k => by
     rw [Ac4.l4_eq, if_pos (ltI.2 hi), if_pos (idxI.2 hi), if_pos (idx2 (hl ▸ hi))]; simp only [Int.toNat_natCast]; rw [A0y (by omega)]; rfl⟩) (fun k => by rw [Ac4.l4_eq, if_neg (by simp)])
   exact ⟨b, Ac4.of _ _ (hb.of_eq fun k => by rw [Ac4.T, if_neg (by simp [hl])]; rfl), hb'⟩
 . exact ⟨false, Ac4.of _ _ ((Ev.const _).of_eq fun k => by rw [Ac4.T, if_pos (by simp; omega)]), by simp; intro e; exact hl (by rw [e])⟩
theorem A2B : ∀ a b : List Int, ordL a b = lexc a b
 | [], [] => rfl
 | [], _ :: _ => rfl
 | _ :: _, [] => rfl
 | a :: x, b :: y => by
   simp only [ordL, lexc, A2B x y];rcases A0v a b with ⟨h, e⟩ | ⟨h, e⟩ | ⟨h, e⟩ <;> rw [e]
   . rw [if_pos h]; rfl
   . rw [if_neg (by omega), if_neg (by omega)]; rfl
   . rw [if_neg (by omega), if_pos h]; rfl
theorem A1c (a b : List Int) : ordS a b = cmpS a b := by
 unfold ordS cmpS;rw [A2B];rcases A0v a.length b.length with ⟨h, e⟩ | ⟨h, e⟩ | ⟨h, e⟩ <;> rw [e]
 . rw [if_pos (by omega)]; rfl
 . rw [if_neg (by omega), if_neg (by omega)]; rfl
 . rw [if_neg (by omega), if_pos (by omega)]; rfl
abbrev LtS (x y : List Int) : Prop := ordS x y < 0
theorem LtS.irrefl (x : List Int) : ¬ LtS x x := fun h => by have := a5I x x; simp only [LtS] at h; omega
theorem LtS.of_le {x y : List Int} (h : ¬ LtS y x) (hne : x ≠ y) : LtS x y := by
 have h1 := a5I x y;have h2 := a8Z y x;simp only [LtS] at *;rcases Int.lt_trichotomy (ordS y x) 0 with h3 | h3 | h3
 . exact absurd h3 h
 . exact absurd (h2 h3).symm hne
 . exact h1.2 h3
theorem sortedS_pw {xs : List (List Int)} : A0I xs ↔ xs.Pairwise LtS := by
 rw [List.pairwise_iff_getElem];constructor
 . intro h i j hi hj hij;have := h i j hij hj;rw [A0x hi, A0x hj, <- A1c] at this;exact this
 . intro h i j hij hj;have := h i j (by omega) hj hij;rw [A0x (by omega), A0x hj, <- A1c];exact this
theorem A1J : ∀ {xs ys : List (List Int)}, xs.Pairwise LtS -> ys.Pairwise LtS -> (∀ s, s ∈ xs ↔ s ∈ ys) -> xs = ys
 | [], ys, _, _, h => by
   cases ys with
   | nil => rfl
   | cons y ys => exact absurd ((h y).2 (by simp)) (by simp)
 | x :: xs, [], _, _, h => absurd ((h x).1 (by simp)) (by simp)
 | x :: xs, y :: ys, hx, hy, h => by
   rw [List.pairwise_cons] at hx hy;have e : x = y := by
     have h1 := (h x).1 (by simp);have h2 := (h y).2 (by simp);simp only [List.mem_cons] at h1 h2;rcases h1 with rfl | h1
     . rfl
     . rcases h2 with rfl | h2
       . rfl
       . exact absurd (a6t x y x (hx.1 y h2) (hy.1 x h1)) (LtS.irrefl x)
   subst e;rw [A1J hx.2 hy.2 fun s => ?_];constructor
   . intro hs;have := (h s).1 (by simp [hs]);simp only [List.mem_cons] at this;rcases this with rfl | this
     . exact absurd (hx.1 s hs) (LtS.irrefl s)
     . exact this
   . intro hs;have := (h s).2 (by simp [hs]);simp only [List.mem_cons] at this;rcases this with rfl | this
     . exact absurd (hy.1 s hs) (LtS.irrefl s)
     . exact this
theorem A0T (s : List Int) : ∀ (l : List (List Int)) (p : List Int), s ∈ p :: a2H p l ↔ s ∈ p :: l
 | [], p => by simp [a2H]
 | x :: l, p => by
   have h1 := A0T s l p;have h2 := A0T s l x;simp only [List.mem_cons] at *;simp only [a2H];split
   . rename_i e; subst e; rw [h1]; simp
   . rw [List.mem_cons, h2]
theorem A2x (s : List Int) (l : List (List Int)) : s ∈ a7P l ↔ s ∈ l := by
 cases l with
 | nil => simp [a7P]
 | cons x l => exact A0T s l x
theorem A0Z : ∀ (l : List (List Int)) (p : List Int), (p :: l).Pairwise (fun a b => ¬ LtS b a) -> (p :: a2H p l).Pairwise LtS
 | [], p, _ => by simp [a2H]
 | x :: l, p, h => by
   rw [List.pairwise_cons, List.pairwise_cons] at h;simp only [a2H];split
   . rename_i e; subst e;exact A0Z l x (List.pairwise_cons.2 ⟨h.2.1, h.2.2⟩)
   . rename_i hne;have ih := A0Z l x (List.pairwise_cons.2 ⟨h.2.1, h.2.2⟩);have hpx : LtS p x := LtS.of_le (h.1 x (by simp)) (Ne.symm hne);refine List.pairwise_cons.2 ⟨fun y hy => ?_, ih⟩;simp only [List.mem_cons] at hy;rcases hy with rfl | hy
     . exact hpx
     . exact a6t p x y hpx ((List.pairwise_cons.1 ih).1 y hy)
theorem A2G {l : List (List Int)} (h : l.Pairwise (fun a b => ¬ LtS b a)) : (a7P l).Pairwise LtS := by
 cases l with
 | nil => simp [a7P]
 | cons x l => exact A0Z l x h
def A2v (xs : List (List Int)) : List (List Int) := a7P (b3l ordS xs)
theorem A1H (xs : List (List Int)) : (b3l ordS xs).Perm xs := List.mergeSort_perm _ _
theorem A2j (s : List Int) (xs : List (List Int)) : s ∈ A2v xs ↔ s ∈ xs := by rw [A2v, A2x, (A1H xs).mem_iff]
theorem A2J (xs : List (List Int)) : (A2v xs).Pairwise LtS := by
 refine A2G ?_;have h := List.pairwise_mergeSort (le := fun x y => !Go.Proofs.ltOf ordS y x) (fun x y z h1 h2 => ?_) (fun x y => ?_) xs
 . refine List.Pairwise.imp ?_ h;intro a b hab;simpa [Go.Proofs.ltOf] using hab
 . simp only [Go.Proofs.ltOf, Bool.not_eq_true', decide_eq_false_iff_not] at *;intro h3;rcases Int.lt_trichotomy (ordS y x) 0 with h | h | h
   . exact h1 h
   . have := a8Z y x h; subst this; exact h2 h3
   . exact h2 (a6t z x y h3 ((a5I x y).2 h))
 . simp only [Go.Proofs.ltOf, Bool.or_eq_true, Bool.not_eq_true', decide_eq_false_iff_not];have := a5I x y;omega
theorem A1Q {xs : List (List Int)} (h : A0I xs) : A2v xs = xs := A1J (A2J xs) (sortedS_pw.1 h) fun s => A2j s xs
theorem Al8.val (xs : List (List Int)) (h : SmL xs) : Al8.F (xs, Aa9.cloG (()), ()) = some ((), (b3l ordS xs, ())) := by
 unfold Al8.F sortF;rw [if_pos];refine ⟨fun x hx y hy => ?_, by have := h.1; show xs.length < _; omega⟩;show (Aa9.F (x, y, ())).map (·.1) = _;rw [Aa9.val x y (h.2 x hx) (h.2 y hy), A1c]; rfl
theorem Al7.val (xs : List (List Int)) (h : SmL xs) : Al7.F (xs, Ac4.cloG (()), ()) = some ((a7P xs, ()), ()) := by
 unfold Al7.F compF;rw [if_pos];refine ⟨fun x hx y _ => ?_, by have := h.1; show xs.length < _; omega⟩;have hxs : Sm x := by
   simp only [List.mem_cons] at hx;rcases hx with rfl | hx
   . simp [Sm]
   . exact h.2 x hx
 obtain ⟨b, hb, hb'⟩ := Ac4.same x y hxs;show (Ac4.F (x, y, ())).map (·.1) = _;rw [hb];have : b = decide (x = y) := Bool.eq_iff_iff.2 (hb'.trans (by simp));rw [this]; rfl
theorem SmL.perm {xs ys : List (List Int)} (h : SmL xs) (hp : ys.Perm xs) : SmL ys := ⟨by rw [hp.length_eq]; exact h.1, fun x hx => h.2 x (hp.mem_iff.1 hx)⟩
theorem Ag9.val (xs : List (List Int)) (h : SmL xs) : Ag9.F (xs, ()) = some ((A2v xs, ()), ()) := by
 rw [Ag9.eq, Ag9.T, Ah5.val xs h];simp only [Option.bind_some, Al8.val xs h, Al7.val _ (h.perm (A1H xs))];rfl
theorem Ag9.same (xs : List (List Int)) (h : SmL xs) (hs : A0I xs) : Ag9.F (xs, ()) = some ((xs, ()), ()) := by rw [Ag9.val xs h, A1Q hs]
def A0h (p : Int) : Prop := (2 ≤ p /\ p ≤ 251) /\ ∀ i : Nat, 2 ≤ i -> (i : Int) * i ≤ p -> p.tmod i ≠ 0
theorem A1o {i : Nat} (h : i ≤ 1000) : IntKind.i64.wrap ((i : Int) * (i : Int)) = (i : Int) * (i : Int) := by
 have : i * i ≤ 1000 * 1000 := Nat.mul_le_mul h h;have e : (i : Int) * (i : Int) = ((i * i : Nat) : Int) := by simp
 rw [e]; exact A0q (by omega) (by omega)
theorem A1G (L : Nat -> Int -> Option ((Bool × Unit) × Unit)) (p : Int) (hp : 2 ≤ p /\ p ≤ 251) (hL : ∀ k i, L (k + 1) i = if (decide ((IntKind.i64.wrap (i * i)) ≤ p)) = true then (if i = 0 then none else if ((p.tmod i) == (0 : Int)) = true then some ((false, ()), ()) else L k (IntKind.i64.wrap (i + (1 : Int)))) else some ((true, ()), ())) :
   ∃ v, Ev (fun k => L k 2) ((v, ()), ()) /\ (v = true ↔ A0h p) := by
 have big : ∀ i : Nat, 16 ≤ i -> p < (i : Int) * i := fun i hi => by
   have : 16 * 16 ≤ i * i := Nat.mul_le_mul hi hi;have e : (i : Int) * (i : Int) = ((i * i : Nat) : Int) := by simp
   omega
 have key : ∀ d i : Nat, 16 - i ≤ d -> 2 ≤ i -> i ≤ 1000 -> (∀ j : Nat, 2 ≤ j -> j < i -> p.tmod j ≠ 0) -> ∃ v, Ev (fun k => L k (i : Int)) ((v, ()), ()) /\ (v = true ↔ A0h p) := by
   intro d;induction d with
   | zero =>
     intro i hd h2 hi hlow;refine ⟨true, (Ev.const _).succ fun k => by rw [hL, A1o hi, if_neg (by simp only [decide_eq_true_eq]; have := big i (by omega); omega)], by simp; exact ⟨hp, fun j hj hjp => hlow j hj (by
       by_cases h : j < i
       . exact h
       . have := big j (by omega); omega)⟩⟩
   | succ d ih =>
     intro i hd h2 hi hlow;by_cases hsq : (i : Int) * i ≤ p
     . by_cases hm : p.tmod (i : Int) = 0
       . exact ⟨false, (Ev.const _).succ fun k => by rw [hL, A1o hi, if_pos (by simp only [decide_eq_true_eq]; exact hsq), if_neg (by omega), if_pos (by simp only [beq_iff_eq]; exact hm)], by simp; intro hc; exact hc.2 i h2 hsq hm⟩
       . have hi16 : i < 16 := by
           by_cases h : i < 16
           . exact h
           . have := big i (by omega); omega
         obtain ⟨v, hv, hv'⟩ := ih (i + 1) (by omega) (by omega) (by omega) (fun j hj hji => by
           by_cases h : j = i
           . rw [h]; exact hm
           . exact hlow j hj (by omega))
         exact ⟨v, hv.succ fun k => by rw [hL, A1o hi, if_pos (by simp only [decide_eq_true_eq]; exact hsq), if_neg (by omega), if_neg (by simp only [beq_iff_eq]; exact hm), A0y (by omega)], hv'⟩
     . refine ⟨true, (Ev.const _).succ fun k => by rw [hL, A1o hi, if_neg (by simp only [decide_eq_true_eq]; exact hsq)], by simp; exact ⟨hp, fun j hj hjp => hlow j hj (by
         by_cases h : j < i
         . exact h
         . exfalso;have : i * i ≤ j * j := Nat.mul_le_mul (by omega) (by omega);have e1 : (i : Int) * (i : Int) = ((i * i : Nat) : Int) := by simp
           have e2 : (j : Int) * (j : Int) = ((j * j : Nat) : Int) := by simp
           omega)⟩⟩
 exact key 16 2 (by omega) (by omega) (by omega) fun j hj hj2 => by omega
theorem Af3.val (p : Int) : ∃ v, Af3.F (p, ()) = some ((v, ()), ()) /\ (v = true ↔ A0h p) := by
 by_cases hp : 2 ≤ p /\ p ≤ 251
 . obtain ⟨v, hv, hv'⟩ := A1G (fun k i => Af3.l4 k p i) p hp (fun k i => Af3.l4_eq k p i);exact ⟨v, Af3.of _ (hv.of_eq fun k => by rw [Af3.T, Aa1.val]; simp only [Option.bind_some]; rw [if_neg (by rw [decide_eq_true hp]; simp)]), hv'⟩
 . exact ⟨false, Af3.of _ ((Ev.const _).of_eq fun k => by rw [Af3.T, Aa1.val]; simp only [Option.bind_some]; rw [if_pos (by rw [decide_eq_false hp]; rfl)]), by simp; intro h; exact hp h.1⟩
theorem Ad1.val (p : Int) : ∃ v, Ad1.F (p, ()) = some ((v, ()), ()) /\ (v = true ↔ A0h p) := by
 by_cases hp : 2 ≤ p /\ p ≤ 251
 . obtain ⟨v, hv, hv'⟩ := A1G (fun k i => Ad1.l4 k p i) p hp (fun k i => Ad1.l4_eq k p i);exact ⟨v, Ad1.of _ (hv.of_eq fun k => by rw [Ad1.T, Aa4.val]; simp only [Option.bind_some]; rw [if_neg (by rw [decide_eq_true hp]; simp)]), hv'⟩
 . exact ⟨false, Ad1.of _ ((Ev.const _).of_eq fun k => by rw [Ad1.T, Aa4.val]; simp only [Option.bind_some]; rw [if_pos (by rw [decide_eq_false hp]; rfl)]), by simp; intro h; exact hp h.1⟩
theorem Ak1.val (xs : List Int) (p : Int) (hn : xs.length < 4611686018427387904) : ∃ v, Ak1.F (xs, p, ()) = some ((v, ()), ()) /\ (v = true ↔ A0R 0 (IntKind.i64.wrap (p - 1)) xs) := by
 rw [Ak1.eq, Ak1.T, Ad0.val xs _ (fun a => !decide (0 ≤ a /\ a ≤ IntKind.i64.wrap (p - 1))) (fun a _ => by
   show (Am6.F (a, p, ())).map (·.1) = _;rw [Am6.eq, Am6.T, Am7.eq, Am7.T, Aa4.val]; rfl) hn]
 refine ⟨_, rfl, ?_⟩;simp only [Bool.not_eq_true', List.any_eq_false, Bool.not_eq_eq_eq_not, Bool.not_true, A0R];simp
def MatOk (m : MatV) : Prop := A0h m.1 /\ (0 ≤ m.2.1 /\ m.2.1 ≤ 32) /\ (0 ≤ m.2.2.1 /\ m.2.2.1 ≤ 32) /\ (m.2.2.2.length : Int) = m.2.1 * m.2.2.1 /\ A0R 0 (m.1 - 1) m.2.2.2
theorem A2L {a b : Int} (ha : 0 ≤ a /\ a ≤ 32) (hb : 0 ≤ b /\ b ≤ 32) : 0 ≤ a * b /\ a * b ≤ 1024 := by
 obtain ⟨a, rfl⟩ := Int.eq_ofNat_of_zero_le ha.1;obtain ⟨b, rfl⟩ := Int.eq_ofNat_of_zero_le hb.1;have : a * b ≤ 32 * 32 := Nat.mul_le_mul (by omega) (by omega);have e : (a : Int) * (b : Int) = ((a * b : Nat) : Int) := by simp
 omega
theorem Ad6.val (xs : List Int) (n p : Int) (hn : xs.length < 4611686018427387904) : ∃ v, Ad6.F (xs, n, p, ()) = some ((v, ()), ()) /\ (v = true ↔ (xs.length : Int) = n /\ A0R 0 (IntKind.i64.wrap (p - 1)) xs) := by
 obtain ⟨v, hv, hv'⟩ := Ev.allP (L := fun k i => Ad6.l2 k xs n p (i : Int)) (a := ()) (b := ()) (n := xs.length) (fun i => 0 ≤ xs.getD i 0 /\ xs.getD i 0 ≤ IntKind.i64.wrap (p - 1)) ((xs.length : Int) == n) (fun i hi => by
   have E := fun k => Ad6.l2_eq k xs n p (i : Int);simp only [if_pos (ltI.2 hi), if_pos (idxI.2 hi), Int.toNat_natCast, Aa1.val, Option.bind_some, A0y (show i < 4611686018427387904 by omega)] at E;by_cases h : 0 ≤ xs.getD i 0 /\ xs.getD i 0 ≤ IntKind.i64.wrap (p - 1)
   . exact .inl ⟨h, fun k => by rw [E, if_neg (by rw [decide_eq_true h]; simp)]⟩
   . exact .inr ⟨h, fun k => by rw [E, if_pos (by rw [decide_eq_false h]; rfl)]⟩) ((Ev.const _).succ fun k => by rw [Ad6.l2_eq, if_neg (by simp)]) 0 (Nat.zero_le _)
 refine ⟨v, Ad6.of _ _ _ (hv.of_eq fun k => rfl), hv'.trans ?_⟩;rw [allIn_iff];simp only [beq_iff_eq];exact ⟨fun ⟨h1, h2⟩ => ⟨h1, fun i hi => h2 i (Nat.zero_le _) hi⟩, fun ⟨h1, h2⟩ => ⟨h1, fun i _ hi => h2 i hi⟩⟩
theorem Al1.val (m : MatV) (hn : m.2.2.2.length < 4611686018427387904) : ∃ v, Al1.F (m, ()) = some ((v, ()), ()) /\ (v = true ↔ MatOk m) := by
 obtain ⟨p, r, c, xs⟩ := m;obtain ⟨v1, h1, h1'⟩ := Af3.val p;rw [Al1.eq, Al1.T, Ag5.eq, Ag5.T, h1];simp only [Option.bind_some, Aa1.val];unfold MatOk;cases v1 with
 | false => exact ⟨false, by rw [if_neg (by simp)], by simp; intro h; exact absurd (h1'.2 h) (by simp)⟩
 | true =>
   have hp := h1'.1 rfl;have hpr := hp.1;by_cases hr : 0 ≤ r /\ r ≤ 32
   . by_cases hc : 0 ≤ c /\ c ≤ 32
     . have hm := A2L hr hc;obtain ⟨v2, h2, h2'⟩ := Ad6.val xs (IntKind.i64.wrap (r * c)) p hn;rw [A0q (x := r * c) (by omega) (by omega), A0q (x := p - 1) (by omega) (by omega)] at h2';refine ⟨v2, by rw [if_pos rfl, if_pos (by simp only [decide_eq_true_eq]; exact hr), if_pos (by simp only [decide_eq_true_eq]; exact hc), h2]; rfl, h2'.trans ?_⟩;exact ⟨fun h => ⟨hp, hr, hc, h.1, h.2⟩, fun h => ⟨h.2.2.2.1, h.2.2.2.2⟩⟩
     . exact ⟨false, by rw [if_pos rfl, if_pos (by simp only [decide_eq_true_eq]; exact hr), if_neg (by simp only [decide_eq_true_eq]; exact hc)], by simp only [Bool.false_eq_true, false_iff]; exact fun h => hc h.2.2.1⟩
   . exact ⟨false, by rw [if_pos rfl, if_neg (by simp only [decide_eq_true_eq]; exact hr)], by simp only [Bool.false_eq_true, false_iff]; exact fun h => hr h.2.1⟩
theorem Aj9.val (m : MatV) (hn : m.2.2.2.length < 4611686018427387904) : ∃ v, Aj9.F (m, ()) = some ((v, ()), ()) /\ (v = true ↔ MatOk m) := by
 obtain ⟨p, r, c, xs⟩ := m;obtain ⟨v1, h1, h1'⟩ := Ad1.val p;rw [Aj9.eq, Aj9.T, h1, Ak5.eq, Ak5.T, Ak5.eq, Ak5.T, Ad2.eq, Ad2.T];simp only [Option.bind_some, Aa4.val];unfold MatOk;cases v1 with
 | false => exact ⟨false, by rw [if_neg (by simp)], by simp; intro h; exact absurd (h1'.2 h) (by simp)⟩
 | true =>
   have hp := h1'.1 rfl;have hpr := hp.1;by_cases hr : 0 ≤ r /\ r ≤ 32
   . by_cases hc : 0 ≤ c /\ c ≤ 32
     . have hm := A2L hr hc;obtain ⟨v2, h2, h2'⟩ := Ak1.val xs p hn;rw [A0q (x := p - 1) (by omega) (by omega)] at h2';rw [if_pos rfl, if_pos (by simp only [decide_eq_true_eq]; exact hr), if_pos (by simp only [decide_eq_true_eq]; exact hc), A0q (x := r * c) (by omega) (by omega)];by_cases hl : (xs.length : Int) = r * c
       . exact ⟨v2, by rw [if_pos (by simp only [beq_iff_eq]; exact hl), h2]; rfl, h2'.trans ⟨fun h => ⟨hp, hr, hc, hl, h⟩, fun h => h.2.2.2.2⟩⟩
       . exact ⟨false, by rw [if_neg (by simp only [beq_iff_eq]; exact hl)], by simp only [Bool.false_eq_true, false_iff]; exact fun h => hl h.2.2.2.1⟩
     . exact ⟨false, by rw [if_pos rfl, if_pos (by simp only [decide_eq_true_eq]; exact hr), if_neg (by simp only [decide_eq_true_eq]; exact hc)], by simp only [Bool.false_eq_true, false_iff]; exact fun h => hc h.2.2.1⟩
   . exact ⟨false, by rw [if_pos rfl, if_neg (by simp only [decide_eq_true_eq]; exact hr)], by simp only [Bool.false_eq_true, false_iff]; exact fun h => hr h.2.1⟩
def A0S (R C : Nat) (g : Nat -> Nat -> Int) : List Int := (List.range R).flatMap fun i => (List.range C).map (g i)
theorem A0i (R C : Nat) (g : Nat -> Nat -> Int) : A0S (R + 1) C g = A0S R C g ++ (List.range C).map (g R) := by simp [A0S, List.range_succ]
theorem A0w (R C : Nat) (g : Nat -> Nat -> Int) : (A0S R C g).length = R * C := by
 induction R with
 | zero => simp [A0S]
 | succ R ih => rw [A0i, List.length_append, ih, List.length_map, List.length_range, Nat.add_mul, Nat.one_mul]
theorem A1B (R C : Nat) (g : Nat -> Nat -> Int) {i j : Nat} (hi : i < R) (hj : j < C) : (A0S R C g).getD (i * C + j) 0 = g i j := by
 induction R with
 | zero => omega
 | succ R ih =>
   rw [A0i];by_cases h : i < R
   . have hlt : i * C + j < (A0S R C g).length := by
       rw [A0w];have := Nat.mul_le_mul_right C (show i + 1 ≤ R by omega);rw [Nat.add_mul, Nat.one_mul] at this; omega
     rw [List.getD_eq_getElem?_getD, List.getElem?_append_left hlt, <- List.getD_eq_getElem?_getD];exact ih h
   . obtain rfl : i = R := by omega
     rw [List.getD_eq_getElem?_getD, List.getElem?_append_right (by rw [A0w]; omega), A0w, show i * C + j - i * C = j by omega, List.getElem?_map, List.getElem?_range hj];rfl
theorem A2H (R C : Nat) (g : Nat -> Nat -> Int) (hR : R ≤ 32) (hC : C ≤ 32) : (A0S R C g).length ≤ 1024 := by
 rw [A0w]; exact Nat.mul_le_mul hR hC
theorem Ab1.val (p : Int) (R C : Nat) (f : Int × Int × Unit -> Option (Int × Unit)) (g : Nat -> Nat -> Int) (hR : R ≤ 32) (hC : C ≤ 32) (hf : ∀ i j, i < R -> j < C -> f ((i : Int), (j : Int), ()) = some (g i j, ())) :
   Ab1.F (p, (R : Int), (C : Int), f, ()) = some (((p, (R : Int), (C : Int), A0S R C g), ()), ()) := by
 refine Ab1.of _ _ _ _ ?_;obtain ⟨s, hs, hg⟩ := Goes.loop (R := ((MatV × Unit) × Unit)) (fun k i (s : List Int) => Ab1.l3 k (C : Int) f (R : Int) (i : Int) 0 0 0 [] p (R : Int) (C : Int) s) R (fun i s => s = A0S i C g) (fun i s hi h2 => by
   refine ⟨_, rfl, (Goes.succ fun k => by rw [Ab1.l3_eq, if_pos (ltI.2 hi)]).trans ?_⟩;obtain ⟨s2, hs2, hg2⟩ := Goes.loop (R := ((MatV × Unit) × Unit)) (fun k j (x : List Int) => Ab1.l6 k (C : Int) f (i : Int) (R : Int) (i : Int) (C : Int) (j : Int) 0 0 0 [] p (R : Int) (C : Int) x) C (fun j x => x = A0S i C g ++ (List.range j).map (g i)) (fun j x hj h3 => ⟨_, rfl, Goes.succ fun k => by
     rw [Ab1.l6_eq, if_pos (ltI.2 hj), hf i j hi hj];simp only [Option.bind_some];have := A2H i C g (by omega) hC;rw [if_pos (by rw [h3]; simp only [List.length_append, List.length_map, List.length_range, List.length_cons, List.length_nil, bigA]; omega), A0y (by omega), h3, List.range_succ, List.map_append, List.append_assoc];rfl⟩) 0 s (Nat.zero_le _) (by simp [h2])
   refine hg2.trans (Goes.succ fun k => ?_);rw [Ab1.l6_eq, if_neg (by simp), A0y (by omega), hs2, A0i]) 0 [] (Nat.zero_le _) rfl
 refine Ev.of_eq (hg _ ((Ev.const _).succ fun k => ?_)) fun k => rfl;rw [Ab1.l3_eq, if_neg (by simp), hs]
def A0e (m : MatV) : MatV := (m.1, m.2.2.1, m.2.1, A0S m.2.2.1.toNat m.2.1.toNat fun i j => m.2.2.2.getD (j * m.2.2.1.toNat + i) 0)
theorem A0t {r c i j : Nat} (hr : r ≤ 32) (hc : c ≤ 32) (hi : i < r) (hj : j < c) : IntKind.i64.wrap (IntKind.i64.wrap ((i : Int) * (c : Int)) + (j : Int)) = ((i * c + j : Nat) : Int) /\ i * c + j < r * c := by
 have h1 : i * c ≤ 32 * 32 := Nat.mul_le_mul (by omega) hc;have e : (i : Int) * (c : Int) = ((i * c : Nat) : Int) := by simp
 have h2 := Nat.mul_le_mul_right c (show i + 1 ≤ r by omega);rw [Nat.add_mul, Nat.one_mul] at h2;refine ⟨?_, by omega⟩;rw [e, A0q (x := ((i * c : Nat) : Int)) (by omega) (by omega), A0q (by omega) (by omega)];omega
theorem Ak6.val (m : MatV) (h : MatOk m) : Ak6.F (m, ()) = some ((A0e m, ()), ()) := by
 obtain ⟨p, r, c, xs⟩ := m;obtain ⟨-, hr, hc, hl, -⟩ := h;obtain ⟨r, rfl⟩ := Int.eq_ofNat_of_zero_le hr.1;obtain ⟨c, rfl⟩ := Int.eq_ofNat_of_zero_le hc.1;have hl' : xs.length = r * c := by
   have e : (r : Int) * (c : Int) = ((r * c : Nat) : Int) := by simp
   have hl2 : (xs.length : Int) = (r : Int) * (c : Int) := hl;omega
 have hr' : r ≤ 32 := by have := hr.2; simp only [] at this; omega
 have hc' : c ≤ 32 := by have := hc.2; simp only [] at this; omega
 rw [Ak6.eq, Ak6.T, Ab1.val p c r _ (fun i j => xs.getD (j * c + i) 0) hc' hr' (fun i j hi hj => by
   show (An1.F ((i : Int), (j : Int), (p, (r : Int), (c : Int), xs), ())).map (·.1) = _;obtain ⟨e1, e2⟩ := A0t hr' hc' hj hi;rw [An1.eq, An1.T, Am5.eq, Am5.T, e1, if_pos (by omega)];simp only [Option.bind_some, Int.toNat_natCast];rfl)]
 rfl
theorem A2P {m : MatV} (h : MatOk m) : MatOk (A0e m) := by
 obtain ⟨p, r, c, xs⟩ := m;obtain ⟨hp, hr, hc, hl, ha⟩ := h;obtain ⟨r, rfl⟩ := Int.eq_ofNat_of_zero_le hr.1;obtain ⟨c, rfl⟩ := Int.eq_ofNat_of_zero_le hc.1;refine ⟨hp, hc, hr, ?_, ?_⟩
 . show ((A0S c r _).length : Int) = (c : Int) * (r : Int);rw [A0w]; simp
 . intro a ham;simp only [A0e, A0S, List.mem_flatMap, List.mem_map, List.mem_range, Int.toNat_natCast] at ham;obtain ⟨i, hi, j, hj, rfl⟩ := ham;have hr' : r ≤ 32 := by have := hr.2; simp only [] at this; omega
   have hc' : c ≤ 32 := by have := hc.2; simp only [] at this; omega
   obtain ⟨-, e2⟩ := A0t hr' hc' hj hi;have hl2 : (xs.length : Int) = (r : Int) * (c : Int) := hl;have e : (r : Int) * (c : Int) = ((r * c : Nat) : Int) := by simp
   have hl3 : xs.length = r * c := by rw [e] at hl2; exact Int.ofNat_inj.1 hl2
   exact ha _ (A0z 0 (by rw [hl3]; exact e2))
theorem A1g {R C : Nat} {g : Nat -> Nat -> Int} {ys : List Int} (hl : ys.length = R * C) (h : ∀ i j, i < R -> j < C -> ys.getD (i * C + j) 0 = g i j) : ys = A0S R C g := by
 refine List.ext_getElem (by rw [hl, A0w]) fun n h1 h2 => ?_;rw [<- A0x (d := 0) h1, <- A0x (d := 0) h2];by_cases hC : C = 0
 . subst hC; rw [hl] at h1; omega
 have hn : n < R * C := by omega
 have hi : n / C < R := Nat.div_lt_of_lt_mul (by rw [Nat.mul_comm]; exact hn);have hj : n % C < C := Nat.mod_lt _ (by omega);have e : n / C * C + n % C = n := by rw [Nat.mul_comm]; exact Nat.div_add_mod n C
 rw [<- e, h _ _ hi hj, A1B _ _ _ hi hj]
theorem Ab0.val (xs : List Int) (h : xs.length ≤ 1048576) : Ab0.F (xs, ()) = some ((xs, ()), ()) := by
 rw [Ab0.eq, Ab0.T, if_pos (by simp only [List.length_nil, bigA]; omega)]; rfl
theorem Ai8.val (c : List (List Int)) (h : CplxOk c) : Ai8.F (c, 3, ()) = some ((c, ()), ()) := by
 have hn := h.small.1;refine Ai8.of _ _ ?_;obtain ⟨s, hs, hg⟩ := Goes.loop (R := ((List (List Int) × Unit) × Unit)) (fun k i (x : List (List Int)) => Ai8.l3 k c 3 (i : Int) [] x) c.length (fun i x => x = c.take i) (fun i x hi h2 => ⟨_, rfl, Goes.succ fun k => by
   have h4 := (h.2 i hi).1.1.2;rw [Ai8.l3_eq, if_pos (ltI.2 hi), if_pos (idxI.2 hi), A0q (x := (3 : Int) + 1) (by omega) (by omega)];simp only [Int.toNat_natCast, Ab0.val _ (h.small.2 _ (A0z [] hi)), Option.bind_some];rw [if_pos (by simp only [decide_eq_true_eq]; omega), if_pos (idxI.2 hi), if_pos (by rw [h2]; simp only [List.length_take, List.length_cons, List.length_nil, bigA]; omega), A0y (by omega), h2, List.take_add_one, List.getElem?_eq_getElem hi, Option.toList_some, A0x hi]⟩) 0 [] (Nat.zero_le _) rfl
 rw [List.take_of_length_le (Nat.le_refl _)] at hs;refine Ev.of_eq (hg _ ((Ev.const _).succ fun k => ?_)) fun k => rfl;rw [Ai8.l3_eq, if_neg (by simp), hs]
def sumN (f : Nat -> Int) : Nat -> Int
 | 0 => 0
 | n + 1 => sumN f n + f n
theorem sumN_bd {f : Nat -> Int} {n : Nat} {B : Nat} (h : ∀ k, k < n -> 0 ≤ f k /\ f k ≤ (B : Int)) : 0 ≤ sumN f n /\ sumN f n ≤ ((n * B : Nat) : Int) := by
 induction n with
 | zero => simp [sumN]
 | succ n ih =>
   have h1 := ih fun k hk => h k (by omega);have h2 := h n (by omega);rw [Nat.add_mul, Nat.one_mul];simp only [sumN]; omega
theorem A1u {f g : Nat -> Int} {n : Nat} (h : ∀ k, k < n -> f k = g k) : sumN f n = sumN g n := by
 induction n with
 | zero => rfl
 | succ n ih => simp only [sumN]; rw [ih fun k hk => h k (by omega), h n (by omega)]
theorem A2R {p a b : Int} (hp : 2 ≤ p /\ p ≤ 251) (ha : 0 ≤ a /\ a ≤ p - 1) (hb : 0 ≤ b /\ b ≤ p - 1) : 0 ≤ a * b /\ a * b ≤ ((62500 : Nat) : Int) := by
 obtain ⟨a, rfl⟩ := Int.eq_ofNat_of_zero_le ha.1;obtain ⟨b, rfl⟩ := Int.eq_ofNat_of_zero_le hb.1;have : a * b ≤ 250 * 250 := Nat.mul_le_mul (by omega) (by omega);have e : (a : Int) * (b : Int) = ((a * b : Nat) : Int) := by simp
 omega
theorem tmodE {a p : Int} (h : 0 ≤ a) : a.tmod p = a % p := Int.tmod_eq_emod_of_nonneg h
theorem modEl {a p : Int} (hp : 2 ≤ p) : 0 ≤ a % p /\ a % p ≤ p - 1 := by
 have h1 := Int.emod_nonneg a (show p ≠ 0 by omega);have h2 := Int.emod_lt_of_pos a (show 0 < p by omega);omega
theorem A0V {lo hi : Int} {xs : List Int} (h : A0R lo hi xs) {i : Nat} (hi' : i < xs.length) : lo ≤ xs.getD i 0 /\ xs.getD i 0 ≤ hi := allIn_iff.1 h i hi'
def dotE (xs ys : List Int) (k : Nat) : Int := xs.getD k 0 * ys.getD k 0
theorem Ah7.val (xs ys : List Int) (p : Int) (hp : 2 ≤ p /\ p ≤ 251) (hx : A0R 0 (p - 1) xs) (hy : A0R 0 (p - 1) ys) (hl : xs.length ≤ ys.length) (hn : xs.length ≤ 1048576) :
   Ah7.F (xs, ys, p, ()) = some ((sumN (dotE xs ys) xs.length % p, ()), ()) := by
 refine Ah7.of _ _ _ ?_;obtain ⟨s, hs, hg⟩ := Goes.loop (R := ((Int × Unit) × Unit)) (fun k i (s : Int) => Ah7.l3 k xs ys p s (xs.length : Int) (i : Int)) xs.length (fun i s => s = sumN (dotE xs ys) i % p) (fun i s hi h2 => ⟨_, rfl, Goes.succ fun k => by
   have hm := A2R hp (A0V hx hi) (A0V hy (show i < ys.length by omega));have hme := modEl (a := sumN (dotE xs ys) i) hp.1;rw [Ah7.l3_eq, if_pos (ltI.2 hi), if_pos (idxI.2 hi), if_pos (idxI.2 (show i < ys.length by omega)), if_neg (by omega), A0y (by omega), h2];simp only [Int.toNat_natCast];rw [A0q (x := xs.getD i 0 * ys.getD i 0) (by omega) (by omega), A0q (by omega) (by omega), tmodE (by omega), Int.emod_add_emod];rfl⟩) 0 0 (Nat.zero_le _) (by simp [sumN])
 refine Ev.of_eq (hg _ ((Ev.const _).succ fun k => ?_)) fun k => rfl;rw [Ah7.l3_eq, if_neg (by simp), hs]
theorem Goes.fillSet {R : Type} (L3 : Nat -> Nat -> List Int -> Option R) (L6 : Nat -> Nat -> Nat -> List Int -> Option R) (M N Z : Nat) (g : Nat -> Nat -> Int) (pos : Nat -> Nat -> Nat)
   (hpos : ∀ i j, i < M -> j < N -> pos i j < Z) (inj : ∀ i j i' j', i < M -> j < N -> i' < M -> j' < N -> pos i j = pos i' j' -> i = i' /\ j = j')
   (hin : ∀ i x, i < M -> x.length = Z -> Goes (fun k => L3 k i x) (fun k => L6 k i 0 x))
   (hstep : ∀ i j x, i < M -> j < N -> x.length = Z -> Goes (fun k => L6 k i j x) (fun k => L6 k i (j + 1) (x.set (pos i j) (g i j))))
   (hout : ∀ i x, i < M -> x.length = Z -> Goes (fun k => L6 k i N x) (fun k => L3 k (i + 1) x)) (x0 : List Int) (h0 : x0.length = Z) :
   ∃ y, y.length = Z /\ (∀ i j, i < M -> j < N -> y.getD (pos i j) 0 = g i j) /\ (∀ q, (∀ i j, i < M -> j < N -> pos i j ≠ q) -> y.getD q 0 = x0.getD q 0) /\ Goes (fun k => L3 k 0 x0) (fun k => L3 k M y) := by
 have gs : ∀ (l : List Int) (q : Nat) (v : Int) (s : Nat), q < l.length -> (l.set q v).getD s 0 = if s = q then v else l.getD s 0 := fun l q v s hq => by
   simp only [List.getD_eq_getElem?_getD, List.getElem?_set];by_cases hqs : q = s
   . subst hqs; simp [hq]
   . simp [hqs, Ne.symm hqs]
 obtain ⟨y, ⟨h1, h2, h3⟩, hg⟩ := Goes.loop (R := R) (fun k i x => L3 k i x) M (fun i x => x.length = Z /\ (∀ a b, a < i -> b < N -> x.getD (pos a b) 0 = g a b) /\ ∀ q, (∀ a b, a < M -> b < N -> pos a b ≠ q) -> x.getD q 0 = x0.getD q 0) (fun i x hi ⟨h1, h2, h3⟩ => by
   obtain ⟨x', ⟨h4, h5, h6, h7⟩, hg2⟩ := Goes.loop (R := R) (fun k j x => L6 k i j x) N (fun j x => x.length = Z /\ (∀ a b, a < i -> b < N -> x.getD (pos a b) 0 = g a b) /\ (∀ b, b < j -> x.getD (pos i b) 0 = g i b) /\ ∀ q, (∀ a b, a < M -> b < N -> pos a b ≠ q) -> x.getD q 0 = x0.getD q 0) (fun j x hj ⟨k1, k2, k3, k4⟩ => by
     have hp := hpos i j hi hj;refine ⟨_, ⟨by simp [k1], fun a b ha hb => ?_, fun b hb => ?_, fun q hq => ?_⟩, hstep i j x hi hj k1⟩
     . rw [gs _ _ _ _ (by omega), if_neg (fun he => by have := (inj _ _ _ _ (by omega) hb hi hj he).1; omega)]; exact k2 a b ha hb
     . rw [gs _ _ _ _ (by omega)];by_cases hbj : b = j
       . rw [if_pos (by rw [hbj]), hbj]
       . rw [if_neg (fun he => hbj (inj _ _ _ _ hi (by omega) hi hj he).2)]; exact k3 b (by omega)
     . rw [gs _ _ _ _ (by omega), if_neg (fun he => hq i j hi hj he.symm)]; exact k4 q hq) 0 x (Nat.zero_le _) ⟨h1, h2, fun b hb => by omega, h3⟩
   refine ⟨x', ⟨h4, fun a b ha hb => ?_, h7⟩, ((hin i x hi h1).trans hg2).trans (hout i x' hi h4)⟩;by_cases hai : a = i
   . rw [hai]; exact h6 b hb
   . exact h5 a b (by omega) hb) 0 x0 (Nat.zero_le _) ⟨h0, fun a b ha => by omega, fun _ _ => rfl⟩
 exact ⟨y, h1, h2, h3, hg⟩
theorem rowInj {C : Nat} (a b a' b' : Nat) (hb : b < C) (hb' : b' < C) (he : a * C + b = a' * C + b') : a = a' /\ b = b' := by
 have h1 : (a * C + b) / C = a := by rw [Nat.mul_comm, Nat.mul_add_div (by omega), Nat.div_eq_of_lt hb]; omega
 have h2 : (a' * C + b') / C = a' := by rw [Nat.mul_comm, Nat.mul_add_div (by omega), Nat.div_eq_of_lt hb']; omega
 have h3 : a = a' := by rw [<- h1, <- h2, he]
 subst h3;exact ⟨rfl, by omega⟩
theorem A2N {R C i j : Nat} (hi : i < R) (hj : j < C) : i * C + j < R * C := by
 have h2 := Nat.mul_le_mul_right C (show i + 1 ≤ R by omega);rw [Nat.add_mul, Nat.one_mul] at h2;omega
theorem MatOk.nat {m : MatV} (h : MatOk m) : ∃ R C : Nat, m.2.1 = (R : Int) /\ m.2.2.1 = (C : Int) /\ R ≤ 32 /\ C ≤ 32 /\ m.2.2.2.length = R * C /\ (2 ≤ m.1 /\ m.1 ≤ 251) /\ A0R 0 (m.1 - 1) m.2.2.2 := by
 obtain ⟨p, r, c, xs⟩ := m;obtain ⟨hp, hr, hc, hl, ha⟩ := h;obtain ⟨r, rfl⟩ := Int.eq_ofNat_of_zero_le hr.1;obtain ⟨c, rfl⟩ := Int.eq_ofNat_of_zero_le hc.1;have hl2 : (xs.length : Int) = (r : Int) * (c : Int) := hl;have e : (r : Int) * (c : Int) = ((r * c : Nat) : Int) := by simp
 have hr2 : (r : Int) ≤ 32 := hr.2;have hc2 : (c : Int) ≤ 32 := hc.2;exact ⟨r, c, rfl, rfl, by omega, by omega, by rw [e] at hl2; exact Int.ofNat_inj.1 hl2, hp.1, ha⟩
def rowL (xs : List Int) (C i : Nat) : List Int := (xs.take ((i + 1) * C)).drop (i * C)
theorem A0b {xs : List Int} {R C i : Nat} (hl : xs.length = R * C) (hi : i < R) : (rowL xs C i).length = C := by
 have h2 := Nat.mul_le_mul_right C (show i + 1 ≤ R by omega);have e : (i + 1) * C = i * C + C := by rw [Nat.add_mul, Nat.one_mul]
 simp only [rowL, List.length_drop, List.length_take];omega
theorem A1V {xs : List Int} {C i k : Nat} (hk : k < C) : (rowL xs C i).getD k 0 = xs.getD (i * C + k) 0 := by
 have e : (i + 1) * C = i * C + C := by rw [Nat.add_mul, Nat.one_mul]
 simp only [rowL, List.getD_eq_getElem?_getD, List.getElem?_drop, List.getElem?_take];rw [if_pos (by omega)]
theorem A1m {xs : List Int} {C i : Nat} {x : Int} (h : x ∈ rowL xs C i) : x ∈ xs := List.mem_of_mem_take (List.mem_of_mem_drop h)
theorem rowWrap {R C i : Nat} (hR : R ≤ 1024) (hC : C ≤ 1024) (hi : i < R) : IntKind.i64.wrap ((i : Int) * (C : Int)) = ((i * C : Nat) : Int) /\ IntKind.i64.wrap ((IntKind.i64.wrap ((i : Int) + 1)) * (C : Int)) = (((i + 1) * C : Nat) : Int) /\ i * C ≤ (i + 1) * C /\ (i + 1) * C ≤ R * C := by
 have h1 : (i + 1) * C ≤ 1024 * 1024 := Nat.mul_le_mul (by omega) hC;have h0 : i * C ≤ (i + 1) * C := Nat.mul_le_mul_right C (by omega);have e : (i : Int) * (C : Int) = ((i * C : Nat) : Int) := by simp
 have e2 : ((i + 1 : Nat) : Int) * (C : Int) = (((i + 1) * C : Nat) : Int) := by simp
 refine ⟨?_, ?_, h0, Nat.mul_le_mul_right C (by omega)⟩
 . rw [e, A0q (by omega) (by omega)]
 . rw [A0y (by omega), e2, A0q (by omega) (by omega)]
theorem Ae3.val (p : Int) (R C : Nat) (xs : List Int) (hR : R ≤ 1024) (hC : C ≤ 1024) (hl : xs.length = R * C) (i : Nat) (hi : i < R) (r : Int) : Ae3.F ((p, r, (C : Int), xs), (i : Int), ()) = some ((rowL xs C i, ()), ()) := by
 obtain ⟨e1, e2, e3, e4⟩ := rowWrap hR hC hi;rw [Ae3.eq, Ae3.T, e1, e2, if_pos (by omega)];simp only [cutL, Int.toNat_natCast, rowL]
def A1e (xs : List Int) (R C : Nat) : List (List Int) := (List.range R).map (rowL xs C)
theorem Ah9.val (p : Int) (R C : Nat) (xs : List Int) (hR : R ≤ 1024) (hC : C ≤ 1024) (hl : xs.length = R * C) : Ah9.F ((p, (R : Int), (C : Int), xs), ()) = some ((A1e xs R C, ()), ()) := by
 refine Ah9.of _ _ _ _ ?_;obtain ⟨s, hs, hg⟩ := Goes.loop (R := ((List (List Int) × Unit) × Unit)) (fun k i (s : List (List Int)) => Ah9.l3 k (R : Int) (i : Int) p (R : Int) (C : Int) xs s) R (fun i s => s = (List.range i).map (rowL xs C)) (fun i s hi h2 => ⟨_, rfl, Goes.succ fun k => by
   have hrl := A0b hl hi;rw [Ah9.l3_eq, if_pos (ltI.2 hi), Ae3.val p R C xs hR hC hl i hi];simp only [Option.bind_some];rw [Aa6.val _ (by omega)];simp only [Option.bind_some];rw [if_pos (by rw [h2]; simp only [List.length_map, List.length_range, List.length_cons, List.length_nil, bigA]; omega), A0y (by omega), h2, List.range_succ, List.map_append];rfl⟩) 0 [] (Nat.zero_le _) rfl
 refine Ev.of_eq (hg _ ((Ev.const _).succ fun k => ?_)) fun k => rfl;rw [Ah9.l3_eq, if_neg (by simp), hs]; rfl
theorem A1s (xs : List Int) {R C i : Nat} (hi : i < R) : (A1e xs R C).getD i [] = rowL xs C i := by
 simp [A1e, List.getD_eq_getElem?_getD, hi]
theorem A1W (xs : List Int) (R C : Nat) : (A1e xs R C).length = R := by simp [A1e]
def mulM (a b : MatV) : MatV := (a.1, a.2.1, b.2.2.1, A0S a.2.1.toNat b.2.2.1.toNat fun i j => sumN (fun k => a.2.2.2.getD (i * a.2.2.1.toNat + k) 0 * b.2.2.2.getD (k * b.2.2.1.toNat + j) 0) a.2.2.1.toNat % a.1)
theorem mulM_ok {a b : MatV} (ha : MatOk a) (hb : MatOk b) : MatOk (mulM a b) := by
 obtain ⟨R, C, h1, h2, h3, h4, h5, h6, h7⟩ := ha.nat;obtain ⟨R', C', k1, k2, k3, k4, k5, k6, k7⟩ := hb.nat;refine ⟨ha.1, ha.2.1, hb.2.2.1, ?_, fun x hx => ?_⟩
 . simp only [mulM, A0w, h1, k2, Int.toNat_natCast]; simp
 . simp only [mulM, A0S, List.mem_flatMap, List.mem_map] at hx;obtain ⟨i, _, j, _, rfl⟩ := hx;exact modEl h6.1
theorem Ak2.val (p : Int) (R C : Nat) (xs : List Int) (hm : MatOk (p, (R : Int), (C : Int), xs)) : Ak2.F ((p, (R : Int), (C : Int), xs), ()) = some ((A1e (A0e (p, (R : Int), (C : Int), xs)).2.2.2 C R, ()), ()) := by
 have hR : (R : Int) ≤ 32 := hm.2.1.2;have hC : (C : Int) ≤ 32 := hm.2.2.1.2;have ht := Ak6.val _ hm;rw [Ak2.eq, Ak2.T, ht];simp only [Option.bind_some];have := Ah9.val p C R (A0e (p, (R : Int), (C : Int), xs)).2.2.2 (by omega) (by omega) (by simp only [A0e, A0w, Int.toNat_natCast]);rw [show A0e (p, (R : Int), (C : Int), xs) = (p, (C : Int), (R : Int), (A0e (p, (R : Int), (C : Int), xs)).2.2.2) from rfl, this];rfl
theorem A2E (p : Int) (R C : Nat) (xs : List Int) {i j : Nat} (hi : i < C) (hj : j < R) : (A0e (p, (R : Int), (C : Int), xs)).2.2.2.getD (i * R + j) 0 = xs.getD (j * C + i) 0 := by
 simp only [A0e, Int.toNat_natCast];rw [A1B _ _ _ hi hj]
theorem Ah8.val (a b : MatV) (ha : MatOk a) (hb : MatOk b) (hp : a.1 = b.1) (hs : a.2.2.1 = b.2.1) : Ah8.F (a, b, ()) = some ((mulM a b, ()), ()) := by
 obtain ⟨R, C, h1, h2, h3, h4, h5, h6, h7⟩ := ha.nat;obtain ⟨R', C', k1, k2, k3, k4, k5, k6, k7⟩ := hb.nat;obtain ⟨p, r, c, xs⟩ := a;obtain ⟨q, r', c', ys⟩ := b;simp only [] at h1 h2 h5 h6 h7 k1 k2 k5 k6 k7 hp hs;subst h1 h2 k1 k2 hp;obtain rfl : C = R' := by omega
 have htk := A2P hb;have hal : A0R 0 (p - 1) (A0e (p, (C : Int), (C' : Int), ys)).2.2.2 := htk.2.2.2.2;rw [Ah8.eq, Ah8.T, Ak2.val p C C' ys hb];simp only [Option.bind_some];rw [Ab1.val p R C' _ (fun i j => sumN (fun k => xs.getD (i * C + k) 0 * ys.getD (k * C' + j) 0) C % p) h3 k4 (fun i j hi hj => by
   show (Am9.F ((i : Int), (j : Int), (p, (R : Int), (C : Int), xs), A1e (A0e (p, (C : Int), (C' : Int), ys)).2.2.2 C' C, ())).map (·.1) = _;have l1 := A0b h5 hi;have l2 : (rowL (A0e (p, (C : Int), (C' : Int), ys)).2.2.2 C j).length = C := A0b (R := C') (by simp only [A0e, A0w, Int.toNat_natCast]) hj;rw [Am9.eq, Am9.T, Ae3.val p R C xs (by omega) (by omega) h5 i hi];simp only [Option.bind_some, Int.toNat_natCast];rw [if_pos (by rw [A1W]; omega), A1s _ hj, Ah7.val _ _ p h6 (fun x hx => h7 x (A1m hx)) (fun x hx => hal x (A1m hx)) (by omega) (by omega)];simp only [Option.bind_some, Option.map_some, l1];congr 3;refine A1u fun k hk => ?_;rw [dotE, A1V hk, A1V hk, A2E p C C' ys hj hk])]
 simp only [Option.bind_some, mulM, Int.toNat_natCast]
theorem Af4.val (p : Int) (R C : Nat) (hR : R ≤ 1024) (hC : C ≤ 1024) : Af4.F (p, (R : Int), (C : Int), ()) = some (((p, (R : Int), (C : Int), List.replicate (R * C) 0), ()), ()) := by
 have h1 : R * C ≤ 1024 * 1024 := Nat.mul_le_mul hR hC;have e : (R : Int) * (C : Int) = ((R * C : Nat) : Int) := by simp
 rw [Af4.eq, Af4.T, e, A0q (by omega) (by omega), if_pos (by simp only [bigN]; omega)];simp only [Int.toNat_natCast]
theorem Ac6.val (a b : MatV) (ha : MatOk a) (hb : MatOk b) (hp : a.1 = b.1) (hs : a.2.2.1 = b.2.1) : Ac6.F (a, b, ()) = some ((mulM a b, ()), ()) := by
 obtain ⟨R, C, h1, h2, h3, h4, h5, h6, h7⟩ := ha.nat;obtain ⟨R', C', k1, k2, k3, k4, k5, k6, k7⟩ := hb.nat;obtain ⟨p, r, c, xs⟩ := a;obtain ⟨q, r', c', ys⟩ := b;simp only [] at h1 h2 h5 h6 h7 k1 k2 k5 k6 k7 hp hs;subst h1 h2 k1 k2 hp;obtain rfl : C = R' := by omega
 obtain ⟨f, hf⟩ : ∃ f : Nat -> Nat -> Nat -> Int, f = fun i j k => xs.getD (i * C + k) 0 * ys.getD (k * C' + j) 0 := ⟨_, rfl⟩;have hfb : ∀ i j k, i < R -> j < C' -> k < C -> 0 ≤ f i j k /\ f i j k ≤ ((62500 : Nat) : Int) := fun i j k hi hj hk => by
   rw [hf];have e1 := A2N hi hk;have e2 := A2N hk hj;exact A2R h6 (A0V h7 (by omega)) (A0V k7 (by omega))
 have hsb : ∀ i j n, i < R -> j < C' -> n ≤ C -> 0 ≤ sumN (f i j) n /\ sumN (f i j) n ≤ 2000000 := fun i j n hi hj hn => by
   have := sumN_bd (f := f i j) (n := n) fun k hk => hfb i j k hi hj (by omega);omega
 obtain ⟨y, hy1, hy2, -, hg⟩ := Goes.fillSet (R := ((MatV × Unit) × Unit)) (fun k i x => Ac6.l3 k p (R : Int) (C : Int) xs p (C : Int) (C' : Int) ys (i : Int) 0 0 0 [] p (R : Int) (C' : Int) x)
   (fun k i j x => Ac6.l6 k p (R : Int) (C : Int) xs p (C : Int) (C' : Int) ys (i : Int) (j : Int) 0 0 0 [] p (R : Int) (C' : Int) x) R C' (R * C') (fun i j => sumN (f i j) C % p) (fun i j => i * C' + j)
   (fun i j hi hj => A2N hi hj) (fun i j i' j' _ hj _ hj' he => rowInj _ _ _ _ hj hj' he)
   (fun i x hi hx => Goes.succ fun k => by rw [Ac6.l3_eq, if_pos (ltI.2 hi)]; rfl)
   (fun i j x hi hj hx => by
     refine (Goes.succ fun k => by rw [Ac6.l6_eq, if_pos (ltI.2 hj)]).trans ?_;obtain ⟨s, hs, hg⟩ := Goes.loop (R := ((MatV × Unit) × Unit)) (fun n k (s : Int) => Ac6.l10 n p (R : Int) (C : Int) xs p (C : Int) (C' : Int) ys (i : Int) (j : Int) s (k : Int) 0 0 0 [] p (R : Int) (C' : Int) x) C (fun k s => s = sumN (f i j) k) (fun k s hk h8 => ⟨_, rfl, Goes.succ fun n => by
       obtain ⟨e1, e2⟩ := A0t h3 h4 hi hk;obtain ⟨e3, e4⟩ := A0t h4 k4 hk hj;have b1 := hfb i j k hi hj hk;have b2 := hsb i j k hi hj (by omega);rw [Ac6.l10_eq, if_pos (ltI.2 hk), e1, if_pos (by omega), e3, if_pos (by omega), A0y (by omega), h8];simp only [Int.toNat_natCast];have ef : xs.getD (i * C + k) 0 * ys.getD (k * C' + j) 0 = f i j k := by rw [hf]
       rw [ef, A0q (x := f i j k) (by omega) (by omega), A0q (by omega) (by omega)];rfl⟩) 0 0 (Nat.zero_le _) rfl
     refine hg.trans (Goes.succ fun n => ?_);obtain ⟨e5, e6⟩ := A0t h3 k4 hi hj;have b2 := hsb i j C hi hj (Nat.le_refl _);rw [Ac6.l10_eq, if_neg (by simp), if_neg (by omega), e5, if_pos (by omega), A0y (by omega), hs, tmodE b2.1];simp only [Int.toNat_natCast])
   (fun i x hi hx => Goes.succ fun k => by rw [Ac6.l6_eq, if_neg (by simp), A0y (by omega)]) (List.replicate (R * C') 0) (by simp)
 have hy : y = A0S R C' fun i j => sumN (fun k => xs.getD (i * C + k) 0 * ys.getD (k * C' + j) 0) C % p := A1g hy1 fun i j hi hj => by rw [hy2 i j hi hj, hf]
 refine Ac6.of _ _ _ _ _ _ _ _ (Ev.of_eq (hg _ ((Ev.const _).succ fun k => ?_)) fun k => ?_)
 . rw [Ac6.l3_eq, if_neg (by simp), hy]; simp only [mulM, Int.toNat_natCast]
 . rw [Ac6.T, Af4.val p R C' (by omega) (by omega)]; rfl
theorem Goes.push {A R : Type} (L : Nat -> Nat -> List A -> Option R) (n : Nat) (f : Nat -> A) (hstep : ∀ i s, i < n -> s.length = i -> Goes (fun k => L k i s) (fun k => L k (i + 1) (s ++ [f i]))) : Goes (fun k => L k 0 []) (fun k => L k n ((List.range n).map f)) := by
 obtain ⟨s, hs, hg⟩ := Goes.loop (R := R) L n (fun i s => s = (List.range i).map f) (fun i s hi h2 => ⟨s ++ [f i], by rw [h2, List.range_succ, List.map_append]; rfl, hstep i s hi (by rw [h2]; simp)⟩) 0 [] (Nat.zero_le _) rfl;rw [<- hs]; exact hg
theorem A1d {A : Type} {s : List A} {x : A} {i : Nat} (h : s.length = i) (hi : i < 1048576) : s.length + [x].length ≤ bigA := by simp only [List.length_cons, List.length_nil, bigA]; omega
theorem A1C {A : Type} (f : Nat -> A) {n i : Nat} (d : A) (h : i < n) : ((List.range n).map f).getD i d = f i := by simp [List.getD_eq_getElem?_getD, h]
theorem Goes.fillG {A R : Type} (L : Nat -> Nat -> List A -> Option R) (n : Nat) (d : A) (z : List A) (hz : z.length = n) (f : Nat -> A) (hstep : ∀ i s, i < n -> s.length = n -> s.getD i d = z.getD i d -> Goes (fun k => L k i s) (fun k => L k (i + 1) (s.set i (f i)))) : Goes (fun k => L k 0 z) (fun k => L k n ((List.range n).map f)) := by
 obtain ⟨s, ⟨hl, hs, -⟩, hg⟩ := Goes.loop (R := R) L n (fun i s => s.length = n /\ (∀ j, j < i -> s.getD j d = f j) /\ ∀ j, i ≤ j -> s.getD j d = z.getD j d) (fun i s hi ⟨h1, h2, h3⟩ => ⟨s.set i (f i), ⟨by simp [h1], fun j hj => by
     by_cases hij : i = j
     . subst hij; simp [List.getD_eq_getElem?_getD, h1, hi]
     . have := h2 j (by omega);simp only [List.getD_eq_getElem?_getD, List.getElem?_set] at this ⊢;rw [if_neg hij]; exact this, fun j hj => by
       have := h3 j (by omega);simp only [List.getD_eq_getElem?_getD, List.getElem?_set] at this ⊢;rw [if_neg (by omega)]; exact this⟩, hstep i s hi h1 (h3 i (Nat.le_refl _))⟩) 0 z (Nat.zero_le _) ⟨hz, fun j hj => by omega, fun _ _ => rfl⟩
 have e : s = (List.range n).map f := by
   refine List.ext_getElem (by simp [hl]) fun i h1 h2 => ?_;have := hs i (by omega);rw [List.getD_eq_getElem?_getD, List.getElem?_eq_getElem h1] at this;simpa using this
 rw [<- e]; exact hg
def A0G (c : List (List Int)) (d : Int) (i : Nat) : List Int := ((List.range i).filter fun j => ((c.getD j []).length : Int) == d + 1).map fun (j : Nat) => (j : Int)
theorem A1F (c : List (List Int)) (d : Int) (i : Nat) : A0G c d (i + 1) = if ((c.getD i []).length : Int) == d + 1 then A0G c d i ++ [(i : Int)] else A0G c d i := by
 simp only [A0G, List.range_succ, List.filter_append, List.map_append];split
 . rename_i h; rw [List.filter_cons_of_pos (by exact h)]; simp
 . rename_i h; rw [List.filter_cons_of_neg (by exact h)]; simp
theorem A0K (c : List (List Int)) (d : Int) (i : Nat) : (A0G c d i).length ≤ i := by
 simp only [A0G, List.length_map];exact Nat.le_trans (List.length_filter_le _ _) (by simp)
theorem A1U {c : List (List Int)} {d : Int} {i : Nat} {x : Int} (h : x ∈ A0G c d i) : ∃ j : Nat, x = j /\ j < i := by
 simp only [A0G, List.mem_map, List.mem_filter, List.mem_range] at h;obtain ⟨j, ⟨h1, -⟩, rfl⟩ := h;exact ⟨j, rfl, h1⟩
theorem Ai7.val (c : List (List Int)) (d : Int) (hd : -1 ≤ d /\ d ≤ 1000) (hn : c.length ≤ 1048576) : Ai7.F (c, d, ()) = some ((A0G c d c.length, ()), ()) := by
 refine Ai7.of _ _ ?_;obtain ⟨s, hs, hg⟩ := Goes.loop (R := ((List Int × Unit) × Unit)) (fun k i (x : List Int) => Ai7.l3 k c d (i : Int) x) c.length (fun i x => x = A0G c d i) (fun i x hi h2 => ⟨_, rfl, Goes.succ fun k => by
   have hl := A0K c d i;rw [Ai7.l3_eq, if_pos (ltI.2 hi), if_pos (idxI.2 hi), A0q (x := d + 1) (by omega) (by omega), A1F];simp only [Int.toNat_natCast];by_cases h : (((c.getD i []).length : Int) == d + 1) = true
   . rw [if_pos h, if_pos h, if_pos (by rw [h2]; simp only [List.length_cons, List.length_nil, bigA]; omega), A0y (by omega), h2]
   . rw [if_neg h, if_neg h, A0y (by omega), h2]⟩) 0 [] (Nat.zero_le _) rfl
 refine Ev.of_eq (hg _ ((Ev.const _).succ fun k => ?_)) fun k => rfl;rw [Ai7.l3_eq, if_neg (by simp), hs]
theorem Ai0.val (c : List (List Int)) (d : Int) (hd : -1 ≤ d /\ d ≤ 1000) (hn : c.length ≤ 1048576) : Ai0.F (c, d, ()) = some ((A0G c d c.length, ()), ()) := by
 refine Ai0.of _ _ ?_;obtain ⟨s, hs, hg⟩ := Goes.loop (R := ((List Int × Unit) × Unit)) (fun k i (x : List Int) => Ai0.l3 k d c (c.length : Int) (i : Int) x) c.length (fun i x => x = A0G c d i) (fun i x hi h2 => ⟨_, rfl, Goes.succ fun k => by
   have hl := A0K c d i;rw [Ai0.l3_eq, if_pos (ltI.2 hi), if_pos (idxI.2 hi), A0q (x := d + 1) (by omega) (by omega), A1F, Ad2.eq, Ad2.T];simp only [Int.toNat_natCast, Option.bind_some];by_cases h : (((c.getD i []).length : Int) == d + 1) = true
   . rw [if_pos h, if_pos h, if_pos (by rw [h2]; simp only [List.length_cons, List.length_nil, bigA]; omega), A0y (by omega), h2]
   . rw [if_neg h, if_neg h, A0y (by omega), h2]⟩) 0 [] (Nat.zero_le _) rfl
 refine Ev.of_eq (hg _ ((Ev.const _).succ fun k => ?_)) fun k => rfl;rw [Ai0.l3_eq, if_neg (by simp), hs]
def sumL (st : List Int) (js : List Int) : Int := js.foldl (fun acc j => IntKind.i64.wrap (acc + st.getD j.toNat 0)) 0
theorem Ag6.val (c : List (List Int)) (st : List Int) (d : Int) (hd : -1 ≤ d /\ d ≤ 1000) (hn : c.length ≤ 1048576) (hs : st.length = c.length) : Ag6.F (c, st, d, ()) = some ((sumL st (A0G c d c.length), ()), ()) := by
 have hl := A0K c d c.length;refine Ag6.of _ _ _ (Ev.of_eq (N := fun k => Ag6.l4 k st 0 ((0 : Nat) : Int) (A0G c d c.length)) ?_ fun k => by rw [Ag6.T, Ai7.val c d hd hn]; rfl);refine Goes.foldl (L := fun k i s => Ag6.l4 k st s (i : Int) (A0G c d c.length)) (A0G c d c.length) 0 (fun acc j => IntKind.i64.wrap (acc + st.getD j.toNat 0)) (fun k i s hi => ?_) 0 _ ((Ev.const _).succ fun k => by rw [Ag6.l4_eq, if_neg (by simp)]; rfl);obtain ⟨j, hj, hjc⟩ := A1U (A0z (0 : Int) hi);rw [Ag6.l4_eq, if_pos (ltI.2 hi), if_pos (idxI.2 hi)];simp only [Int.toNat_natCast];rw [if_pos (by rw [hj]; omega), A0y (by omega)]
theorem Ag0.val (c : List (List Int)) (p : Int) (st : List Int) (ms : List MatV) (d : Int) (hd : -1 ≤ d /\ d ≤ 1000) (hn : c.length ≤ 1048576) (hs : st.length = c.length) : Ag0.F ((c, (p, (st, ms))), d, ()) = some ((sumL st (A0G c d c.length), ()), ()) := by
 have hl := A0K c d c.length;refine Ag0.of _ _ _ _ _ (Ev.of_eq (N := fun k => Ag0.l3 k 0 (A0G c d c.length).length ((0 : Nat) : Int) c p st ms (A0G c d c.length)) ?_ fun k => by rw [Ag0.T, Ai0.val c d hd hn]; rfl);refine Goes.foldl (L := fun k i s => Ag0.l3 k s (A0G c d c.length).length (i : Int) c p st ms (A0G c d c.length)) (A0G c d c.length) 0 (fun acc j => IntKind.i64.wrap (acc + st.getD j.toNat 0)) (fun k i s hi => ?_) 0 _ ((Ev.const _).succ fun k => by rw [Ag0.l3_eq, if_neg (by simp)]; rfl);obtain ⟨j, hj, hjc⟩ := A1U (A0z (0 : Int) hi);rw [Ag0.l3_eq, if_pos (ltI.2 hi), if_pos (idxI.2 hi)];simp only [Int.toNat_natCast];rw [if_pos (by rw [hj]; omega), A0y (by omega)]
def A1Z (c : List (List Int)) (st : List Int) : Prop := st.length = c.length /\ A0R 0 3 st /\ ∀ k : Nat, k < 4 -> sumL st (A0G c k c.length) ≤ 32
theorem Af6.val (c : List (List Int)) (st : List Int) (hn : c.length ≤ 1048576) (hs : st.length ≤ 1048576) : ∃ v, Af6.F (c, st, ()) = some ((v, ()), ()) /\ (v = true ↔ A1Z c st) := by
 obtain ⟨v1, h1, h1'⟩ := Ad6.val st (c.length : Int) 4 (by omega);rw [A0q (x := (4 : Int) - 1) (by omega) (by omega)] at h1';cases v1 with
 | false => exact ⟨false, Af6.of _ _ ((Ev.const _).of_eq fun k => by rw [Af6.T, h1]; rfl), by simp only [Bool.false_eq_true, false_iff]; exact fun h => absurd (h1'.2 ⟨by have := h.1; omega, h.2.1⟩) (by simp)⟩
 | true =>
   obtain ⟨hl, ha⟩ := h1'.1 rfl;obtain ⟨v, hv, hv'⟩ := Ev.allP (L := fun k i => Af6.l4 k c st (i : Int)) (a := ()) (b := ()) (n := 4) (fun i => sumL st (A0G c i c.length) ≤ 32) true (fun i hi => by
     have E := fun k => Af6.l4_eq k c st (i : Int);simp only [if_pos (show decide ((i : Int) ≤ 3) = true by simp; omega), Ag6.val c st (i : Int) (by omega) hn (by omega), Option.bind_some, A0y (show i < 4611686018427387904 by omega)] at E;by_cases h : sumL st (A0G c i c.length) ≤ 32
     . exact .inl ⟨h, fun k => by rw [E, if_neg (by simp only [decide_eq_true_eq]; omega)]⟩
     . exact .inr ⟨h, fun k => by rw [E, if_pos (by simp only [decide_eq_true_eq]; omega)]⟩) ((Ev.const _).succ fun k => by rw [Af6.l4_eq, if_neg (by simp)]) 0 (Nat.zero_le _)
   exact ⟨v, Af6.of _ _ (hv.of_eq fun k => by rw [Af6.T, h1]; rfl), hv'.trans ⟨fun ⟨_, h⟩ => ⟨by omega, ha, fun k hk => h k (Nat.zero_le _) hk⟩, fun h => ⟨rfl, fun k _ hk => h.2.2 k hk⟩⟩⟩
theorem Ad4.val (c : List (List Int)) (st : List Int) (hn : c.length ≤ 1048576) (hs : st.length ≤ 1048576) : ∃ v, Ad4.F (c, st, ()) = some ((v, ()), ()) /\ (v = true ↔ A1Z c st) := by
 by_cases hl : st.length = c.length
 . have hcf := Ad0.val st (Am0.cloG (())) (fun a => !decide (0 ≤ a /\ a ≤ 3)) (fun a _ => by
     show (Am0.F (a, ())).map (·.1) = _;rw [Am0.eq, Am0.T, Aa4.val]; rfl) (by omega)
   by_cases ha : A0R 0 3 st
   . have hany : (st.any fun a => !decide (0 ≤ a /\ a ≤ 3)) = false := by
       simp only [List.any_eq_false]; intro x hx; simp only [Bool.not_eq_true', decide_eq_false_iff_not, Classical.not_not]; exact ha x hx
     obtain ⟨v, hv, hv'⟩ := Ev.allP (L := fun k i => Ad4.l4 k st (i : Int) c) (a := ()) (b := ()) (n := 4) (fun i => sumL st (A0G c i c.length) ≤ 32) true (fun i hi => by
       have E := fun k => Ad4.l4_eq k st (i : Int) c;simp only [if_pos (show decide ((i : Int) < 4) = true by simp; omega), Ag0.val c 0 st [] (i : Int) (by omega) hn (by omega), Option.bind_some, A0y (show i < 4611686018427387904 by omega)] at E;by_cases h : sumL st (A0G c i c.length) ≤ 32
       . exact .inl ⟨h, fun k => by rw [E, if_neg (by simp only [decide_eq_true_eq]; omega)]⟩
       . exact .inr ⟨h, fun k => by rw [E, if_pos (by simp only [decide_eq_true_eq]; omega)]⟩) ((Ev.const _).succ fun k => by rw [Ad4.l4_eq, if_neg (by simp)]) 0 (Nat.zero_le _)
     exact ⟨v, Ad4.of _ _ (hv.of_eq fun k => by rw [Ad4.T, if_neg (by simp [hl]), hcf, hany]; rfl), hv'.trans ⟨fun ⟨_, h⟩ => ⟨hl, ha, fun k hk => h k (Nat.zero_le _) hk⟩, fun h => ⟨rfl, fun k _ hk => h.2.2 k hk⟩⟩⟩
   . have hany : (st.any fun a => !decide (0 ≤ a /\ a ≤ 3)) = true := by
       refine Classical.byContradiction fun hc => ha fun x hx => ?_;simp only [Bool.not_eq_true, List.any_eq_false, Bool.not_eq_true', decide_eq_false_iff_not, Classical.not_not] at hc;exact hc x hx
     exact ⟨false, Ad4.of _ _ ((Ev.const _).of_eq fun k => by rw [Ad4.T, if_neg (by simp [hl]), hcf, hany]; rfl), by simp only [Bool.false_eq_true, false_iff]; exact fun h => ha h.2.1⟩
 . exact ⟨false, Ad4.of _ _ ((Ev.const _).of_eq fun k => by rw [Ad4.T, if_pos (by simp; omega)]), by simp only [Bool.false_eq_true, false_iff]; exact fun h => hl h.1⟩
theorem Ah6.val (m : MatV) (h : m.2.2.2.length ≤ 1048576) : Ah6.F (m, ()) = some ((m, ()), ()) := by
 have hT : Ah6.F (m, ()) = Ah6.T m.1 m.2.1 m.2.2.1 m.2.2.2 := Ah6.eq _ _ _ _;rw [hT, Ah6.T, Aa6.val _ h]; rfl
def A0E (c : List (List Int)) (g : A0Y -> MatV) : List MatV := (arr c c.length).map g
theorem A0J (c : List (List Int)) (g : A0Y -> MatV) : (A0E c g).length = off c c.length := by simp [A0E, A0k]
theorem A0n (c : List (List Int)) (g : A0Y -> MatV) : A0E c g = (List.range (arr c c.length).length).map fun q => g ((arr c c.length).getD q (0, 0, 0)) := by
 rw [A0E];apply List.ext_getElem
 . simp
 . intro i h1 h2;simp only [List.length_map] at h1;simp [h1]
theorem Af9.val (c : List (List Int)) (p : Int) (st : List Int) (f : A0Y × Unit -> Option (MatV × Unit)) (g : A0Y -> MatV) (h : CplxOk c) (hst : st.length ≤ 1048576)
   (hf : ∀ e ∈ arr c c.length, f (e, ()) = some (g e, ()) /\ (g e).2.2.2.length ≤ 1048576) : Af9.F (c, p, st, f, ()) = some (((c, p, st, A0E c g), ()), ()) := by
 have ho := A0N h (Nat.le_refl c.length);have hn := h.1;refine Af9.of _ _ _ _ ?_;have hp := Goes.push (R := ((ShfV × Unit) × Unit)) (fun k i (s : List MatV) => Af9.l3 k f ((arr c c.length).length : Int) (i : Int) [] 0 [] [] c p st s (arr c c.length)) (arr c c.length).length (fun q => g ((arr c c.length).getD q (0, 0, 0))) (fun i s hi hs => Goes.succ fun k => by
   obtain ⟨h1, h2⟩ := hf _ (A0z (0, 0, 0) hi);rw [A0k] at hi;rw [Af9.l3_eq, if_pos (by rw [A0k]; exact ltI.2 hi), if_pos (by rw [A0k]; omega)];simp only [Int.toNat_natCast, h1, Option.bind_some, Ah6.val _ h2];rw [if_pos (A1d hs (by omega)), A0y (by omega)])
 refine Ev.of_eq (hp _ ((Ev.const _).succ fun k => ?_)) fun k => ?_
 . rw [Af9.l3_eq, if_neg (by simp), <- A0n]
 . rw [Af9.T, Ag9.same c h.small h.sorted, Aa6.val _ hst, Ab8.val c h]; rfl
def newM (p : Int) (st : List Int) (e : A0Y) : MatV := (p, st.getD e.1.toNat 0, st.getD e.2.2.toNat 0, List.replicate ((st.getD e.1.toNat 0).toNat * (st.getD e.2.2.toNat 0).toNat) 0)
theorem A1q {st : List Int} (h : A0R 0 3 st) (k : Nat) : ((st.getD k 0).toNat : Int) = st.getD k 0 /\ (st.getD k 0).toNat ≤ 3 := by
 by_cases hk : k < st.length
 . have := h _ (A0z 0 hk);omega
 . rw [List.getD_eq_getElem?_getD, List.getElem?_eq_none (by omega)]; simp
theorem Ae1.val (c : List (List Int)) (p : Int) (st : List Int) (h : CplxOk c) (hl : st.length = c.length) (hst : A0R 0 3 st) : Ae1.F (c, p, st, ()) = some (((c, p, st, A0E c (newM p st)), ()), ()) := by
 have hn := h.1;refine Ae1.of _ _ _ ?_;obtain ⟨x, hx, hg⟩ := Goes.loop (R := ((ShfV × Unit) × Unit)) (fun k i (x : List MatV) => Ae1.l3 k c p st (i : Int) [] 0 [] [] c p st x) c.length (fun i x => x = (arr c i).map (newM p st)) (fun i x hi h2 => by
   have hoff := A0N h (show i ≤ c.length by omega);have h5 := A0r h hi;have e5 : (fcs c i).length = (A0D (c.getD i [])).length := by simp [fcs]
   refine ⟨_, rfl, (Goes.succ fun k => by rw [Ae1.l3_eq, if_pos (ltI.2 hi), Ab3.val c h i hi]).trans ?_⟩;obtain ⟨y, hy, hg2⟩ := Goes.loop (R := ((ShfV × Unit) × Unit)) (fun k j (y : List MatV) => Ae1.l7 k c p st (i : Int) (j : Int) [] 0 [] [] c p st y (fcs c i)) (fcs c i).length (fun j y => y = (arr c i).map (newM p st) ++ (List.range j).map fun (j : Nat) => newM p st ((i : Int), (j : Int), (fcs c i).getD j 0)) (fun j y hj h3 => ⟨_, rfl, Goes.succ fun k => by
     obtain ⟨q, hq, hq'⟩ := A0u h hi (A0z 0 hj);obtain ⟨z1, z1'⟩ := A1q hst i;obtain ⟨z2, z2'⟩ := A1q hst q;have z := Af4.val p (st.getD i 0).toNat (st.getD q 0).toNat (by omega) (by omega);rw [z1, z2] at z;rw [Ae1.l7_eq, if_pos (ltI.2 hj), if_pos (idxI.2 (by omega)), if_pos (idxI.2 hj)];simp only [Int.toNat_natCast];rw [hq, if_pos (idxI.2 (by omega))];simp only [Int.toNat_natCast, z, Option.bind_some];rw [if_pos (by rw [h3]; simp only [List.length_append, List.length_map, List.length_range, List.length_cons, List.length_nil, A0k, bigA]; omega), A0y (by omega), h3, List.range_succ, List.map_append, List.append_assoc];simp only [List.map_cons, List.map_nil, newM, hq, Int.toNat_natCast]⟩) 0 x (Nat.zero_le _) (by simp [h2])
   refine hg2.trans (Goes.succ fun k => ?_);rw [Ae1.l7_eq, if_neg (by simp), A0y (by omega), hy, A0p, List.map_append, A1p, List.map_map];rfl) 0 [] (Nat.zero_le _) rfl
 refine Ev.of_eq (hg _ ((Ev.const _).succ fun k => ?_)) fun k => ?_
 . rw [Ae1.l3_eq, if_neg (by simp), hx]; rfl
 . rw [Ae1.T, Ai8.val c h, Ab0.val _ (by omega)]; rfl
def A1Y (c : List (List Int)) (p : Int) (st : List Int) (m : MatV) (i j : Nat) : Prop := MatOk m /\ m.1 = p /\ m.2.1 = st.getD i 0 /\ m.2.2.1 = st.getD ((fcs c i).getD j 0).toNat 0
def A1f (s : ShfV) (i : Nat) : Prop := ∀ j, j < (fcs s.1 i).length -> A1Y s.1 s.2.1 s.2.2.1 (s.2.2.2.getD (off s.1 i + j) (0, 0, 0, [])) i j
def A0A (s : ShfV) : Prop := CplxOk s.1 /\ A0h s.2.1 /\ A1Z s.1 s.2.2.1 /\ s.2.2.2.length = off s.1 s.1.length /\ ∀ i, i < s.1.length -> A1f s i
theorem A2M (c : List (List Int)) {a b : Nat} (h : a ≤ b) : off c a ≤ off c b := by
 induction h with
 | refl => exact Nat.le_refl _
 | step _ ih => exact Nat.le_trans ih (Nat.le_add_right _ _)
theorem A1i {c : List (List Int)} {i j : Nat} (hi : i < c.length) (hj : j < (fcs c i).length) : off c i + j < off c c.length := by
 have := A2M c (show i + 1 ≤ c.length by omega);rw [off] at this; omega
theorem Al3.val (c : List (List Int)) (p : Int) (st : List Int) (ms : List MatV) (m : MatV) (h : CplxOk c) (hst : st.length = c.length) (hm : m.2.2.2.length < 4611686018427387904) (i j : Nat) (hi : i < c.length) (hj : j < (fcs c i).length) :
   ∃ v, Al3.F ((c, (p, (st, ms))), (i : Int), (j : Int), m, ()) = some ((v, ()), ()) /\ (v = true ↔ A1Y c p st m i j) := by
 obtain ⟨q, r, cc, xs⟩ := m;obtain ⟨v1, h1, h1'⟩ := Al1.val (q, r, cc, xs) hm;obtain ⟨x, hx, hxc⟩ := A0u h hi (A0z (0 : Int) hj);rw [Al3.eq, Al3.T, Ab3.val c h i hi];simp only [Option.bind_some];rw [if_pos (by omega), h1];simp only [Option.bind_some, Int.toNat_natCast];unfold A1Y;cases v1 with
 | false => exact ⟨false, by rw [if_neg (by simp)], by simp only [Bool.false_eq_true, false_iff]; exact fun hh => absurd (h1'.2 hh.1) (by simp)⟩
 | true =>
   have hmat := h1'.1 rfl;rw [if_pos rfl];by_cases e1 : q = p
   . rw [if_pos (by simp [e1]), if_pos (by omega)];by_cases e2 : r = st.getD i 0
     . rw [if_pos (by simp only [beq_iff_eq]; exact e2), if_pos (by rw [hx]; omega)];exact ⟨_, rfl, by simp only [beq_iff_eq]; exact ⟨fun e3 => ⟨hmat, e1, e2, e3⟩, fun hh => hh.2.2.2⟩⟩
     . exact ⟨false, by rw [if_neg (by simp only [beq_iff_eq]; exact e2)], by simp only [Bool.false_eq_true, false_iff]; exact fun hh => e2 hh.2.2.1⟩
   . exact ⟨false, by rw [if_neg (by simp only [beq_iff_eq]; exact e1)], by simp only [Bool.false_eq_true, false_iff]; exact fun hh => e1 hh.2.1⟩
theorem Aa3.val (s : ShfV) (hsm : SmSh s) : ∃ v, Aa3.F (s, ()) = some ((v, ()), ()) /\ (v = true ↔ A0A s) := by
 obtain ⟨c, p, st, ms⟩ := s;obtain ⟨hc, hst, hms⟩ := hsm;have hc : SmL c := hc;have hst : st.length ≤ 1048576 := hst;have hms : SmMs ms := hms;unfold A0A;simp only [];obtain ⟨v1, h1, h1'⟩ := Aa2.val c hc;obtain ⟨v2, h2, h2'⟩ := Af3.val p;obtain ⟨v3, h3, h3'⟩ := Af6.val c st hc.1 hst;have h2p : Ag5.F (p, ()) = some ((v2, ()), ()) := by rw [Ag5.eq, Ag5.T, h2]; rfl
 cases v1 with
 | false => exact ⟨false, Aa3.of _ _ _ _ ((Ev.const _).of_eq fun k => by rw [Aa3.T, h1]; rfl), by simp only [Bool.false_eq_true, false_iff]; exact fun hh => absurd (h1'.2 hh.1) (by simp)⟩
 | true =>
 cases v2 with
 | false => exact ⟨false, Aa3.of _ _ _ _ ((Ev.const _).of_eq fun k => by rw [Aa3.T, h1, h2p]; rfl), by simp only [Bool.false_eq_true, false_iff]; exact fun hh => absurd (h2'.2 hh.2.1) (by simp)⟩
 | true =>
 cases v3 with
 | false => exact ⟨false, Aa3.of _ _ _ _ ((Ev.const _).of_eq fun k => by rw [Aa3.T, h1, h2p, h3]; rfl), by simp only [Bool.false_eq_true, false_iff]; exact fun hh => absurd (h3'.2 hh.2.2.1) (by simp)⟩
 | true =>
 have hcx := h1'.1 rfl;have hstalk := h3'.1 rfl;have hcl := hcx.1;have hoff := A0N hcx (Nat.le_refl c.length);have h4 : Am3.F (c, ()) = some ((((off c c.length : Nat) : Int), ()), ()) := by
   have := Ab7.val c hcx c.length (Nat.le_refl _) 0 (by omega);rw [Am3.eq, Am3.T, show (0 : Int) = ((0 : Nat) : Int) from rfl, this]; rfl
 by_cases hlen : ms.length = off c c.length
 . obtain ⟨v, hv, b, rfl, hb⟩ := Ev.loop (σ := Unit) (R := (Bool × Unit) × Unit) (fun k i _ => Aa3.l4 k c p st ms (i : Int)) c.length (fun i _ => ∀ n, n < i -> A1f (c, p, st, ms) n) (fun r => ∃ b, r = ((b, ()), ()) /\ (b = true ↔ ∀ n, n < c.length -> A1f (c, p, st, ms) n))
     (fun i _ hi hI => by
       have E4 : ∀ k, Aa3.l4 (k + 1) c p st ms (i : Int) = Aa3.l7 k c p st ms (i : Int) ((0 : Nat) : Int) := fun k => by rw [Aa3.l4_eq, if_pos (ltI.2 hi)]; rfl
       have hlc := (hcx.2 i hi).1.1;have step : ∀ j, j < (fcs c i).length -> ∃ v, (v = true ↔ A1Y c p st (ms.getD (off c i + j) (0, 0, 0, [])) i j) /\ ∀ k, Aa3.l7 (k + 1) c p st ms (i : Int) (j : Int) = if (!v) = true then some ((false, ()), ()) else Aa3.l7 k c p st ms (i : Int) ((j + 1 : Nat) : Int) := fun j hj => by
         have hlt := A1i hi hj;have hj2 := hj;rw [A0F] at hj2;have h1l : 1 < (c.getD i []).length := by
           by_cases hh : 1 < (c.getD i []).length
           . exact hh
           . rw [if_neg hh] at hj2; omega
         rw [if_pos h1l] at hj2;have hml : (ms.getD (off c i + j) (0, 0, 0, [])).2.2.2.length < 4611686018427387904 := by
           have : (ms.getD (off c i + j) (0, 0, 0, [])).2.2.2.length ≤ 1048576 := hms.2 _ (A0z _ (by omega));omega
         obtain ⟨v, hv, hv'⟩ := Al3.val c p st ms (ms.getD (off c i + j) (0, 0, 0, [])) hcx hstalk.1 hml i j hi hj;refine ⟨v, hv', fun k => ?_⟩;rw [Aa3.l7_eq, if_pos (idxI.2 hi)];simp only [Int.toNat_natCast];rw [if_pos (by simp only [decide_eq_true_eq]; omega), if_pos (idxI.2 hi), if_pos (by simp only [decide_eq_true_eq]; omega), Ab7.val c hcx i (by omega) j (by omega)];simp only [Option.bind_some, Int.toNat_natCast];rw [if_pos (by omega), hv];simp only [Option.bind_some];rw [A0y (by omega)]
       have stop : ∀ k, Aa3.l7 (k + 1) c p st ms (i : Int) (((fcs c i).length : Nat) : Int) = Aa3.l4 k c p st ms ((i + 1 : Nat) : Int) := fun k => by
         rw [Aa3.l7_eq, if_pos (idxI.2 hi), A0F];simp only [Int.toNat_natCast];by_cases h1l : 1 < (c.getD i []).length
         . rw [if_pos h1l, if_neg (by simp), A0y (by omega)]
         . rw [if_neg h1l, if_pos (by simp only [decide_eq_true_eq]; omega), if_pos (idxI.2 hi), if_neg (by simp only [decide_eq_true_eq]; omega), A0y (by omega)]
       by_cases hP : A1f (c, p, st, ms) i
       . refine .inr ⟨(), fun n hn => ?_, (Goes.succ E4).trans ?_⟩
         . by_cases hni : n = i
           . rw [hni]; exact hP
           . exact hI n (by omega)
         . obtain ⟨_, _, hg⟩ := Goes.loop (σ := Unit) (R := (Bool × Unit) × Unit) (fun k j _ => Aa3.l7 k c p st ms (i : Int) (j : Int)) (fcs c i).length (fun _ _ => True) (fun j _ hj _ => ⟨(), trivial, by
             obtain ⟨v, hv, hv2⟩ := step j hj;have : v = true := hv.2 (hP j hj);subst this;exact Goes.succ fun k => by rw [hv2]; rfl⟩) 0 () (Nat.zero_le _) trivial
           exact hg.trans (Goes.succ stop)
       . left;obtain ⟨v, hv, hv'⟩ := Ev.loop (σ := Unit) (R := (Bool × Unit) × Unit) (fun k j _ => Aa3.l7 k c p st ms (i : Int) (j : Int)) (fcs c i).length (fun j _ => ∀ n, n < j -> A1Y c p st (ms.getD (off c i + n) (0, 0, 0, [])) i n) (fun r => r = ((false, ()), ())) (fun j _ hj hJ => by
           obtain ⟨v, hv, hv2⟩ := step j hj;cases v with
           | false => exact .inl ⟨_, (Ev.const _).succ fun k => by rw [hv2]; rfl, rfl⟩
           | true =>
             refine .inr ⟨(), fun n hn => ?_, Goes.succ fun k => by rw [hv2]; rfl⟩;by_cases hnj : n = j
             . rw [hnj]; exact hv.1 rfl
             . exact hJ n (by omega)) (fun _ hJ => absurd (fun j hj => hJ j hj) hP) 0 () (Nat.zero_le _) (by intro n hn; omega)
         subst hv';exact ⟨_, hv.succ E4, false, rfl, by simp only [Bool.false_eq_true, false_iff]; exact fun hh => hP (hh i hi)⟩)
     (fun _ hI => ⟨_, (Ev.const _).succ fun k => by rw [Aa3.l4_eq, if_neg (by simp)], true, rfl, by simp only [true_iff]; exact hI⟩) 0 () (Nat.zero_le _) (by intro n hn; omega)
   refine ⟨b, Aa3.of _ _ _ _ (hv.of_eq fun k => ?_), hb.trans ⟨fun hh => ⟨hcx, h2'.1 rfl, hstalk, hlen, hh⟩, fun hh => hh.2.2.2.2⟩⟩;rw [Aa3.T, h1, h2p, h3, h4];simp only [Option.bind_some, Bool.not_true, Bool.false_eq_true, if_false];rw [if_neg (by simp [hlen])]; rfl
 . refine ⟨false, Aa3.of _ _ _ _ ((Ev.const _).of_eq fun k => ?_), by simp only [Bool.false_eq_true, false_iff]; exact fun hh => hlen hh.2.2.2.1⟩;rw [Aa3.T, h1, h2p, h3, h4];simp only [Option.bind_some, Bool.not_true, Bool.false_eq_true, if_false];rw [if_pos (by simp; omega)]
theorem Ac5.same (m n : MatV) (h : SmM m) : ∃ b, Ac5.F (m, n, ()) = some ((b, ()), ()) /\ (b = true ↔ m = n) := by
 obtain ⟨a, b, c, xs⟩ := m;obtain ⟨a', b', c', ys⟩ := n;have hn : xs.length ≤ 1048576 := h;simp only [Prod.mk.injEq];by_cases h1 : a = a'
 . by_cases h2 : b = b'
   . by_cases h3 : c = c'
     . by_cases hl : xs.length = ys.length
       . obtain ⟨e, he, he'⟩ := A0U (fun k i => Ac5.l4 k a b c xs a' b' c' ys (i : Int)) xs ys 0 hl (fun i hi => ⟨xs.getD i 0 == ys.getD i 0, by simp, fun k => by
           rw [Ac5.l4_eq, if_pos (ltI.2 hi), if_pos (idxI.2 hi), if_pos (idx2 (hl ▸ hi))]; simp only [Int.toNat_natCast]; rw [A0y (by omega)]; rfl⟩) (fun k => by rw [Ac5.l4_eq, if_neg (by simp)])
         exact ⟨e, Ac5.of _ _ _ _ _ _ _ _ (he.of_eq fun k => by rw [Ac5.T, if_neg (by simp [h1]), if_neg (by simp [h2]), if_neg (by simp [h3]), if_neg (by simp [hl])]; rfl), by simp [h1, h2, h3, he']⟩
       . exact ⟨false, Ac5.of _ _ _ _ _ _ _ _ ((Ev.const _).of_eq fun k => by rw [Ac5.T, if_neg (by simp [h1]), if_neg (by simp [h2]), if_neg (by simp [h3]), if_pos (by simp; omega)]), by simp [h1, h2, h3]; intro e; exact hl (by rw [e])⟩
     . exact ⟨false, Ac5.of _ _ _ _ _ _ _ _ ((Ev.const _).of_eq fun k => by rw [Ac5.T, if_neg (by simp [h1]), if_neg (by simp [h2]), if_pos (by simp [h3])]), by simp [h3]⟩
   . exact ⟨false, Ac5.of _ _ _ _ _ _ _ _ ((Ev.const _).of_eq fun k => by rw [Ac5.T, if_neg (by simp [h1]), if_pos (by simp [h2])]), by simp [h2]⟩
 . exact ⟨false, Ac5.of _ _ _ _ _ _ _ _ ((Ev.const _).of_eq fun k => by rw [Ac5.T, if_pos (by simp [h1])]), by simp [h1]⟩
theorem Aj7.same (m n : MatV) (h : SmM m) : ∃ b, Aj7.F (m, n, ()) = some ((b, ()), ()) /\ (b = true ↔ m = n) := by
 obtain ⟨a, b, c, xs⟩ := m;obtain ⟨a', b', c', ys⟩ := n;obtain ⟨e, he, he'⟩ := Ac4.same xs ys h;rw [Aj7.eq, Aj7.T, he];simp only [Option.bind_some, Prod.mk.injEq];by_cases h1 : a = a'
 . by_cases h2 : b = b'
   . by_cases h3 : c = c'
     . exact ⟨e, by rw [if_pos (by simp [h1]), if_pos (by simp [h2]), if_pos (by simp [h3])], by simp [h1, h2, h3, he']⟩
     . exact ⟨false, by rw [if_pos (by simp [h1]), if_pos (by simp [h2]), if_neg (by simp [h3])], by simp [h3]⟩
   . exact ⟨false, by rw [if_pos (by simp [h1]), if_neg (by simp [h2])], by simp [h2]⟩
 . exact ⟨false, by rw [if_neg (by simp [h1])], by simp [h1]⟩
theorem Goes.find {R T : Type} {L : Nat -> Nat -> Option R} {M : Nat -> Option R} {n : Nat} (i0 : Nat) (f : Nat -> Option T) (res : T -> R)
   (hstep : ∀ i, i0 ≤ i -> i < n -> (f i = none /\ Goes (fun k => L k i) (fun k => L k (i + 1))) ∨ (∃ t, f i = some t /\ Ev (fun k => L k i) (res t)))
   (hend : Goes (fun k => L k n) M) (i : Nat) (h0 : i0 ≤ i) (hi : i ≤ n) :
   ((List.range' i (n - i)).findSome? f = none /\ Goes (fun k => L k i) M) ∨ (∃ t, (List.range' i (n - i)).findSome? f = some t /\ Ev (fun k => L k i) (res t)) := by
 have key : ∀ m i, i0 ≤ i -> i + m = n -> ((List.range' i m).findSome? f = none /\ Goes (fun k => L k i) M) ∨ (∃ t, (List.range' i m).findSome? f = some t /\ Ev (fun k => L k i) (res t)) := by
   intro m;induction m with
   | zero => intro i h0 hi; obtain rfl : i = n := by omega
             exact .inl ⟨rfl, hend⟩
   | succ m ih =>
     intro i h0 hi;rw [List.range'_succ, List.findSome?_cons];rcases hstep i h0 (by omega) with ⟨h1, h2⟩ | ⟨t, h1, h2⟩
     . rw [h1];rcases ih (i + 1) (by omega) (by omega) with ⟨h3, h4⟩ | ⟨t, h3, h4⟩
       . exact .inl ⟨h3, h2.trans h4⟩
       . exact .inr ⟨t, h3, h2 _ h4⟩
     . rw [h1]; exact .inr ⟨t, rfl, h2⟩
 exact key (n - i) i h0 (by omega)
def A0C (s : ShfV) (i j : Nat) : MatV := s.2.2.2.getD (off s.1 i + j) (0, 0, 0, [])
theorem fc_spec {c : List (List Int)} (h : CplxOk c) {k i : Nat} (hk : k < c.length) (hi : i < (fcs c k).length) : ∃ f : Nat, (fcs c k).getD i 0 = (f : Int) /\ f < c.length /\ c.getD f [] = A0B (c.getD k []) i /\ i < (c.getD k []).length /\ 1 < (c.getD k []).length := by
 rw [A0F] at hi;have h1 : 1 < (c.getD k []).length := by
   by_cases h1 : 1 < (c.getD k []).length
   . exact h1
   . rw [if_neg h1] at hi; omega
 rw [if_pos h1] at hi;have hf : (A0D (c.getD k [])) = (List.range (c.getD k []).length).map (A0B (c.getD k [])) := by rw [A0D, if_pos h1]
 have hm : A0B (c.getD k []) i ∈ A0D (c.getD k []) := by rw [hf]; exact List.mem_map.2 ⟨i, List.mem_range.2 hi, rfl⟩
 obtain ⟨h2, h3⟩ := A0X (A1M h hk hm);refine ⟨_, ?_, h2, h3, hi, h1⟩;rw [fcs, hf];obtain ⟨s, hs⟩ : ∃ s, c.getD k [] = s := ⟨_, rfl⟩;rw [hs] at hi ⊢;simp only [List.getD_eq_getElem?_getD, List.getElem?_map, List.getElem?_range hi, Option.map_some, Option.getD_some]
theorem Ae4.val (s : ShfV) (h : CplxOk s.1) (n : Nat) (hn : n ≤ s.1.length) : Ae4.F (s, (n : Int), ()) = some ((((off s.1 n : Nat) : Int), ()), ()) := by
 obtain ⟨c, p, st, ms⟩ := s;have h : CplxOk c := h;have hn : n ≤ c.length := hn;have hcl := h.1;have hos := A0N h hn;have hcut : cutL c (0 : Int) (n : Int) = c.take n := by simp [cutL]
 have hlen : (c.take n).length = n := by simp; omega
 refine Ae4.of _ _ _ _ _ (Ev.of_eq (N := fun k => Ae4.l3 k 0 (c.take n) (n : Int) ((0 : Nat) : Int)) ?_ fun k => by rw [Ae4.T, if_pos (by omega), hcut, hlen]; rfl);obtain ⟨x, hx, hg⟩ := Goes.loop (R := ((Int × Unit) × Unit)) (fun k i (x : Int) => Ae4.l3 k x (c.take n) (n : Int) (i : Int)) n (fun i x => x = (off c i : Int)) (fun i x hi h2 => ⟨_, rfl, Goes.succ fun k => by
   have hic : i < c.length := by omega
   have hoff := A0N h (show i ≤ c.length by omega);have h4 := (h.2 i hic).1.1.2;have ht : (c.take n).getD i [] = c.getD i [] := by simp only [List.getD_eq_getElem?_getD, List.getElem?_take, hi, if_true]
   rw [Ae4.l3_eq, if_pos (ltI.2 hi), if_pos (by rw [hlen]; omega)];simp only [Int.toNat_natCast, ht];rw [off, A0F];by_cases h1 : 1 < (c.getD i []).length
   . rw [if_pos (by simp only [decide_eq_true_eq]; omega), Ad2.eq, Ad2.T, if_pos h1];simp only [Option.bind_some];rw [A0q (by omega) (by omega), A0y (by omega), h2];congr 1
   . rw [if_neg (by simp only [decide_eq_true_eq]; omega), if_neg h1, A0y (by omega), h2];rfl⟩) 0 0 (Nat.zero_le _) rfl
 refine hg _ ((Ev.const _).succ fun k => ?_);rw [Ae4.l3_eq, if_neg (by simp), hx]
theorem Ab4.val (s : ShfV) (h : A0A s) (i j : Nat) (hi : i < s.1.length) (hj : j < (fcs s.1 i).length) : Ab4.F (s, (i : Int), (j : Int), ()) = some ((A0C s i j, ()), ()) := by
 have h1 := Ae4.val s h.1 i (by omega);have h2 := A1i hi hj;have h3 := h.2.2.2.1;have h4 := A0N h.1 (Nat.le_refl s.1.length);have h5 := h.1.1;have hT : Ab4.F (s, (i : Int), (j : Int), ()) = Ab4.T s.1 s.2.1 s.2.2.1 s.2.2.2 (i : Int) (j : Int) := Ab4.eq _ _ _ _ _ _;have hw : IntKind.i64.wrap (((off s.1 i : Nat) : Int) + (j : Int)) = ((off s.1 i + j : Nat) : Int) := by rw [A0q (by omega) (by omega)]; omega
 have h1 : Ae4.F ((s.1, (s.2.1, (s.2.2.1, s.2.2.2))), (i : Int), ()) = _ := h1;rw [hT, Ab4.T, h1];simp only [Option.bind_some, hw];rw [if_pos (by omega)];simp only [Int.toNat_natCast];rfl
theorem Ac2.val (s : ShfV) (h : A0A s) (i j : Nat) (hi : i < s.1.length) (hj : j < (fcs s.1 i).length) : Ac2.F (s, (i : Int), (j : Int), ()) = some ((A0C s i j, ()), ()) := by
 have h2 := A1i hi hj;have h3 := h.2.2.2.1;have h4 := A0N h.1 (Nat.le_refl s.1.length);have h5 := h.1.1;have h1 := Ab7.val s.1 h.1 i (by omega) j (by omega);have hT : Ac2.F (s, (i : Int), (j : Int), ()) = Ac2.T s.1 s.2.1 s.2.2.1 s.2.2.2 (i : Int) (j : Int) := Ac2.eq _ _ _ _ _ _;rw [hT, Ac2.T, h1];simp only [Option.bind_some];rw [if_pos (by omega)];simp only [Int.toNat_natCast];rfl
def fc (c : List (List Int)) (k i : Nat) : Nat := ((fcs c k).getD i 0).toNat
def sqA (s : ShfV) (k i j : Nat) : MatV := mulM (A0C s k i) (A0C s (fc s.1 k i) (j - 1))
def sqB (s : ShfV) (k i j : Nat) : MatV := mulM (A0C s k j) (A0C s (fc s.1 k j) i)
theorem A1h {s : ShfV} (h : A0A s) {i j : Nat} (hi : i < s.1.length) (hj : j < (fcs s.1 i).length) : A1Y s.1 s.2.1 s.2.2.1 (A0C s i j) i j := h.2.2.2.2 i hi j hj
structure SqFit (s : ShfV) (k i j : Nat) (f : Nat) : Prop where
 at_ : (fcs s.1 k).getD i 0 = (f : Int)
 fc_ : fc s.1 k i = f
 lt : f < s.1.length
 jlt : j < (fcs s.1 f).length
 ilt : i < (fcs s.1 k).length
 dir : Ah8.F (A0C s k i, A0C s f j, ()) = some ((mulM (A0C s k i) (A0C s f j), ()), ())
 tim : Ac6.F (A0C s k i, A0C s f j, ()) = some ((mulM (A0C s k i) (A0C s f j), ()), ())
 ok : MatOk (mulM (A0C s k i) (A0C s f j))
theorem A2C {s : ShfV} (h : A0A s) {k i j : Nat} (hk : k < s.1.length) (h3 : 2 < (s.1.getD k []).length) (hi : i < (s.1.getD k []).length) (hj : j + 1 < (s.1.getD k []).length) : ∃ f, SqFit s k i j f := by
 have hil : i < (fcs s.1 k).length := by rw [A0F, if_pos (by omega)]; exact hi
 obtain ⟨f, h1, h2, h4, h5, h6⟩ := fc_spec h.1 hk hil;have hfl : (s.1.getD f []).length = (s.1.getD k []).length - 1 := by rw [h4]; exact A0Q hi
 have hjl : j < (fcs s.1 f).length := by rw [A0F, if_pos (by omega)]; omega
 have m1 := A1h h hk hil;have m2 := A1h h h2 hjl;have hp : (A0C s k i).1 = (A0C s f j).1 := by rw [m1.2.1, m2.2.1]
 have hs : (A0C s k i).2.2.1 = (A0C s f j).2.1 := by rw [m1.2.2.2, m2.2.2.1, h1]; rfl
 exact ⟨f, h1, by rw [fc, h1, Int.toNat_natCast], h2, hjl, hil, Ah8.val _ _ m1.1 m2.1 hp hs, Ac6.val _ _ m1.1 m2.1 hp hs, mulM_ok m1.1 m2.1⟩
theorem MatOk.small {m : MatV} (h : MatOk m) : SmM m := by
 have := A2L h.2.1 h.2.2.1;have := h.2.2.2.1;unfold SmM Sm;omega
noncomputable def A1k (s : ShfV) (k i j : Nat) : Option (Nat × Nat × Nat) := @ite _ (sqA s k i j = sqB s k i j) (Classical.propDecidable _) none (some (k, i, j))
noncomputable def A1X (s : ShfV) (k n i : Nat) : Option (Nat × Nat × Nat) := (List.range' (i + 1) (n - (i + 1))).findSome? (A1k s k i)
noncomputable def A0f (s : ShfV) (k : Nat) : Option (Nat × Nat × Nat) := if (s.1.getD k []).length < 3 then none else (List.range' 0 ((s.1.getD k []).length - 0)).findSome? (A1X s k (s.1.getD k []).length)
noncomputable def A0g (s : ShfV) : Option (Nat × Nat × Nat) := (List.range' 0 (s.1.length - 0)).findSome? (A0f s)
theorem Aa8.val (s : ShfV) (h : A0A s) : Aa8.F (s, ()) = some ((match A0g s with | none => (0, 0, false, ()) | some (k, i, j) => ((k : Int), (fcs s.1 (fc s.1 k i)).getD (j - 1) 0, true, ())), ()) := by
 have hcl := h.1.1;have hT : ∀ r, Ev (fun k => Aa8.T k s.1 s.2.1 s.2.2.1 s.2.2.2) r -> Aa8.F (s, ()) = some r := fun r hr => Aa8.of _ _ _ _ hr;have res : ∀ t : Nat × Nat × Nat, ((Int × Int × Bool × Unit) × Unit) := fun t => (((t.1 : Int), (fcs s.1 (fc s.1 t.1 t.2.1)).getD (t.2.2 - 1) 0, true, ()), ());have main := Goes.find (R := ((Int × Int × Bool × Unit) × Unit)) (L := fun n k => Aa8.l2 n s.1 (s.1.length : Int) (k : Int) s.1 s.2.1 s.2.2.1 s.2.2.2) (M := fun _ => some ((0, 0, false, ()), ())) (n := s.1.length) 0 (A0f s) (fun t : Nat × Nat × Nat => (((t.1 : Int), (fcs s.1 (fc s.1 t.1 t.2.1)).getD (t.2.2 - 1) 0, true, ()), ())) (fun k _ hk => by
   have E := fun n => Aa8.l2_eq n s.1 (s.1.length : Int) (k : Int) s.1 s.2.1 s.2.2.1 s.2.2.2;simp only [if_pos (ltI.2 hk), if_pos (idxI.2 hk), Int.toNat_natCast, A0y (show k < 4611686018427387904 by omega), Ac3.val s.1 h.1 k hk, Option.bind_some] at E;by_cases h3 : (s.1.getD k []).length < 3
   . exact .inl ⟨by rw [A0f, if_pos h3], Goes.succ fun n => by rw [E, if_pos (by simp only [decide_eq_true_eq]; omega)]⟩
   obtain ⟨t, ht⟩ : ∃ t, s.1.getD k [] = t := ⟨_, rfl⟩;have h4 := (h.1.2 k hk).1.1.2;rw [ht] at h4 h3;have hw : A0f s k = (List.range' 0 (t.length - 0)).findSome? (A1X s k t.length) := by rw [A0f, ht, if_neg h3]
   rw [hw];simp only [ht] at E;have e0 : Goes (fun n => Aa8.l2 n s.1 (s.1.length : Int) (k : Int) s.1 s.2.1 s.2.2.1 s.2.2.2) (fun n => Aa8.l8 n t (k : Int) s.1 (s.1.length : Int) (k : Int) (t.length : Int) ((0 : Nat) : Int) s.1 s.2.1 s.2.2.1 s.2.2.2 (fcs s.1 k)) := Goes.succ fun n => by rw [E, if_neg (by simp only [decide_eq_true_eq]; omega)]; rfl
   have inner := Goes.find (R := ((Int × Int × Bool × Unit) × Unit)) (L := fun n i => Aa8.l8 n t (k : Int) s.1 (s.1.length : Int) (k : Int) (t.length : Int) (i : Int) s.1 s.2.1 s.2.2.1 s.2.2.2 (fcs s.1 k)) (M := fun n => Aa8.l2 n s.1 (s.1.length : Int) ((k + 1 : Nat) : Int) s.1 s.2.1 s.2.2.1 s.2.2.2) (n := t.length) 0 (A1X s k t.length) (fun t : Nat × Nat × Nat => (((t.1 : Int), (fcs s.1 (fc s.1 t.1 t.2.1)).getD (t.2.2 - 1) 0, true, ()), ())) (fun i _ hi => by
     have e1 : Goes (fun n => Aa8.l8 n t (k : Int) s.1 (s.1.length : Int) (k : Int) (t.length : Int) (i : Int) s.1 s.2.1 s.2.2.1 s.2.2.2 (fcs s.1 k)) (fun n => Aa8.l11 n t (k : Int) (i : Int) ((i + 1 : Nat) : Int) s.1 (s.1.length : Int) (k : Int) (t.length : Int) (i : Int) s.1 s.2.1 s.2.2.1 s.2.2.2 (fcs s.1 k)) := Goes.succ fun n => by rw [Aa8.l8_eq, if_pos (ltI.2 hi), A0y (by omega)]
     have deep := Goes.find (R := ((Int × Int × Bool × Unit) × Unit)) (L := fun n j => Aa8.l11 n t (k : Int) (i : Int) (j : Int) s.1 (s.1.length : Int) (k : Int) (t.length : Int) (i : Int) s.1 s.2.1 s.2.2.1 s.2.2.2 (fcs s.1 k)) (M := fun n => Aa8.l8 n t (k : Int) s.1 (s.1.length : Int) (k : Int) (t.length : Int) ((i + 1 : Nat) : Int) s.1 s.2.1 s.2.2.1 s.2.2.2 (fcs s.1 k)) (n := t.length) (i + 1) (A1k s k i) (fun t : Nat × Nat × Nat => (((t.1 : Int), (fcs s.1 (fc s.1 t.1 t.2.1)).getD (t.2.2 - 1) 0, true, ()), ())) (fun j hij hj => by
       obtain ⟨f, F⟩ := A2C h hk (by rw [ht]; omega) (show i < _ by rw [ht]; omega) (show j - 1 + 1 < _ by rw [ht]; omega);obtain ⟨g, G⟩ := A2C h hk (by rw [ht]; omega) (show j < _ by rw [ht]; omega) (show i + 1 < _ by rw [ht]; omega);have hA : sqA s k i j = mulM (A0C s k i) (A0C s f (j - 1)) := by rw [sqA, F.fc_]
       have hB : sqB s k i j = mulM (A0C s k j) (A0C s g i) := by rw [sqB, G.fc_]
       obtain ⟨b, hb, hb'⟩ := Aj7.same (mulM (A0C s k i) (A0C s f (j - 1))) (mulM (A0C s k j) (A0C s g i)) F.ok.small;have E2 := fun n => Aa8.l11_eq n t (k : Int) (i : Int) (j : Int) s.1 (s.1.length : Int) (k : Int) (t.length : Int) (i : Int) s.1 s.2.1 s.2.2.1 s.2.2.2 (fcs s.1 k);simp only [if_pos (ltI.2 hj), Ab4.val s h k i hk F.ilt, Ab4.val s h k j hk G.ilt, A2z (show 0 < j by omega) (show j < 4611686018427387904 by omega), Option.bind_some, if_pos (idxI.2 F.ilt), if_pos (idxI.2 G.ilt), Int.toNat_natCast, F.at_, G.at_, Ab4.val s h f (j - 1) F.lt F.jlt, Ab4.val s h g i G.lt G.jlt, F.dir, G.dir, hb, Ac3.val s.1 h.1 f F.lt, if_pos (idxI.2 F.jlt), A0y (show j < 4611686018427387904 by omega)] at E2;cases b with
       | true => exact .inl ⟨by rw [A1k, if_pos (by rw [hA, hB]; exact hb'.1 rfl)], Goes.succ fun n => by rw [E2, if_neg (by simp)]⟩
       | false => exact .inr ⟨(k, i, j), by rw [A1k, if_neg (by rw [hA, hB]; exact fun e => absurd (hb'.2 e) (by simp))], (Ev.const _).succ fun n => by rw [E2, if_pos (by simp)]; simp only [F.fc_]⟩) (Goes.succ fun n => by rw [Aa8.l11_eq, if_neg (by simp), A0y (by omega)]) (i + 1) (Nat.le_refl _) (by omega)
     rcases deep with ⟨d1, d2⟩ | ⟨r, d1, d2⟩
     . exact .inl ⟨d1, e1.trans d2⟩
     . exact .inr ⟨r, d1, e1 _ d2⟩) (Goes.succ fun n => by rw [Aa8.l8_eq, if_neg (by simp), A0y (by omega)]) 0 (Nat.le_refl _) (Nat.zero_le _)
   rcases inner with ⟨d1, d2⟩ | ⟨r, d1, d2⟩
   . exact .inl ⟨d1, e0.trans d2⟩
   . exact .inr ⟨r, d1, e0 _ d2⟩) (Goes.succ fun n => by rw [Aa8.l2_eq, if_neg (by simp)]) 0 (Nat.le_refl _) (Nat.zero_le _)
 rcases main with ⟨d1, d2⟩ | ⟨⟨k, i, j⟩, d1, d2⟩
 . rw [A0g, d1];exact hT _ ((d2 _ (Ev.const _)).of_eq fun n => rfl)
 . rw [A0g, d1];exact hT _ (d2.of_eq fun n => rfl)
def A2Q (p : Int) (R C : Nat) : MatV := (p, (R : Int), (C : Int), List.replicate (R * C) 0)
theorem Aj0.val (p : Int) (R C : Nat) (hR : R ≤ 32) (hC : C ≤ 32) : Aj0.F (p, (R : Int), (C : Int), ()) = some ((A2Q p R C, ()), ()) := by
 rw [Aj0.eq, Aj0.T, Ab1.val p R C _ (fun _ _ => 0) hR hC (fun i j _ _ => by
   show (An2.F ((i : Int), (j : Int), ())).map (·.1) = _;rw [An2.eq, An2.T]; rfl)]
 simp only [Option.bind_some, A2Q];rw [A1g (R := R) (C := C) (g := fun _ _ => 0) (ys := List.replicate (R * C) 0) (by simp) fun i j hi hj => by
   have := A2N hi hj;simp [List.getD_eq_getElem?_getD, List.getElem?_replicate, this]]
def IsIn (p c : List (List Int)) : Prop := ∀ s ∈ p, s ∈ c
theorem Ai9.val (p c : List (List Int)) (hp : p.length ≤ 1048576) (h : SmL c) : ∃ v, Ai9.F (p, c, ()) = some ((v, ()), ()) /\ (v = true ↔ IsIn p c) := by
 obtain ⟨v, hv, hv'⟩ := Ev.allP (L := fun k i => Ai9.l2 k p c (i : Int)) (a := ()) (b := ()) (n := p.length) (fun i => p.getD i [] ∈ c) true (fun i hi => by
   have E := fun k => Ai9.l2_eq k p c (i : Int);obtain ⟨r, hr, hr'⟩ := Aa0.val c (p.getD i []) h;simp only [if_pos (ltI.2 hi), if_pos (idxI.2 hi), Int.toNat_natCast, hr, Option.bind_some, A0y (show i < 4611686018427387904 by omega)] at E;by_cases hm : p.getD i [] ∈ c
   . exact .inl ⟨hm, fun k => by rw [E, if_neg (by simp only [decide_eq_true_eq, hr']; exact fun hh => hh hm)]⟩
   . exact .inr ⟨hm, fun k => by rw [E, if_pos (by simp only [decide_eq_true_eq, hr']; exact hm)]⟩) ((Ev.const _).succ fun k => by rw [Ai9.l2_eq, if_neg (by simp)]) 0 (Nat.zero_le _)
 refine ⟨v, Ai9.of _ _ (hv.of_eq fun k => rfl), hv'.trans ⟨fun ⟨_, h⟩ s hs => ?_, fun h => ⟨rfl, fun j _ hj => h _ (A0z _ hj)⟩⟩⟩;obtain ⟨j, hj, rfl⟩ := List.getElem_of_mem hs;have := h j (Nat.zero_le _) hj
 rwa [A0x hj] at this
theorem Ak4.val (p c : List (List Int)) (hp : SmL p) (h : SmL c) (hs : A0I c) : ∃ v, Ak4.F (p, c, ()) = some ((v, ()), ()) /\ (v = true ↔ IsIn p c) := by
 have hcf := Ad8.val p (Am1.cloG (c, ())) (fun f => decide (f ∉ c)) (fun f hf => by
   show (Am1.F (f, c, ())).map (·.1) = _;obtain ⟨r, hr, hr'⟩ := Aa5.val c f hs h (hp.2 f hf);rw [Am1.eq, Am1.T, hr];simp only [Option.bind_some, Option.map_some, hr']) (by have := hp.1; omega)
 rw [Ak4.eq, Ak4.T, hcf];refine ⟨_, rfl, ?_⟩;simp [IsIn]
theorem Ak3.val (m : MatV) (p a b : Int) (hm : m.2.2.2.length < 4611686018427387904) : ∃ v, Ak3.F (m, p, a, b, ()) = some ((v, ()), ()) /\ (v = true ↔ MatOk m /\ m.1 = p /\ m.2.1 = b /\ m.2.2.1 = a) := by
 obtain ⟨q, r, cc, xs⟩ := m;obtain ⟨v1, h1, h1'⟩ := Aj9.val (q, r, cc, xs) hm;rw [Ak3.eq, Ak3.T, h1];simp only [Option.bind_some];cases v1 with
 | false => exact ⟨false, by rw [if_neg (by simp)], by simp only [Bool.false_eq_true, false_iff]; exact fun hh => absurd (h1'.2 hh.1) (by simp)⟩
 | true =>
   have hmat := h1'.1 rfl;rw [if_pos rfl];by_cases e1 : q = p
   . rw [if_pos (by simp only [beq_iff_eq]; exact e1)];by_cases e2 : r = b
     . rw [if_pos (by simp only [beq_iff_eq]; exact e2)];exact ⟨_, rfl, by simp only [beq_iff_eq]; exact ⟨fun e3 => ⟨hmat, e1, e2, e3⟩, fun hh => hh.2.2.2⟩⟩
     . exact ⟨false, by rw [if_neg (by simp only [beq_iff_eq]; exact e2)], by simp only [Bool.false_eq_true, false_iff]; exact fun hh => e2 hh.2.2.1⟩
   . exact ⟨false, by rw [if_neg (by simp only [beq_iff_eq]; exact e1)], by simp only [Bool.false_eq_true, false_iff]; exact fun hh => e1 hh.2.1⟩
theorem A1v {c : List (List Int)} : ∀ {n q : Nat}, q < off c n -> ∃ s, s < n /\ ∃ j, j < (fcs c s).length /\ q = off c s + j := by
 intro n;induction n with
 | zero => intro q h; simp [off] at h
 | succ n ih =>
   intro q h;by_cases hq : q < off c n
   . obtain ⟨s, hs, j, hj, e⟩ := ih hq;exact ⟨s, by omega, j, hj, e⟩
   . rw [off] at h;exact ⟨n, by omega, q - off c n, by omega, by omega⟩
theorem Ac8.val (s : ShfV) (hsm : SmSh s) : ∃ v, Ac8.F (s, ()) = some ((v, ()), ()) /\ (v = true ↔ A0A s) := by
 obtain ⟨c, p, st, ms⟩ := s;obtain ⟨hc, hst, hms⟩ := hsm;have hc : SmL c := hc;have hst : st.length ≤ 1048576 := hst;have hms : SmMs ms := hms;unfold A0A;simp only [];obtain ⟨v1, h1, h1'⟩ := Ac7.val c hc;obtain ⟨v2, h2, h2'⟩ := Ad1.val p;obtain ⟨v3, h3, h3'⟩ := Ad4.val c st hc.1 hst;cases v1 with
 | false => exact ⟨false, Ac8.of _ _ _ _ ((Ev.const _).of_eq fun k => by rw [Ac8.T, h1]; rfl), by simp only [Bool.false_eq_true, false_iff]; exact fun hh => absurd (h1'.2 hh.1) (by simp)⟩
 | true =>
 cases v2 with
 | false => exact ⟨false, Ac8.of _ _ _ _ ((Ev.const _).of_eq fun k => by rw [Ac8.T, h1, h2]; rfl), by simp only [Bool.false_eq_true, false_iff]; exact fun hh => absurd (h2'.2 hh.2.1) (by simp)⟩
 | true =>
 cases v3 with
 | false => exact ⟨false, Ac8.of _ _ _ _ ((Ev.const _).of_eq fun k => by rw [Ac8.T, h1, h2, h3]; rfl), by simp only [Bool.false_eq_true, false_iff]; exact fun hh => absurd (h3'.2 hh.2.2.1) (by simp)⟩
 | true =>
 have hcx := h1'.1 rfl;have hstalk := h3'.1 rfl;have hcl := hcx.1;have hoff := A0N hcx (Nat.le_refl c.length);have hal := A0k c c.length;obtain ⟨A, hA⟩ : ∃ A, arr c c.length = A := ⟨_, rfl⟩;rw [hA] at hal;obtain ⟨b, hb, hb'⟩ := Ev.allP (L := fun k q => Ac8.l5 k (A.length : Int) (q : Int) c p st ms A) (a := ()) (b := ()) (n := A.length) (fun q => q < ms.length /\ ∀ i j, i < c.length -> j < (fcs c i).length -> q = off c i + j -> A1Y c p st (ms.getD q (0, 0, 0, [])) i j) ((A.length : Int) == (ms.length : Int)) (fun q hq => by
   obtain ⟨i, hi, j, hj, e⟩ := A1v (show q < off c c.length by omega);have hg := A1L c hi hj;rw [<- e, hA] at hg;obtain ⟨x, hx, hxc⟩ := A0u hcx hi (A0z (0 : Int) hj);have E := fun k => Ac8.l5_eq k (A.length : Int) (q : Int) c p st ms A;simp only [if_pos (ltI.2 hq), if_pos (idxI.2 hq), Int.toNat_natCast, hg, A0y (show q < 4611686018427387904 by omega)] at E;have huniq : ∀ i' j', i' < c.length -> j' < (fcs c i').length -> q = off c i' + j' -> i' = i /\ j' = j := fun i' j' hi' hj' e' => by
     have g2 := A1L c hi' hj';rw [<- e', hA, hg] at g2;simp only [Prod.mk.injEq, Int.ofNat_inj] at g2;exact ⟨g2.1.symm, g2.2.1.symm⟩
   by_cases hqm : q < ms.length
   . have hml : (ms.getD q (0, 0, 0, [])).2.2.2.length < 4611686018427387904 := by
       have : (ms.getD q (0, 0, 0, [])).2.2.2.length ≤ 1048576 := hms.2 _ (A0z _ hqm);omega
     obtain ⟨v, hv, hv'⟩ := Ak3.val (ms.getD q (0, 0, 0, [])) p (st.getD ((fcs c i).getD j 0).toNat 0) (st.getD i 0) hml;have hst2 := hstalk.1;simp only [if_neg (show ¬ decide ((q : Int) ≥ (ms.length : Int)) = true by simp only [decide_eq_true_eq]; omega), if_pos (idxI.2 hqm), if_pos (show 0 ≤ (fcs c i).getD j 0 /\ (fcs c i).getD j 0 < (st.length : Int) by rw [hx]; omega), if_pos (show 0 ≤ (i : Int) /\ (i : Int) < (st.length : Int) by omega), hv, Option.bind_some] at E;cases v with
     | true => exact .inl ⟨⟨hqm, fun i' j' hi' hj' e' => by obtain ⟨rfl, rfl⟩ := huniq i' j' hi' hj' e'; exact hv'.1 rfl⟩, fun k => by rw [E]; rfl⟩
     | false => exact .inr ⟨fun hh => absurd (hv'.2 (hh.2 i j hi hj e)) (by simp), fun k => by rw [E]; rfl⟩
   . exact .inr ⟨fun hh => hqm hh.1, fun k => by rw [E, if_pos (by simp only [decide_eq_true_eq]; omega)]⟩) ((Ev.const _).succ fun k => by rw [Ac8.l5_eq, if_neg (by simp)]) 0 (Nat.zero_le _)
 refine ⟨b, Ac8.of _ _ _ _ (hb.of_eq fun k => ?_), hb'.trans ?_⟩
 . rw [Ac8.T, h1, h2, h3, Ab8.val c hcx, hA]; rfl
 . simp only [beq_iff_eq, Int.ofNat_inj];constructor
   . rintro ⟨e, hall⟩;refine ⟨hcx, h2'.1 rfl, hstalk, by omega, fun i hi j hj => ?_⟩;have := A1i hi hj;exact (hall (off c i + j) (Nat.zero_le _) (by omega)).2 i j hi hj rfl
   . rintro ⟨-, -, -, e, hall⟩;exact ⟨by omega, fun q _ hq => ⟨by omega, fun i j hi hj e' => e' ▸ hall i hi j hj⟩⟩
theorem Ae2.val (s : ShfV) (h : A0A s) {k i j : Nat} (hk : k < s.1.length) (h3 : 2 < (s.1.getD k []).length) (hi : i < (s.1.getD k []).length) (hj : j < (s.1.getD k []).length) (hij : i ≠ j) :
   Ae2.F (s, (k : Int), (i : Int), (j : Int), ()) = some ((mulM (A0C s k i) (A0C s (fc s.1 k i) (if i < j then j - 1 else j)), ()), ()) := by
 have hT : Ae2.F (s, (k : Int), (i : Int), (j : Int), ()) = Ae2.T s.1 s.2.1 s.2.2.1 s.2.2.2 (k : Int) (i : Int) (j : Int) := Ae2.eq _ _ _ _ _ _ _;have h4 := (h.1.2 k hk).1.1.2;have hcl := h.1.1;rw [hT, Ae2.T, Ab3.val s.1 h.1 k hk];simp only [Option.bind_some];by_cases hlt : i < j
 . obtain ⟨f, F⟩ := A2C h hk h3 hi (show j - 1 + 1 < _ by omega);have g1 : Ac2.F ((s.1, (s.2.1, (s.2.2.1, s.2.2.2))), (k : Int), (i : Int), ()) = _ := Ac2.val s h k i hk F.ilt;have g2 : Ac2.F ((s.1, (s.2.1, (s.2.2.1, s.2.2.2))), (f : Int), ((j - 1 : Nat) : Int), ()) = _ := Ac2.val s h f (j - 1) F.lt F.jlt;rw [if_pos (idxI.2 F.ilt), if_pos (by simp only [decide_eq_true_eq]; omega), g1, A2z (by omega) (by omega)];simp only [Option.bind_some, Int.toNat_natCast, F.at_, g2, F.tim];rw [if_pos hlt, F.fc_]
 . obtain ⟨f, F⟩ := A2C h hk h3 hi (show j + 1 < _ by omega);have g1 : Ac2.F ((s.1, (s.2.1, (s.2.2.1, s.2.2.2))), (k : Int), (i : Int), ()) = _ := Ac2.val s h k i hk F.ilt;have g2 : Ac2.F ((s.1, (s.2.1, (s.2.2.1, s.2.2.2))), (f : Int), (j : Int), ()) = _ := Ac2.val s h f j F.lt F.jlt;rw [if_pos (idxI.2 F.ilt), if_neg (by simp only [decide_eq_true_eq]; omega), g1];simp only [Option.bind_some, Int.toNat_natCast, F.at_, g2, F.tim];rw [if_neg hlt, F.fc_]
theorem Aa7.val (s : ShfV) (h : A0A s) : Aa7.F (s, ()) = some ((match A0g s with | none => (-1, 0, 0, ()) | some (k, i, j) => ((k : Int), (i : Int), (j : Int), ())), ()) := by
 have hcl := h.1.1;have hT : ∀ r, Ev (fun k => Aa7.T k s.1 s.2.1 s.2.2.1 s.2.2.2) r -> Aa7.F (s, ()) = some r := fun r hr => Aa7.of _ _ _ _ hr;have main := Goes.find (R := ((Int × Int × Int × Unit) × Unit)) (L := fun n k => Aa7.l2 n s.1 s.2.1 s.2.2.1 s.2.2.2 (k : Int)) (M := fun _ => some ((-1, 0, 0, ()), ())) (n := s.1.length) 0 (A0f s) (fun t : Nat × Nat × Nat => (((t.1 : Int), (t.2.1 : Int), (t.2.2 : Int), ()), ())) (fun k _ hk => by
   obtain ⟨t, ht⟩ : ∃ t, s.1.getD k [] = t := ⟨_, rfl⟩;have h4 := (h.1.2 k hk).1.1;rw [ht] at h4;have e0 : Goes (fun n => Aa7.l2 n s.1 s.2.1 s.2.2.1 s.2.2.2 (k : Int)) (fun n => Aa7.l6 n s.1 s.2.1 s.2.2.1 s.2.2.2 (k : Int) (t.length : Int) ((0 : Nat) : Int)) := Goes.succ fun n => by rw [Aa7.l2_eq, if_pos (ltI.2 hk), if_pos (idxI.2 hk)]; simp only [Int.toNat_natCast, ht]; rfl
   by_cases h3 : t.length < 3
   . exact .inl ⟨by rw [A0f, ht, if_pos h3], e0.trans (Goes.succ fun n => by rw [Aa7.l6_eq, if_pos (by simp only [decide_eq_true_eq]; omega), if_neg (by simp only [decide_eq_true_eq]; omega), A0y (by omega)])⟩
   have hw : A0f s k = (List.range' 0 (t.length - 0)).findSome? (A1X s k t.length) := by rw [A0f, ht, if_neg h3]
   rw [hw];have inner := Goes.find (R := ((Int × Int × Int × Unit) × Unit)) (L := fun n i => Aa7.l6 n s.1 s.2.1 s.2.2.1 s.2.2.2 (k : Int) (t.length : Int) (i : Int)) (M := fun n => Aa7.l2 n s.1 s.2.1 s.2.2.1 s.2.2.2 ((k + 1 : Nat) : Int)) (n := t.length) 0 (A1X s k t.length) (fun t : Nat × Nat × Nat => (((t.1 : Int), (t.2.1 : Int), (t.2.2 : Int), ()), ())) (fun i _ hi => by
     have e1 : Goes (fun n => Aa7.l6 n s.1 s.2.1 s.2.2.1 s.2.2.2 (k : Int) (t.length : Int) (i : Int)) (fun n => Aa7.l9 n s.1 s.2.1 s.2.2.1 s.2.2.2 (k : Int) (t.length : Int) (i : Int) ((i + 1 : Nat) : Int)) := Goes.succ fun n => by rw [Aa7.l6_eq, if_pos (ltI.2 hi), if_pos (by simp only [decide_eq_true_eq]; omega), A0y (by omega)]
     have deep := Goes.find (R := ((Int × Int × Int × Unit) × Unit)) (L := fun n j => Aa7.l9 n s.1 s.2.1 s.2.2.1 s.2.2.2 (k : Int) (t.length : Int) (i : Int) (j : Int)) (M := fun n => Aa7.l6 n s.1 s.2.1 s.2.2.1 s.2.2.2 (k : Int) (t.length : Int) ((i + 1 : Nat) : Int)) (n := t.length) (i + 1) (A1k s k i) (fun t : Nat × Nat × Nat => (((t.1 : Int), (t.2.1 : Int), (t.2.2 : Int), ()), ())) (fun j hij hj => by
       have A := Ae2.val s h hk (by rw [ht]; omega) (show i < _ by rw [ht]; omega) (show j < _ by rw [ht]; omega) (by omega);have B := Ae2.val s h hk (by rw [ht]; omega) (show j < _ by rw [ht]; omega) (show i < _ by rw [ht]; omega) (by omega);rw [if_pos (by omega)] at A;rw [if_neg (by omega)] at B;have A : Ae2.F ((s.1, (s.2.1, (s.2.2.1, s.2.2.2))), (k : Int), (i : Int), (j : Int), ()) = some ((sqA s k i j, ()), ()) := A;have B : Ae2.F ((s.1, (s.2.1, (s.2.2.1, s.2.2.2))), (k : Int), (j : Int), (i : Int), ()) = some ((sqB s k i j, ()), ()) := B;obtain ⟨f, F⟩ := A2C h hk (by rw [ht]; omega) (show i < _ by rw [ht]; omega) (show j - 1 + 1 < _ by rw [ht]; omega);have hA : sqA s k i j = mulM (A0C s k i) (A0C s f (j - 1)) := by rw [sqA, F.fc_]
       obtain ⟨b, hb, hb'⟩ := Ac5.same (sqA s k i j) (sqB s k i j) (by rw [hA]; exact F.ok.small);have E2 := fun n => Aa7.l9_eq n s.1 s.2.1 s.2.2.1 s.2.2.2 (k : Int) (t.length : Int) (i : Int) (j : Int);simp only [if_pos (ltI.2 hj), A, B, Option.bind_some, hb, A0y (show j < 4611686018427387904 by omega)] at E2;cases b with
       | true => exact .inl ⟨by rw [A1k, if_pos (hb'.1 rfl)], Goes.succ fun n => by rw [E2, if_neg (by simp)]⟩
       | false => exact .inr ⟨(k, i, j), by rw [A1k, if_neg (fun e => absurd (hb'.2 e) (by simp))], (Ev.const _).succ fun n => by rw [E2, if_pos (by simp)]⟩) (Goes.succ fun n => by rw [Aa7.l9_eq, if_neg (by simp), A0y (by omega)]) (i + 1) (Nat.le_refl _) (by omega)
     rcases deep with ⟨d1, d2⟩ | ⟨r, d1, d2⟩
     . exact .inl ⟨d1, e1.trans d2⟩
     . exact .inr ⟨r, d1, e1 _ d2⟩) (Goes.succ fun n => by rw [Aa7.l6_eq, if_neg (by simp), A0y (by omega)]) 0 (Nat.le_refl _) (Nat.zero_le _)
   rcases inner with ⟨d1, d2⟩ | ⟨r, d1, d2⟩
   . exact .inl ⟨d1, e0.trans d2⟩
   . exact .inr ⟨r, d1, e0 _ d2⟩) (Goes.succ fun n => by rw [Aa7.l2_eq, if_neg (by simp)]) 0 (Nat.le_refl _) (Nat.zero_le _)
 rcases main with ⟨d1, d2⟩ | ⟨⟨k, i, j⟩, d1, d2⟩
 . rw [A0g, d1];exact hT _ ((d2 _ (Ev.const _)).of_eq fun n => rfl)
 . rw [A0g, d1];exact hT _ (d2.of_eq fun n => rfl)
def A1P (s : ShfV) : Prop := A0A s /\ A0g s = none
theorem Ag7.val (s : ShfV) (hs : SmSh s) : ∃ v, Ag7.F (s, ()) = some ((v, ()), ()) /\ (v = true ↔ A1P s) := by
 have hT : Ag7.F (s, ()) = Ag7.T s.1 s.2.1 s.2.2.1 s.2.2.2 := Ag7.eq _ _ _ _;obtain ⟨v, hv, hv'⟩ := Ac8.val s hs;have hv : Ac8.F ((s.1, (s.2.1, (s.2.2.1, s.2.2.2))), ()) = _ := hv;rw [hT, Ag7.T, hv];simp only [Option.bind_some];cases v with
 | false => exact ⟨false, by rw [if_pos (by simp)], by simp only [Bool.false_eq_true, false_iff]; exact fun h => absurd (hv'.2 h.1) (by simp)⟩
 | true =>
   have hok := hv'.1 rfl;have hw : Aa8.F ((s.1, (s.2.1, (s.2.2.1, s.2.2.2))), ()) = _ := Aa8.val s hok;rw [if_neg (by simp), hw];simp only [Option.bind_some];cases hwt : A0g s with
   | none => exact ⟨true, rfl, by simp [A1P, hok, hwt]⟩
   | some t => obtain ⟨k, i, j⟩ := t; exact ⟨false, rfl, by simp [A1P, hwt]⟩
theorem Ah4.val (s : ShfV) (hs : SmSh s) : ∃ v, Ah4.F (s, ()) = some ((v, ()), ()) /\ (v = true ↔ A1P s) := by
 have hT : Ah4.F (s, ()) = Ah4.T s.1 s.2.1 s.2.2.1 s.2.2.2 := Ah4.eq _ _ _ _;obtain ⟨v, hv, hv'⟩ := Aa3.val s hs;have hv : Aa3.F ((s.1, (s.2.1, (s.2.2.1, s.2.2.2))), ()) = _ := hv;rw [hT, Ah4.T, hv];simp only [Option.bind_some];cases v with
 | false => exact ⟨false, by rw [if_pos (by simp)], by simp only [Bool.false_eq_true, false_iff]; exact fun h => absurd (hv'.2 h.1) (by simp)⟩
 | true =>
   have hok := hv'.1 rfl;have hw : Aa7.F ((s.1, (s.2.1, (s.2.2.1, s.2.2.2))), ()) = _ := Aa7.val s hok;rw [if_neg (by simp), hw];simp only [Option.bind_some];cases hwt : A0g s with
   | none => exact ⟨true, rfl, by simp [A1P, hok, hwt]⟩
   | some t => obtain ⟨k, i, j⟩ := t; exact ⟨false, by simp, by simp [A1P, hwt]⟩
def A0j (s : ShfV) (q : List Int -> Bool) : List Int := (List.range s.1.length).map fun k => if q (s.1.getD k []) = true then s.2.2.1.getD k 0 else 0
theorem A2q {m : MatV} (h : MatOk m) : m.2.2.2.length ≤ 1024 := by
 have h1 := A2L h.2.1 h.2.2.1;have := h.2.2.2.1;omega
theorem A0L (s : ShfV) (q : List Int -> Bool) : (A0j s q).length = s.1.length := by simp [A0j]
theorem A1x (s : ShfV) (q : List Int -> Bool) {k : Nat} (hk : k < s.1.length) : (A0j s q).getD k 0 = if q (s.1.getD k []) = true then s.2.2.1.getD k 0 else 0 := A1C _ 0 hk
def A0a (s : ShfV) (q : List Int -> Bool) (e : A0Y) : MatV := if q (s.1.getD e.2.2.toNat []) = true /\ q (s.1.getD e.1.toNat []) = true then A0C s e.1.toNat e.2.1.toNat else newM s.2.1 (A0j s q) e
def A2K (s : ShfV) (q : List Int -> Bool) : ShfV := (s.1, s.2.1, A0j s q, A0E s.1 (A0a s q))
theorem A1T {s : ShfV} (h : A0A s) (q : List Int -> Bool) : A0R 0 3 (A0j s q) := by
 refine allIn_iff.2 fun k hk => ?_;rw [A0L] at hk;rw [A1x s q hk];have h1 := A1q h.2.2.1.2.1 k;split <;> omega
theorem A1n {A : Type} {xs : List A} {i : Nat} {d x : A} (h : xs.getD i d = x) (hi : i < xs.length) : xs.set i x = xs := by
 rw [<- h, A0x hi]; exact List.set_getElem_self hi
theorem A2F {c : List (List Int)} {e : A0Y} (h : e ∈ arr c c.length) : ∃ i j : Nat, i < c.length /\ j < (fcs c i).length /\ e = ((i : Int), (j : Int), (fcs c i).getD j 0) := by
 simp only [arr, List.mem_flatMap, List.mem_range, A1p, List.mem_map] at h;obtain ⟨s, hs, j, hj, rfl⟩ := h;exact ⟨s, j, hs, hj, rfl⟩
theorem Ae6.val {s : ShfV} (h : A0A s) {f : List Int × Unit -> Option (Bool × Unit)} {q : List Int -> Bool} (hf : ∀ t ∈ s.1, f (t, ()) = some (q t, ())) {e : A0Y} (he : e ∈ arr s.1 s.1.length) :
   Ae6.cloG (f, s, A0j s q, ()) (e, ()) = some (A0a s q e, ()) /\ (A0a s q e).2.2.2.length ≤ 1048576 := by
 obtain ⟨i, j, hi, hj, rfl⟩ := A2F he;obtain ⟨g, hg, hg'⟩ := A0u h.1 hi (A0z 0 hj);have hst := A1T h q;obtain ⟨z1, z1'⟩ := A1q hst i;obtain ⟨z2, z2'⟩ := A1q hst g;have hl := A0L s q;rw [hg];have hT : Ae6.F (((i : Int), (j : Int), (g : Int)), f, s, A0j s q, ()) = Ae6.T (i : Int) (j : Int) (g : Int) f s.1 s.2.1 s.2.2.1 s.2.2.2 (A0j s q) := Ae6.eq _ _ _ _ _ _ _ _ _;have z := Aj0.val s.2.1 ((A0j s q).getD i 0).toNat ((A0j s q).getD g 0).toNat (by omega) (by omega);rw [z1, z2] at z;have d1 : Ab4.F ((s.1, (s.2.1, (s.2.2.1, s.2.2.2))), (i : Int), (j : Int), ()) = _ := Ab4.val s h i j hi hj;have znew : A2Q s.2.1 ((A0j s q).getD i 0).toNat ((A0j s q).getD g 0).toNat = newM s.2.1 (A0j s q) ((i : Int), (j : Int), (g : Int)) := by
   simp only [newM, A2Q, Int.toNat_natCast, z1, z2]
 constructor
 . show (Ae6.F (((i : Int), (j : Int), (g : Int)), f, s, A0j s q, ())).map (·.1) = _;rw [hT, Ae6.T, if_pos (idxI.2 hg')];simp only [Int.toNat_natCast, hf _ (A0z [] hg'), Option.bind_some, hf _ (A0z [] hi)];by_cases q1 : q (s.1.getD g []) = true
   . rw [if_pos q1, if_pos (idxI.2 hi)];by_cases q2 : q (s.1.getD i []) = true
     . rw [if_pos q2, d1];simp only [Option.bind_some, Option.map_some, A0a, Int.toNat_natCast];rw [if_pos ⟨q1, q2⟩]
     . rw [if_neg q2, if_pos (idxI.2 (by omega)), if_pos (idxI.2 (by omega)), z];simp only [Option.bind_some, Option.map_some, A0a, Int.toNat_natCast];rw [if_neg (fun hh => q2 hh.2), znew]
   . rw [if_neg q1, if_pos (idxI.2 (by omega)), if_pos (idxI.2 (by omega)), z];simp only [Option.bind_some, Option.map_some, A0a, Int.toNat_natCast];rw [if_neg (fun hh => q1 hh.1), znew]
 . unfold A0a;simp only [Int.toNat_natCast];split
   . obtain ⟨m1, m2, m3, m4⟩ := h.2.2.2.2 i hi j hj;have m1 : MatOk (A0C s i j) := m1;have := A2q m1; omega
   . simp only [newM, List.length_replicate, Int.toNat_natCast];have : ((A0j s q).getD i 0).toNat * ((A0j s q).getD g 0).toNat ≤ 3 * 3 := Nat.mul_le_mul z1' z2';omega
theorem Af8.val {s : ShfV} (h : A0A s) {f : List Int × Unit -> Option (Bool × Unit)} {q : List Int -> Bool} (hf : ∀ t ∈ s.1, f (t, ()) = some (q t, ())) : Af8.F (s, f, ()) = some ((A2K s q, ()), ()) := by
 have hn := h.1.1;have hl : s.2.2.1.length = s.1.length := h.2.2.1.1;refine Af8.of s.1 s.2.1 s.2.2.1 s.2.2.2 f ?_;have hp := Goes.fillG (R := ((ShfV × Unit) × Unit)) (fun k i (x : List Int) => Af8.l3 k f s.1 (s.1.length : Int) (i : Int) s.1 s.2.1 s.2.2.1 s.2.2.2 [] 0 [] [] x) s.1.length 0 s.2.2.1 hl (fun k => if q (s.1.getD k []) = true then s.2.2.1.getD k 0 else 0) (fun i x hi hx he => Goes.succ fun k => by
   rw [Af8.l3_eq, if_pos (ltI.2 hi), if_pos (idxI.2 hi)];simp only [Int.toNat_natCast, hf _ (A0z [] hi), Option.bind_some];by_cases hq : q (s.1.getD i []) = true
   . rw [if_neg (by rw [hq]; simp), if_pos hq, A1n he (by omega), A0y (by omega)]
   . rw [if_pos (by rw [Bool.eq_false_iff.2 hq]; rfl), if_neg hq, if_pos (idxI.2 (by omega)), A0y (by omega)])
 have hso := Af9.val s.1 s.2.1 (A0j s q) (Ae6.cloG (f, s, A0j s q, ())) (A0a s q) h.1 (by rw [A0L]; omega) (fun e he => Ae6.val h hf he);refine Ev.of_eq (hp _ ((Ev.const _).succ fun k => ?_)) fun k => ?_
 . rw [Af8.l3_eq, if_neg (by simp)];have hso : Af9.F (s.1, s.2.1, (List.range s.1.length).map (fun k => if q (s.1.getD k []) = true then s.2.2.1.getD k 0 else 0), Ae6.cloG (f, (s.1, (s.2.1, (s.2.2.1, s.2.2.2))), (List.range s.1.length).map (fun k => if q (s.1.getD k []) = true then s.2.2.1.getD k 0 else 0), ()), ()) = _ := hso;rw [hso]; rfl
 . rw [Af8.T, Aa6.val _ (by omega)]; rfl
theorem mask_at {s : ShfV} (h : A0A s) (q : List Int -> Bool) {a : Nat} (ha : a < off s.1 s.1.length) :
   (if (((A0E s.1 (newM s.2.1 (A0j s q))).getD a (0, 0, 0, [])).2.2.2.length : Int) > 0 then (((A0E s.1 (newM s.2.1 (A0j s q))).getD a (0, 0, 0, [])).1, ((A0E s.1 (newM s.2.1 (A0j s q))).getD a (0, 0, 0, [])).2.1, ((A0E s.1 (newM s.2.1 (A0j s q))).getD a (0, 0, 0, [])).2.2.1, (s.2.2.2.getD a (0, 0, 0, [])).2.2.2) else (A0E s.1 (newM s.2.1 (A0j s q))).getD a (0, 0, 0, [])) = (A0E s.1 (A0a s q)).getD a (0, 0, 0, []) := by
 obtain ⟨i, hi, j, hj, rfl⟩ := A1v ha;obtain ⟨m1, m2, m3, m4⟩ := h.2.2.2.2 i hi j hj;obtain ⟨g, hg, hg'⟩ := A0u h.1 hi (A0z 0 hj);have e1 : ∀ G : A0Y -> MatV, (A0E s.1 G).getD (off s.1 i + j) (0, 0, 0, []) = G ((i : Int), (j : Int), (g : Int)) := fun G => by
   rw [A0n, A1C _ _ (by rw [A0k]; exact ha), A1L s.1 hi hj, hg]
 rw [e1, e1];obtain ⟨m, hm⟩ : ∃ m, s.2.2.2.getD (off s.1 i + j) (0, 0, 0, []) = m := ⟨_, rfl⟩;have hmap : A0C s i j = m := hm;rw [hm] at m1 m2 m3 m4 ⊢;rw [hg, Int.toNat_natCast] at m4;have hlen := m1.2.2.2.1;have s1 := A1q h.2.2.1.2.1 i;have s2 := A1q h.2.2.1.2.1 g;simp only [A0a, newM, Int.toNat_natCast, List.length_replicate, A1x s q hi, A1x s q hg', hmap];have hle : ((s.2.2.1.getD i 0).toNat * (s.2.2.1.getD g 0).toNat : Nat) = m.2.2.2.length := by
   have : ((m.2.2.2.length : Nat) : Int) = (((s.2.2.1.getD i 0).toNat * (s.2.2.1.getD g 0).toNat : Nat) : Int) := by
     rw [hlen, m3, m4, Int.natCast_mul, s1.1, s2.1]
   omega
 by_cases q1 : q (s.1.getD g []) = true
 . by_cases q2 : q (s.1.getD i []) = true
   . simp only [if_pos q1, if_pos q2, if_pos (And.intro q1 q2)];by_cases hz : (((s.2.2.1.getD i 0).toNat * (s.2.2.1.getD g 0).toNat : Nat) : Int) > 0
     . rw [if_pos hz, <- m2, <- m3, <- m4]
     . rw [if_neg hz, <- m2, <- m3, <- m4];have hz2 : m.2.2.2 = [] := List.eq_nil_of_length_eq_zero (by omega);have hz3 : m.2.1.toNat * m.2.2.1.toNat = 0 := by rw [m3, m4]; omega
       rw [hz3, List.replicate_zero, <- hz2]
   . have hn : ¬ (q (s.1.getD g []) = true /\ q (s.1.getD i []) = true) := fun hh => q2 hh.2;simp only [if_neg q2, if_neg hn];simp
 . have hn : ¬ (q (s.1.getD g []) = true /\ q (s.1.getD i []) = true) := fun hh => q1 hh.1;simp only [if_neg q1, if_neg hn];simp
theorem Ad7.val {s : ShfV} (h : A0A s) (p : List (List Int)) (hp : SmL p) (b : Bool) : Ad7.F (s, p, b, ()) = some ((A2K s (fun t => decide (t ∈ p) == b), ()), ()) := by
 have hn := h.1.1;have hl : s.2.2.1.length = s.1.length := h.2.2.1.1;have hN := h.2.2.2.1;have hoN := A0N h.1 (Nat.le_refl s.1.length);refine Ad7.of s.1 s.2.1 s.2.2.1 s.2.2.2 p b ?_;generalize hq : (fun t : List Int => decide (t ∈ p) == b) = q;have hqa : ∀ t, q t = (decide (t ∈ p) == b) := fun t => by rw [<- hq]
 have hpu := Goes.push (R := ((ShfV × Unit) × Unit)) (fun k i (x : List Int) => Ad7.l3 k s.1 s.2.1 s.2.2.1 s.2.2.2 p b (i : Int) [] 0 [] [] x) s.1.length (fun k => if q (s.1.getD k []) = true then s.2.2.1.getD k 0 else 0) (fun i x hi hx => Goes.succ fun k => by
   obtain ⟨r, hr, hr'⟩ := Aa0.val p (s.1.getD i []) hp;rw [Ad7.l3_eq, if_pos (ltI.2 (by omega)), if_pos (idxI.2 hi)];simp only [Int.toNat_natCast, hr, Option.bind_some];have e : (decide (r ≥ 0) == b) = q (s.1.getD i []) := by
     rw [hqa];congr 1;rw [decide_eq_decide];constructor
     . intro hh; exact Classical.byContradiction fun hm => by have := hr'.2 hm; omega
     . intro hh; exact Classical.byContradiction fun hm => hr'.1 (by omega) hh
   rw [e];by_cases hqt : q (s.1.getD i []) = true
   . rw [if_pos hqt, if_pos hqt, if_pos (idxI.2 (by omega)), if_pos (A1d hx (by omega)), A0y (by omega)]
   . rw [if_neg hqt, if_neg hqt, if_pos (A1d hx (by omega)), A0y (by omega)])
 have hnew := Ae1.val s.1 s.2.1 (A0j s q) h.1 (A0L s q) (A1T h q);have hml := A0J s.1 (newM s.2.1 (A0j s q));have hfi := Goes.fillG (R := ((ShfV × Unit) × Unit)) (fun k i (x : List MatV) => Ad7.l10 k s.1 s.2.1 s.2.2.1 s.2.2.2 (i : Int) [] 0 [] [] s.1 s.2.1 (A0j s q) x) (off s.1 s.1.length) (0, 0, 0, []) (A0E s.1 (newM s.2.1 (A0j s q))) hml (fun a => (A0E s.1 (A0a s q)).getD a (0, 0, 0, [])) (fun i x hi hx he => Goes.succ fun k => by
   have hat := mask_at h q hi;rw [<- he] at hat;rw [Ad7.l10_eq, if_pos (ltI.2 (by omega)), if_pos (idxI.2 (by omega))];simp only [Int.toNat_natCast];have hsm : (s.2.2.2.getD i (0, 0, 0, [])).2.2.2.length ≤ 1048576 := by
     obtain ⟨i', hi', j', hj', rfl⟩ := A1v hi;obtain ⟨m1, _⟩ := h.2.2.2.2 i' hi' j' hj';have := A2q m1; omega
   by_cases hz : (((x.getD i (0, 0, 0, [])).2.2.2.length : Nat) : Int) > 0
   . rw [if_pos hz] at hat;rw [if_pos (by simpa using hz), if_pos (idxI.2 (by omega)), Ab0.val _ hsm];simp only [Option.bind_some];rw [if_pos (idxI.2 (by omega)), A0y (by omega), <- hat]
   . rw [if_neg hz] at hat;rw [if_neg (by simpa using hz), A0y (by omega), A1n hat (by omega)])
 have hend : (List.range (off s.1 s.1.length)).map (fun a => (A0E s.1 (A0a s q)).getD a (0, 0, 0, [])) = A0E s.1 (A0a s q) := by
   refine List.ext_getElem (by simp [A0J]) fun a h1 h2 => ?_;simp only [List.getElem_map, List.getElem_range];exact A0x h2
 rw [hend] at hfi;refine Ev.of_eq (hpu _ (Ev.succ (M := fun k => Ad7.l3 k s.1 s.2.1 s.2.2.1 s.2.2.2 p b (s.1.length : Int) [] 0 [] [] (A0j s q)) (hfi _ ((Ev.const _).succ fun k => ?_)) fun k => ?_)) fun k => rfl
 . rw [Ad7.l10_eq, if_neg (by rw [A0J]; simp)]; rfl
 . rw [Ad7.l3_eq, if_neg (by simp; omega), hnew]; rfl
theorem Ab6.val (xs : List Int) (h : xs.length ≤ 1099511627776) : Ab6.F (xs, ()) = some ((xs, ()), ()) := by
 refine Ab6.of xs ?_;have := Goes.fill (L := fun k i ys => Ab6.l3 k xs (i : Int) ys) xs 0 (fun k i ys hi hy => by
   rw [Ab6.l3_eq, if_pos (ltI.2 hi), if_pos (idxI.2 hi), if_pos (by omega), A0y (by omega)];simp only [Int.toNat_natCast]) (List.replicate xs.length 0) (by simp)
 refine Ev.of_eq (this _ ((Ev.const _).succ fun k => ?_)) fun k => ?_
 . rw [Ab6.l3_eq, if_neg (by simp)]
 . rw [Ab6.T, if_pos (by simp only [bigN]; omega)]; rfl
theorem Ab2.val (xs ys : List Int) (hn : xs.length < 4611686018427387904) : ∃ b, Ab2.F (xs, ys, ()) = some ((b, ()), ()) /\ (b = true ↔ xs = ys) := by
 by_cases hl : xs.length = ys.length
 . obtain ⟨b, hb, hb'⟩ := Ev.all (L := fun k i => Ab2.l4 k xs ys (i : Int)) (a := ()) (b := ()) (n := xs.length) (fun i => xs.getD i 0 == ys.getD i 0) (fun k i hi => by
     rw [Ab2.l4_eq, if_pos (ltI.2 hi), if_pos (idxI.2 hi), if_pos (by omega), A0y (by omega)];simp only [Int.toNat_natCast];exact ite_nb _ _ _) (fun k => by rw [Ab2.l4_eq, if_neg (by simp)]) 0 (Nat.zero_le _)
   refine ⟨b, Ab2.of _ _ (hb.of_eq fun k => ?_), by rw [hb', all_eq hl (fun x y => x == y) (by simp)]⟩;rw [Ab2.T, if_neg (by simp [hl])];rfl
 . refine ⟨false, Ab2.of _ _ ((Ev.const _).of_eq fun k => ?_), by simp; intro e; exact hl (by rw [e])⟩;rw [Ab2.T, if_pos (by simp; omega)]
theorem Ac9.val (xs : List Int) (l : Int) (h0 : 0 ≤ l) (h1 : l ≤ 1048576) (hx : xs.length ≤ maxLen) : ∃ r, Ac9.F (xs, l, ()) = some ((r, ()), ()) /\ (r = -1 ∨ 0 ≤ r /\ r ≤ l /\ Sm xs) := by
 have : xs.length ≤ 9223372036854775807 := hx;rw [Ac9.eq, Ac9.T, A0q (by omega) (by omega)];by_cases h : l < xs.length
 . exact ⟨-1, by rw [if_pos (by simp; omega)], .inl rfl⟩
 . exact ⟨_, by rw [if_neg (by simp; omega)], .inr ⟨by omega, by omega, by unfold Sm; omega⟩⟩
theorem Af1.val (xs : List (List Int)) (l : Int) (h0 : 0 ≤ l) (h1 : l ≤ 1048576) (hx : xs.length ≤ maxLen) (hr : ∀ x ∈ xs, x.length ≤ maxLen) : ∃ r, Af1.F (xs, l, ()) = some ((r, ()), ()) /\ (r = -1 ∨ 0 ≤ r /\ r ≤ l /\ SmL xs) := by
 have : xs.length ≤ 9223372036854775807 := hx;by_cases h : l < xs.length
 . exact ⟨-1, Af1.of _ _ ((Ev.const _).of_eq fun k => by rw [Af1.T, A0q (by omega) (by omega), if_pos (by simp; omega)]), .inl rfl⟩
 obtain ⟨r, hv, h2⟩ := A2D (fun k i s => Af1.l5 k xs s (i : Int)) xs [] Sm (fun i s hi s0 s1 => by
   have E := fun k => Af1.l5_eq k xs s (i : Int);obtain ⟨r, hr1, hr2⟩ := Ac9.val (xs.getD i []) s s0 s1 (hr _ (A0z _ hi));simp only [if_pos (ltI.2 hi), if_pos (idxI.2 hi), Int.toNat_natCast, hr1, Option.bind_some, A0y (show i < 4611686018427387904 by omega)] at E;rcases hr2 with rfl | ⟨a, b, c⟩
   . exact .inr fun k => by rw [E, if_pos (by simp)]
   . exact .inl ⟨r, a, b, c, fun k => by rw [E, if_neg (by simp; omega)]⟩) (fun k l => by rw [Af1.l5_eq, if_neg (by simp)]) (l - xs.length) (by omega) (by omega)
 refine ⟨r, Af1.of _ _ (hv.of_eq fun k => by rw [Af1.T, A0q (by omega) (by omega), if_neg (by simp; omega)]; rfl), ?_⟩;rcases h2 with h2 | ⟨a, b, c⟩
 . exact .inl h2
 . exact .inr ⟨a, by omega, by omega, c⟩
theorem Af0.val (xs : List (List Int)) (l : Int) (h0 : 0 ≤ l) (h1 : l ≤ 1048576) (hx : xs.length ≤ maxLen) (hr : ∀ x ∈ xs, x.length ≤ maxLen) : ∃ r, Af0.F (xs, l, ()) = some ((r, ()), ()) /\ (r = -1 ∨ 0 ≤ r /\ r ≤ l /\ SmL xs) := by
 obtain ⟨r, h2, h3⟩ := Af1.val xs l h0 h1 hx hr;rw [Af0.eq, Af0.T, h2];simp only [Option.bind_some];rcases h3 with rfl | ⟨a, b, c⟩
 . exact ⟨-1, by rw [if_pos (by simp)], .inl rfl⟩
 . exact ⟨r, by rw [if_neg (by simp; omega)], .inr ⟨a, b, c⟩⟩
theorem Ah1.val (xs : List (List Int)) (h : SmL xs) : Ah1.F (xs, ()) = some ((xs, ()), ()) := by
 have hl := h.1;refine Ah1.of xs ?_;have := Goes.fill (L := fun k i ys => Ah1.l3 k xs (i : Int) ys) xs [] (fun k i ys hi hy => by
   have hs : (xs.getD i []).length ≤ 1048576 := h.2 _ (A0z _ hi);rw [Ah1.l3_eq, if_pos (ltI.2 hi), if_pos (idxI.2 hi)];simp only [Int.toNat_natCast, Ab6.val (xs.getD i []) (by omega), Option.bind_some];rw [if_pos (by omega), A0y (by omega)]) (List.replicate xs.length []) (by simp)
 refine Ev.of_eq (this _ ((Ev.const _).succ fun k => ?_)) fun k => ?_
 . rw [Ah1.l3_eq, if_neg (by simp)]
 . rw [Ah1.T, if_pos (by simp only [bigN]; omega)]; rfl
theorem Ad3.val (xs : List (List Int)) (h : SmL xs) : Ad3.F (xs, ()) = some ((xs, ()), ()) := by
 rw [Ad3.eq, Ad3.T, Ah1.val xs h]; rfl
theorem Ae8.same (xs ys : List (List Int)) (h : SmL xs) : ∃ b, Ae8.F (xs, ys, ()) = some ((b, ()), ()) /\ (b = true ↔ xs = ys) := by
 have hn := h.1;by_cases hl : xs.length = ys.length
 . obtain ⟨b, hb, hb'⟩ := A0U (fun k i => Ae8.l4 k xs ys (i : Int)) xs ys [] hl (fun i hi => by
     have hs : (xs.getD i []).length ≤ 1048576 := h.2 _ (A0z _ hi);obtain ⟨c, hc, hc'⟩ := Ab2.val (xs.getD i []) (ys.getD i []) (by omega);exact ⟨c, hc', fun k => by rw [Ae8.l4_eq, if_pos (ltI.2 hi), if_pos (idxI.2 hi), if_pos (idx2 (hl ▸ hi))]; simp only [Int.toNat_natCast, hc, Option.bind_some]; rw [A0y (by omega)]⟩) (fun k => by rw [Ae8.l4_eq, if_neg (by simp)])
   exact ⟨b, Ae8.of _ _ (hb.of_eq fun k => by rw [Ae8.T, if_neg (by simp [hl])]; rfl), hb'⟩
 . exact ⟨false, Ae8.of _ _ ((Ev.const _).of_eq fun k => by rw [Ae8.T, if_pos (by simp; omega)]), by simp; intro e; exact hl (by rw [e])⟩
theorem Ae7.same (xs ys : List (List Int)) (h : SmL xs) : ∃ b, Ae7.F (xs, ys, ()) = some ((b, ()), ()) /\ (b = true ↔ xs = ys) := by
 obtain ⟨b, hb, hb'⟩ := Ae8.same xs ys h;rw [Ae7.eq, Ae7.T, hb];exact ⟨b, by cases b <;> rfl, hb'⟩
theorem Ak8.val (m : MatV) (l : Int) (h0 : 0 ≤ l) (h1 : l ≤ 1048576) (hx : m.2.2.2.length ≤ maxLen) : ∃ r, Ak8.F (m, l, ()) = some ((r, ()), ()) /\ (r = -1 ∨ 0 ≤ r /\ r ≤ l /\ SmM m) := by
 obtain ⟨a, b, c, xs⟩ := m;obtain ⟨r, h2, h3⟩ := Ac9.val xs l h0 h1 hx;rw [Ak8.eq, Ak8.T, h2];simp only [Option.bind_some];rcases h3 with rfl | ⟨a, b, c⟩
 . exact ⟨-1, by rw [if_pos (by simp)], .inl rfl⟩
 . exact ⟨r, by rw [if_neg (by simp; omega)], .inr ⟨a, b, c⟩⟩
theorem Af2.val (xs : List MatV) (l : Int) (h0 : 0 ≤ l) (h1 : l ≤ 1048576) (hx : xs.length ≤ maxLen) (hr : ∀ x ∈ xs, x.2.2.2.length ≤ maxLen) : ∃ r, Af2.F (xs, l, ()) = some ((r, ()), ()) /\ (r = -1 ∨ 0 ≤ r /\ r ≤ l /\ SmMs xs) := by
 have : xs.length ≤ 9223372036854775807 := hx;by_cases h : l < xs.length
 . exact ⟨-1, Af2.of _ _ ((Ev.const _).of_eq fun k => by rw [Af2.T, A0q (by omega) (by omega), if_pos (by simp; omega)]), .inl rfl⟩
 obtain ⟨r, hv, h2⟩ := A2D (fun k i s => Af2.l5 k xs s (i : Int)) xs (0, 0, 0, []) SmM (fun i s hi s0 s1 => by
   have E := fun k => Af2.l5_eq k xs s (i : Int);obtain ⟨r, hr1, hr2⟩ := Ak8.val (xs.getD i (0, 0, 0, [])) s s0 s1 (hr _ (A0z _ hi));simp only [if_pos (ltI.2 hi), if_pos (idxI.2 hi), Int.toNat_natCast, hr1, Option.bind_some, A0y (show i < 4611686018427387904 by omega)] at E;rcases hr2 with rfl | ⟨a, b, c⟩
   . exact .inr fun k => by rw [E, if_pos (by simp)]
   . exact .inl ⟨r, a, b, c, fun k => by rw [E, if_neg (by simp; omega)]⟩) (fun k l => by rw [Af2.l5_eq, if_neg (by simp)]) (l - xs.length) (by omega) (by omega)
 refine ⟨r, Af2.of _ _ (hv.of_eq fun k => by rw [Af2.T, A0q (by omega) (by omega), if_neg (by simp; omega)]; rfl), ?_⟩;rcases h2 with h2 | ⟨a, b, c⟩
 . exact .inl h2
 . exact .inr ⟨a, by omega, by omega, c⟩
theorem Ak9.val (m : MatV) (h : SmM m) : Ak9.F (m, ()) = some ((m, ()), ()) := by
 obtain ⟨a, b, c, xs⟩ := m;have hs : xs.length ≤ 1048576 := h;rw [Ak9.eq, Ak9.T, Ab6.val xs (by omega)]; rfl
theorem Ah2.val (xs : List MatV) (h : SmMs xs) : Ah2.F (xs, ()) = some ((xs, ()), ()) := by
 have hl := h.1;refine Ah2.of xs ?_;have := Goes.fill (L := fun k i ys => Ah2.l3 k xs (i : Int) ys) xs (0, 0, 0, []) (fun k i ys hi hy => by
   rw [Ah2.l3_eq, if_pos (ltI.2 hi), if_pos (idxI.2 hi)];simp only [Int.toNat_natCast, Ak9.val _ (h.2 _ (A0z (0, 0, 0, []) hi)), Option.bind_some];rw [if_pos (by omega), A0y (by omega)]) (List.replicate xs.length (0, 0, 0, [])) (by simp)
 refine Ev.of_eq (this _ ((Ev.const _).succ fun k => ?_)) fun k => ?_
 . rw [Ah2.l3_eq, if_neg (by simp)]
 . rw [Ah2.T, if_pos (by simp only [bigN]; omega)]; rfl
theorem Ak7.same (m n : MatV) (h : SmM m) : ∃ b, Ak7.F (m, n, ()) = some ((b, ()), ()) /\ (b = true ↔ m = n) := by
 obtain ⟨a, b, c, xs⟩ := m;obtain ⟨a', b', c', ys⟩ := n;have hs : xs.length ≤ 1048576 := h;obtain ⟨e, he, he'⟩ := Ab2.val xs ys (by omega);rw [Ak7.eq, Ak7.T, he];simp only [Option.bind_some, Prod.mk.injEq];by_cases h1 : a = a'
 . by_cases h2 : b = b'
   . by_cases h3 : c = c'
     . rw [if_neg (by simp [h1]), if_neg (by simp [h2]), if_neg (by simp [h3])];exact ⟨e, by cases e <;> rfl, by simp [h1, h2, h3, he']⟩
     . exact ⟨false, by rw [if_neg (by simp [h1]), if_neg (by simp [h2]), if_pos (by simp [h3])], by simp [h3]⟩
   . exact ⟨false, by rw [if_neg (by simp [h1]), if_pos (by simp [h2])], by simp [h2]⟩
 . exact ⟨false, by rw [if_pos (by simp [h1])], by simp [h1]⟩
theorem Ae9.same (xs ys : List MatV) (h : SmMs xs) : ∃ b, Ae9.F (xs, ys, ()) = some ((b, ()), ()) /\ (b = true ↔ xs = ys) := by
 have hn := h.1;by_cases hl : xs.length = ys.length
 . obtain ⟨b, hb, hb'⟩ := A0U (fun k i => Ae9.l4 k xs ys (i : Int)) xs ys (0, 0, 0, []) hl (fun i hi => by
     obtain ⟨c, hc, hc'⟩ := Ak7.same (xs.getD i (0, 0, 0, [])) (ys.getD i (0, 0, 0, [])) (h.2 _ (A0z _ hi));exact ⟨c, hc', fun k => by rw [Ae9.l4_eq, if_pos (ltI.2 hi), if_pos (idxI.2 hi), if_pos (idx2 (hl ▸ hi))]; simp only [Int.toNat_natCast, hc, Option.bind_some]; rw [A0y (by omega)]⟩) (fun k => by rw [Ae9.l4_eq, if_neg (by simp)])
   exact ⟨b, Ae9.of _ _ (hb.of_eq fun k => by rw [Ae9.T, if_neg (by simp [hl])]; rfl), hb'⟩
 . exact ⟨false, Ae9.of _ _ ((Ev.const _).of_eq fun k => by rw [Ae9.T, if_pos (by simp; omega)]), by simp; intro e; exact hl (by rw [e])⟩
theorem shf_wf {s : ShfV} (h : wfT (.pair (.sl (.sl (.int .i64))) (.pair (.int .i64) (.pair (.sl (.int .i64)) (.sl (.pair (.int .i64) (.pair (.int .i64) (.pair (.int .i64) (.sl (.int .i64))))))))) s) : s.1.length ≤ maxLen /\ (∀ x ∈ s.1, x.length ≤ maxLen) /\ s.2.2.1.length ≤ maxLen /\ s.2.2.2.length ≤ maxLen /\ ∀ x ∈ s.2.2.2, x.2.2.2.length ≤ maxLen := by
 obtain ⟨a, p, b, c⟩ := s;obtain ⟨⟨h1, h2⟩, _, ⟨h3, _⟩, h4, h5⟩ := h;exact ⟨h1, fun x hx => (h2 x hx).1, h3, h4, fun x hx => (h5 x hx).2.2.2.1⟩
theorem Aj2.val (s : ShfV) (l : Int) (h0 : 0 ≤ l) (h1 : l ≤ 1048576) (w1 : s.1.length ≤ maxLen) (w2 : ∀ x ∈ s.1, x.length ≤ maxLen) (w3 : s.2.2.1.length ≤ maxLen) (w4 : s.2.2.2.length ≤ maxLen) (w5 : ∀ x ∈ s.2.2.2, x.2.2.2.length ≤ maxLen) : ∃ r, Aj2.F (s, l, ()) = some ((r, ()), ()) /\ (r = -1 ∨ 0 ≤ r /\ r ≤ l /\ SmSh s) := by
 obtain ⟨a, p, b, c⟩ := s;obtain ⟨r1, e1, k1⟩ := Af0.val a l h0 h1 w1 w2;rw [Aj2.eq, Aj2.T, e1];simp only [Option.bind_some];rcases k1 with rfl | ⟨a1, b1, c1⟩
 . exact ⟨-1, by rw [if_pos (by simp)], .inl rfl⟩
 rw [if_neg (by simp; omega)];obtain ⟨r2, e2, k2⟩ := Ac9.val b r1 a1 (by omega) w3;rw [e2];simp only [Option.bind_some];rcases k2 with rfl | ⟨a2, b2, c2⟩
 . exact ⟨-1, by rw [if_pos (by simp)], .inl rfl⟩
 rw [if_neg (by simp; omega)];obtain ⟨r3, e3, k3⟩ := Af2.val c r2 a2 (by omega) w4 w5;rw [e3];simp only [Option.bind_some];rcases k3 with rfl | ⟨a3, b3, c3⟩
 . exact ⟨-1, by rw [if_pos (by simp)], .inl rfl⟩
 exact ⟨r3, by rw [if_neg (by simp; omega)], .inr ⟨a3, by omega, c1, c2, c3⟩⟩
theorem Ag4.val (s : ShfV) (h : SmSh s) : Ag4.F (s, ()) = some ((s, ()), ()) := by
 obtain ⟨a, p, b, c⟩ := s;obtain ⟨h1, h2, h3⟩ := h;have h2' : b.length ≤ 1048576 := h2;rw [Ag4.eq, Ag4.T, Ad3.val a h1, Ab6.val b (by omega), Ah2.val c h3]; rfl
theorem Ag1.same (s t : ShfV) (h : SmSh s) : ∃ b, Ag1.F (s, t, ()) = some ((b, ()), ()) /\ (b = true ↔ s = t) := by
 obtain ⟨a, p, b, c⟩ := s;obtain ⟨a', p', b', c'⟩ := t;obtain ⟨h1, h2, h3⟩ := h;have h2' : b.length ≤ 1048576 := h2;obtain ⟨v1, e1, k1⟩ := Ae7.same a a' h1;obtain ⟨v2, e2, k2⟩ := Ab2.val b b' (by omega);obtain ⟨v3, e3, k3⟩ := Ae9.same c c' h3;rw [Ag1.eq, Ag1.T, e1, e2, e3];simp only [Option.bind_some, Prod.mk.injEq];by_cases hp : p = p'
 . rw [show (p != p') = false by simp [hp]];refine ⟨v1 && v2 && v3, by cases v1 <;> cases v2 <;> cases v3 <;> rfl, ?_⟩;simp only [Bool.and_eq_true, k1, k2, k3, hp, true_and, and_assoc]
 . rw [show (p != p') = true by simp [hp]];exact ⟨false, by cases v1 <;> rfl, by simp [hp]⟩
def A0s (ys : List Int) (k : Int) : Prop := ∀ j, j < ys.length -> ys.getD j 0 = k + j
theorem Ab5.val (xs : List Int) (k0 : Int) (h0 : 0 ≤ k0) (h1 : k0 + xs.length ≤ 4611686018427387904) : ∃ ys, Ab5.F (xs, k0, ()) = some ((k0 + xs.length, ()), (ys, ())) /\ ys.length = xs.length /\ A0s ys k0 := by
 obtain ⟨⟨v, ys⟩, ⟨hv, hl, hm⟩, hg⟩ := Goes.loop (R := (Int × Unit) × (List Int × Unit)) (fun k i (s : Int × List Int) => Ab5.l2 k s.1 (i : Int) s.2) xs.length (fun i s => s.1 = k0 + i /\ s.2.length = xs.length /\ ∀ j, j < i -> s.2.getD j 0 = k0 + j)
   (fun i s hi ⟨h2, h3, h4⟩ => ⟨(s.1 + 1, s.2.set i s.1), ⟨by simp only []; omega, by simp [h3], fun j hj => by
     simp only [List.getD_eq_getElem?_getD, List.getElem?_set];by_cases hij : i = j
     . subst hij; simp [h3, hi, h2]
     . have := h4 j (by omega);simp only [List.getD_eq_getElem?_getD] at this;simp [hij, this]⟩, Goes.succ fun k => by
     rw [Ab5.l2_eq, if_pos (by simp; omega), if_pos (by omega), A0q (by omega) (by omega), A0y (by omega)];simp only [Int.toNat_natCast]⟩) 0 (k0, xs) (Nat.zero_le _) ⟨by simp, rfl, fun j hj => by omega⟩
 simp only [] at hv hl hm;refine ⟨ys, Ab5.of _ _ ((hg _ ((Ev.const _).succ fun k => ?_)).of_eq fun k => rfl), hl, fun j hj => hm j (by omega)⟩;rw [Ab5.l2_eq, if_neg (by simp; omega), hv]
theorem Ac0.val (ys : List Int) (k0 : Int) (h0 : 0 ≤ k0) (h1 : k0 + ys.length ≤ 4611686018427387904) (hm : A0s ys k0) : Ac0.F (ys, k0, ()) = some ((k0 + ys.length, ()), ()) := by
 obtain ⟨v, hv, hg⟩ := Goes.loop (R := (Int × Unit) × Unit) (fun k i (s : Int) => Ac0.l2 k ys s (i : Int)) ys.length (fun i s => s = k0 + i)
   (fun i s hi h2 => ⟨s + 1, by omega, Goes.succ fun k => by
     rw [Ac0.l2_eq, if_pos (ltI.2 hi), if_pos (idxI.2 hi), if_neg (by simp only [Int.toNat_natCast]; rw [hm i hi, h2]; simp), A0q (by omega) (by omega), A0y (by omega)]⟩) 0 k0 (Nat.zero_le _) (by simp)
 refine Ac0.of _ _ ((hg _ ((Ev.const _).succ fun k => ?_)).of_eq fun k => rfl);rw [Ac0.l2_eq, if_neg (by simp), hv]
def mkI (n : Nat) (k : Int) : List Int := (List.range n).map fun (j : Nat) => k + (j : Int)
theorem A0l (n : Nat) (k : Int) : (mkI n k).length = n := by simp [mkI]
theorem A1E (n : Nat) (k : Int) : A0s (mkI n k) k := fun j hj => by
 rw [A0l] at hj;simp [mkI, List.getD_eq_getElem?_getD, hj]
theorem mkI_of {ys : List Int} {k : Int} (h : A0s ys k) : ys = mkI ys.length k := by
 refine List.ext_getElem (by simp [mkI]) fun i h1 h2 => ?_;rw [<- A0x (d := 0) h1, <- A0x (d := 0) h2, h i h1, A1E _ _ i h2]
def mkM (m : MatV) (k : Int) : MatV := (k, k + 1, k + 1 + 1, mkI m.2.2.2.length (k + 1 + 1 + 1))
def szM (m : MatV) : Nat := 3 + m.2.2.2.length
def offM (ms : List MatV) (i : Nat) : Nat := ((ms.take i).map szM).sum
theorem A0M {ms : List MatV} {i : Nat} (h : i < ms.length) : offM ms (i + 1) = offM ms i + szM (ms.getD i (0, 0, 0, [])) := by
 unfold offM;rw [List.take_add_one, List.getElem?_eq_getElem h, Option.toList_some, List.map_append, List.sum_append, A0x h];simp
theorem A2k {ms : List MatV} {i j : Nat} (h : i ≤ j) : offM ms i ≤ offM ms j := by
 induction h with
 | refl => exact Nat.le_refl _
 | @step m _ ih =>
   by_cases hm : m < ms.length
   . rw [Nat.succ_eq_add_one, A0M hm]; omega
   . have : offM ms (m + 1) = offM ms m := by unfold offM; rw [List.take_of_length_le (by omega), List.take_of_length_le (by omega)]
     rw [Nat.succ_eq_add_one, this]; exact ih
theorem A2w {ms : List MatV} (h : SmMs ms) : offM ms ms.length ≤ 1048579 * 1048576 := by
 have key : ∀ i, i ≤ ms.length -> offM ms i ≤ 1048579 * i := by
   intro i;induction i with
   | zero => intro _; simp [offM]
   | succ i ih =>
     intro hi;have h1 := ih (by omega);have h2 : (ms.getD i (0, 0, 0, [])).2.2.2.length ≤ 1048576 := h.2 _ (A0z _ (by omega));rw [A0M (by omega), szM]; omega
 have := key ms.length (Nat.le_refl _);have := h.1;omega
theorem A2O {α : Type} (l : List α) (i : Nat) (x y : α) : (l.set i x).set i y = l.set i y := by rw [List.set_set]
theorem A0c {α : Type} (l : List α) (i : Nat) (x d : α) (h : i < l.length) : (l.set i x).getD i d = x := by simp [List.getD_eq_getElem?_getD, h]
theorem Ah0.val (ms : List MatV) (k0 : Int) (h0 : 0 ≤ k0) (hx : ms.length < 4611686018427387904) (h1 : k0 + offM ms ms.length ≤ 4611686018427387904) :
   ∃ ys, Ah0.F (ms, k0, ()) = some ((k0 + offM ms ms.length, ()), (ys, ())) /\ ys.length = ms.length /\ ∀ j, j < ms.length -> ys.getD j (0, 0, 0, []) = mkM (ms.getD j (0, 0, 0, [])) (k0 + offM ms j) := by
 obtain ⟨⟨v, ys⟩, ⟨hv, hl, hm, -⟩, hg⟩ := Goes.loop (R := (Int × Unit) × (List MatV × Unit)) (fun k i (s : Int × List MatV) => Ah0.l2 k s.1 (i : Int) s.2) ms.length
   (fun i s => s.1 = k0 + offM ms i /\ s.2.length = ms.length /\ (∀ j, j < i -> s.2.getD j (0, 0, 0, []) = mkM (ms.getD j (0, 0, 0, [])) (k0 + offM ms j)) /\ ∀ j, i ≤ j -> s.2.getD j (0, 0, 0, []) = ms.getD j (0, 0, 0, []))
   (fun i s hi ⟨h2, h3, h4, h5⟩ => by
     have hle := A2k (ms := ms) (show i + 1 ≤ ms.length by omega);rw [A0M hi, szM] at hle;obtain ⟨m, hm⟩ : ∃ m, ms.getD i (0, 0, 0, []) = m := ⟨_, rfl⟩;rw [hm] at hle;obtain ⟨ys, e1, e2, e3⟩ := Ab5.val m.2.2.2 (s.1 + 1 + 1 + 1) (by omega) (by omega);have e4 : ys = mkI m.2.2.2.length (s.1 + 1 + 1 + 1) := by rw [<- e2]; exact mkI_of e3
     have w1 : IntKind.i64.wrap (s.1 + 1) = s.1 + 1 := A0q (by omega) (by omega);have w2 : IntKind.i64.wrap (s.1 + 1 + 1) = s.1 + 1 + 1 := A0q (by omega) (by omega);have w3 : IntKind.i64.wrap (s.1 + 1 + 1 + 1) = s.1 + 1 + 1 + 1 := A0q (by omega) (by omega);have hsi : s.2.getD i (0, 0, 0, []) = m := by rw [h5 i (Nat.le_refl _), hm]
     have hil : i < s.2.length := by omega
     refine ⟨(s.1 + 1 + 1 + 1 + m.2.2.2.length, s.2.set i (mkM m s.1)), ⟨by simp only []; rw [A0M hi, hm, szM]; omega, by simp [h3], fun j hj => ?_, fun j hj => ?_⟩, Goes.succ fun k => ?_⟩
     . by_cases hij : i = j
       . subst hij; simp only []; rw [A0c _ _ _ _ hil, hm, h2]
       . have := h4 j (by omega);simp only [List.getD_eq_getElem?_getD, List.getElem?_set] at this ⊢;rw [if_neg hij]; exact this
     . have := h5 j (by omega);simp only [List.getD_eq_getElem?_getD, List.getElem?_set] at this ⊢;rw [if_neg (by omega)]; exact this
     . rw [Ah0.l2_eq, if_pos (by simp; omega), if_pos (by omega)];simp only [Int.toNat_natCast, hsi, A2O, A0c _ _ _ _ hil, List.length_set, w1, w2, w3];rw [if_pos (by omega), if_pos (by omega), if_pos (by omega), e1];simp only [Option.bind_some];rw [A0y (by omega), e4];rfl) 0 (k0, ms) (Nat.zero_le _) ⟨by simp [offM], rfl, fun j hj => by omega, fun _ _ => rfl⟩
 simp only [] at hv hl hm;refine ⟨ys, Ah0.of _ _ ((hg _ ((Ev.const _).succ fun k => ?_)).of_eq fun k => rfl), hl, hm⟩;rw [Ah0.l2_eq, if_neg (by simp; omega), hv]
def offs (xs : List (List Int)) (i : Nat) : Nat := ((xs.take i).map List.length).sum
theorem A0O {xs : List (List Int)} {i : Nat} (h : i < xs.length) : offs xs (i + 1) = offs xs i + (xs.getD i []).length := by
 unfold offs;rw [List.take_add_one, List.getElem?_eq_getElem h, Option.toList_some, List.map_append, List.sum_append, A0x h];simp
theorem A2A {xs : List (List Int)} {i j : Nat} (h : i ≤ j) : offs xs i ≤ offs xs j := by
 induction h with
 | refl => exact Nat.le_refl _
 | @step m _ ih =>
   by_cases hm : m < xs.length
   . rw [Nat.succ_eq_add_one, A0O hm]; omega
   . have : offs xs (m + 1) = offs xs m := by unfold offs; rw [List.take_of_length_le (by omega), List.take_of_length_le (by omega)]
     rw [Nat.succ_eq_add_one, this]; exact ih
theorem Ag2.val (xs : List (List Int)) (k0 : Int) (h0 : 0 ≤ k0) (hx : xs.length < 4611686018427387904) (h1 : k0 + offs xs xs.length ≤ 4611686018427387904) :
   ∃ ys, Ag2.F (xs, k0, ()) = some ((k0 + offs xs xs.length, ()), (ys, ())) /\ ys.length = xs.length /\ ∀ j, j < xs.length -> (ys.getD j []).length = (xs.getD j []).length /\ A0s (ys.getD j []) (k0 + offs xs j) := by
 obtain ⟨⟨v, ys⟩, ⟨hv, hl, hm, -⟩, hg⟩ := Goes.loop (R := (Int × Unit) × (List (List Int) × Unit)) (fun k i (s : Int × List (List Int)) => Ag2.l2 k s.1 (i : Int) s.2) xs.length
   (fun i s => s.1 = k0 + offs xs i /\ s.2.length = xs.length /\ (∀ j, j < i -> (s.2.getD j []).length = (xs.getD j []).length /\ A0s (s.2.getD j []) (k0 + offs xs j)) /\ ∀ j, i ≤ j -> s.2.getD j [] = xs.getD j [])
   (fun i s hi ⟨h2, h3, h4, h5⟩ => by
     have hle := A2A (xs := xs) (show i + 1 ≤ xs.length by omega);rw [A0O hi] at hle;obtain ⟨ys, e1, e2, e3⟩ := Ab5.val (s.2.getD i []) s.1 (by omega) (by rw [h5 i (Nat.le_refl _), h2]; omega);rw [h5 i (Nat.le_refl _)] at e1 e2;refine ⟨(s.1 + (xs.getD i []).length, s.2.set i ys), ⟨by simp only []; rw [A0O hi]; omega, by simp [h3], fun j hj => ?_, fun j hj => ?_⟩, Goes.succ fun k => ?_⟩
     . simp only [List.getD_eq_getElem?_getD, List.getElem?_set];by_cases hij : i = j
       . subst hij;simp only [h3, hi, if_true, Option.getD_some];exact ⟨by rw [e2, List.getD_eq_getElem?_getD], by rw [<- h2]; exact e3⟩
       . have := h4 j (by omega);simp only [List.getD_eq_getElem?_getD] at this;simpa [hij] using this
     . have := h5 j (by omega);simp only [List.getD_eq_getElem?_getD, List.getElem?_set] at this ⊢;rw [if_neg (by omega)]; exact this
     . rw [Ag2.l2_eq, if_pos (by simp; omega), if_pos (by omega)];simp only [Int.toNat_natCast, h5 i (Nat.le_refl _), e1, Option.bind_some];rw [A0y (by omega)]) 0 (k0, xs) (Nat.zero_le _) ⟨by simp [offs], rfl, fun j hj => by omega, fun _ _ => rfl⟩
 simp only [] at hv hl hm;refine ⟨ys, Ag2.of _ _ ((hg _ ((Ev.const _).succ fun k => ?_)).of_eq fun k => rfl), hl, hm⟩;rw [Ag2.l2_eq, if_neg (by simp; omega), hv]
theorem Ai1.val (xs ys : List (List Int)) (k0 : Int) (h0 : 0 ≤ k0) (hx : xs.length < 4611686018427387904) (h1 : k0 + offs xs xs.length ≤ 4611686018427387904) (hl : ys.length = xs.length)
   (hm : ∀ j, j < xs.length -> (ys.getD j []).length = (xs.getD j []).length /\ A0s (ys.getD j []) (k0 + offs xs j)) : Ai1.F (ys, k0, ()) = some ((k0 + offs xs xs.length, ()), ()) := by
 obtain ⟨v, hv, hg⟩ := Goes.loop (R := (Int × Unit) × Unit) (fun k i (s : Int) => Ai1.l2 k ys s (i : Int)) xs.length (fun i s => s = k0 + offs xs i)
   (fun i s hi h2 => by
     have hle := A2A (xs := xs) (show i + 1 ≤ xs.length by omega);rw [A0O hi] at hle;obtain ⟨e1, e2⟩ := hm i hi;have e3 := Ac0.val (ys.getD i []) s (by omega) (by rw [e1, h2]; omega) (by rw [h2]; exact e2);refine ⟨s + (xs.getD i []).length, by rw [A0O hi]; omega, Goes.succ fun k => ?_⟩;rw [Ai1.l2_eq, if_pos (by simp; omega), if_pos (by omega)];simp only [Int.toNat_natCast, e3, Option.bind_some];rw [if_neg (by simp; omega), A0y (by omega), e1]) 0 k0 (Nat.zero_le _) (by simp [offs])
 refine Ai1.of _ _ ((hg _ ((Ev.const _).succ fun k => ?_)).of_eq fun k => rfl);rw [Ai1.l2_eq, if_neg (by simp; omega), hv]
theorem A1N {xs : List (List Int)} (h : SmL xs) : offs xs xs.length ≤ 1048576 * 1048576 := by
 have key : ∀ i, i ≤ xs.length -> offs xs i ≤ 1048576 * i := by
   intro i;induction i with
   | zero => intro _; simp [offs]
   | succ i ih =>
     intro hi;have h1 := ih (by omega);have h2 : (xs.getD i []).length ≤ 1048576 := h.2 _ (A0z _ (by omega));rw [A0O (by omega)]; omega
 have := key xs.length (Nat.le_refl _);have := h.1;omega
theorem Ac1.some (c : List (List Int)) (k0 : Int) (h : SmL c) (h0 : 0 ≤ k0) (h1 : k0 ≤ 1152921504606846976) : ∃ v ys, Ac1.F (c, k0, ()) = some ((v, ()), (ys, ())) /\ k0 ≤ v /\ v ≤ k0 + 1099511627776 := by
 have b := A1N h;have hl := h.1;obtain ⟨ys, e, _⟩ := Ag2.val c k0 h0 (by omega) (by omega);rw [Ac1.eq, Ac1.T, e];exact ⟨k0 + ((offs c c.length : Nat) : Int), _, rfl, by omega, by omega⟩
theorem Ag3.some (s : ShfV) (k0 : Int) (h : SmSh s) (h0 : 0 ≤ k0) (h1 : k0 ≤ 576460752303423488) : ∃ v ys, Ag3.F (s, k0, ()) = some ((v, ()), (ys, ())) /\ k0 ≤ v /\ v ≤ k0 + 8796093022208 := by
 obtain ⟨c, p, st, ms⟩ := s;obtain ⟨hc, hst, hms⟩ := h;have hst : st.length ≤ 1048576 := hst;have hml := hms.1;have b := A2w hms;obtain ⟨v1, y1, e1, a1, b1⟩ := Ac1.some c k0 hc h0 (by omega);obtain ⟨y2, e2, _⟩ := Ab5.val st v1 (by omega) (by omega);obtain ⟨y3, e3, _⟩ := Ah0.val ms (v1 + st.length) (by omega) (by have : ms.length ≤ 1048576 := hml; omega) (by have : offM ms ms.length ≤ 1048579 * 1048576 := b; omega);rw [Ag3.eq, Ag3.T, e1];simp only [Option.bind_some, e2, e3];have : offM ms ms.length ≤ 1048579 * 1048576 := b;exact ⟨_, _, rfl, by omega, by omega⟩
theorem Ai2.val (ms ys : List MatV) (k0 : Int) (h0 : 0 ≤ k0) (hx : ms.length < 4611686018427387904) (h1 : k0 + offM ms ms.length ≤ 4611686018427387904) (hl : ys.length = ms.length)
   (hm : ∀ j, j < ms.length -> ys.getD j (0, 0, 0, []) = mkM (ms.getD j (0, 0, 0, [])) (k0 + offM ms j)) : Ai2.F (ys, k0, ()) = some ((k0 + offM ms ms.length, ()), ()) := by
 obtain ⟨v, hv, hg⟩ := Goes.loop (R := (Int × Unit) × Unit) (fun k i (s : Int) => Ai2.l2 k ys s (i : Int)) ms.length (fun i s => s = k0 + offM ms i)
   (fun i s hi h2 => by
     have hle := A2k (ms := ms) (show i + 1 ≤ ms.length by omega);rw [A0M hi, szM] at hle;obtain ⟨m, hme⟩ : ∃ m, ms.getD i (0, 0, 0, []) = m := ⟨_, rfl⟩;have e0 := hm i hi;rw [<- h2, hme] at e0;rw [hme] at hle;have e3 := Ac0.val (mkI m.2.2.2.length (s + 1 + 1 + 1)) (s + 1 + 1 + 1) (by omega) (by rw [A0l]; omega) (A1E _ _);rw [A0l] at e3;have w1 : IntKind.i64.wrap (s + 1) = s + 1 := A0q (by omega) (by omega);have w2 : IntKind.i64.wrap (s + 1 + 1) = s + 1 + 1 := A0q (by omega) (by omega);have w3 : IntKind.i64.wrap (s + 1 + 1 + 1) = s + 1 + 1 + 1 := A0q (by omega) (by omega);refine ⟨s + 1 + 1 + 1 + m.2.2.2.length, by rw [A0M hi, hme, szM]; omega, Goes.succ fun k => ?_⟩;have hc : (0 ≤ (i : Int) /\ (i : Int) < (ys.length : Int)) := by omega
     rw [Ai2.l2_eq, if_pos (by simp; omega)];simp only [if_pos hc, Int.toNat_natCast, e0, mkM, w1, w2, w3, e3, Option.bind_some];rw [if_neg (by simp), if_neg (by simp), if_neg (by simp), if_neg (by simp; omega), A0y (by omega)]) 0 k0 (Nat.zero_le _) (by simp [offM])
 refine Ai2.of _ _ ((hg _ ((Ev.const _).succ fun k => ?_)).of_eq fun k => rfl);rw [Ai2.l2_eq, if_neg (by simp; omega), hv]
theorem A1z (c ys : List (List Int)) (k0 : Int) (h : SmL c) (h0 : 0 ≤ k0) (h1 : k0 ≤ 576460752303423488) (e : ∃ v, Ac1.F (c, k0, ()) = some ((v, ()), (ys, ()))) : Al5.F (ys, k0, ()) = some ((k0 + offs c c.length, ()), ()) := by
 have b := A1N h;have hl := h.1;obtain ⟨v, e⟩ := e;obtain ⟨ys', e1, e2, e3⟩ := Ag2.val c k0 h0 (by omega) (by omega);rw [Ac1.eq, Ac1.T, e1] at e;have e : some ((k0 + ((offs c c.length : Nat) : Int), ()), (ys', ())) = some ((v, ()), (ys, ())) := e;simp only [Option.some.injEq, Prod.mk.injEq, and_true] at e;obtain ⟨rfl, rfl⟩ := e;rw [Al5.eq, Al5.T, Ai1.val c ys' k0 h0 (by omega) (by omega) e2 e3];simp only [Option.bind_some];rw [if_neg (by simp; omega)]
theorem A1y (c : List (List Int)) (k0 : Int) (h : SmL c) (h0 : 0 ≤ k0) (h1 : k0 ≤ 576460752303423488) : ∃ ys, Ac1.F (c, k0, ()) = some ((k0 + offs c c.length, ()), (ys, ())) /\ Al5.F (ys, k0, ()) = some ((k0 + offs c c.length, ()), ()) := by
 have b := A1N h;have hl := h.1;obtain ⟨ys', e1, e2, e3⟩ := Ag2.val c k0 h0 (by omega) (by omega);have e : Ac1.F (c, k0, ()) = some ((k0 + ((offs c c.length : Nat) : Int), ()), (ys', ())) := by rw [Ac1.eq, Ac1.T, e1]; rfl
 exact ⟨ys', e, A1z c ys' k0 h h0 h1 ⟨_, e⟩⟩
theorem A1A (s : ShfV) (h : SmSh s) : ∃ (ys : ShfV) (v : Int), Ag3.F (s, 1, ()) = some ((v, ()), (ys, ())) /\ Al6.F (ys, 1, ()) = some ((v, ()), ()) /\ 0 ≤ v := by
 obtain ⟨c, p, st, ms⟩ := s;obtain ⟨hc, hst, hms⟩ := h;have hst : st.length ≤ 1048576 := hst;have hml : ms.length ≤ 1048576 := hms.1;have b : offM ms ms.length ≤ 1048579 * 1048576 := A2w hms;have hc : SmL c := hc;have b2 := A1N hc;obtain ⟨y1, e1, f1⟩ := A1y c 1 hc (by omega) (by omega);obtain ⟨y2, e2, l2, k2⟩ := Ab5.val st (1 + offs c c.length) (by omega) (by omega);obtain ⟨y3, e3, l3, k3⟩ := Ah0.val ms (1 + offs c c.length + st.length) (by omega) (by omega) (by omega);have f2 := Ac0.val y2 (1 + offs c c.length) (by omega) (by omega) k2;rw [l2] at f2;have f3 := Ai2.val ms y3 (1 + offs c c.length + st.length) (by omega) (by omega) (by omega) l3 k3;refine ⟨(y1, p, y2, y3), 1 + offs c c.length + st.length + offM ms ms.length, ?_, ?_, by omega⟩
 . rw [Ag3.eq, Ag3.T, e1];simp only [Option.bind_some, e2, e3]
 . rw [Al6.eq, Al6.T, f1];simp only [Option.bind_some];rw [if_neg (by simp; omega), f2];simp only [Option.bind_some];rw [if_neg (by simp; omega), f3];simp only [Option.bind_some];rw [if_neg (by simp; omega)]
theorem small0 : SmSh (([], 0, [], []) : ShfV) := ⟨⟨by simp, by simp⟩, by simp [Sm], ⟨by simp, by simp⟩⟩
open Classical in
noncomputable def A0P (s : ShfV) (p : List (List Int)) : Int := if A1P s /\ CplxOk p then (if IsIn p s.1 then 0 else 6) else 1
def keepQ (p : List (List Int)) (t : List Int) : Bool := decide (t ∈ p) == false
noncomputable def A0d (s : ShfV) (p : List (List Int)) : ShfV := if A0P s p = 0 then A2K s (keepQ p) else ([], 0, [], [])
theorem A1l {s : ShfV} {p : List (List Int)} (h : A0P s p = 0) : A1P s /\ CplxOk p := by
 unfold A0P at h;split at h
 . assumption
 . cases h
theorem A1a {s : ShfV} (h : A0A s) (q : List Int -> Bool) : SmSh (A2K s q) := by
 have hn := h.1.1;have ho := A0N h.1 (Nat.le_refl s.1.length);refine ⟨h.1.small, by show (A0j s q).length ≤ _; rw [A0L]; omega, ⟨by show (A0E s.1 (A0a s q)).length ≤ _; rw [A0J]; omega, fun m hm => ?_⟩⟩;have hm : m ∈ (arr s.1 s.1.length).map (A0a s q) := hm;obtain ⟨e, he, rfl⟩ := List.mem_map.1 hm;exact (Ae6.val (f := fun t => some (q t.1, ())) h (fun t _ => rfl) he).2
theorem A1j (s : ShfV) (p : List (List Int)) : SmSh (A0d s p) := by
 unfold A0d;split
 . rename_i h; exact A1a (A1l h).1.1 _
 . exact small0
theorem Ai5.val (s : ShfV) (p : List (List Int)) (hs : SmSh s) (hp : SmL p) : Ai5.F (s, p, ()) = some ((A0d s p, A0P s p, ()), ()) := by
 obtain ⟨v1, a1, a1'⟩ := Ah4.val s hs;obtain ⟨v2, a2, a2'⟩ := Aa2.val p hp;have a1 : Ah4.F ((s.1, (s.2.1, (s.2.2.1, s.2.2.2))), ()) = _ := a1;have key : Am4.F ((s.1, (s.2.1, (s.2.2.1, s.2.2.2))), p, false, ()) = some ((A0d s p, A0P s p, ()), ()) := by
   rw [Am4.eq, Am4.T, a1];simp only [Option.bind_some];cases v1 with
   | false =>
     have e : A0P s p = 1 := by rw [A0P, if_neg fun hh => absurd (a1'.2 hh.1) (by simp)]
     rw [if_pos (by simp), A0d, e, if_neg (by decide)]
   | true =>
     rw [if_neg (by simp), a2];simp only [Option.bind_some];cases v2 with
     | false =>
       have e : A0P s p = 1 := by rw [A0P, if_neg fun hh => absurd (a2'.2 hh.2) (by simp)]
       rw [if_pos (by simp), A0d, e, if_neg (by decide)]
     | true =>
       have h0 := a1'.1 rfl;have hn := (a2'.1 rfl).1;obtain ⟨v3, a3, a3'⟩ := Ai9.val p s.1 (by omega) h0.1.1.small;rw [if_neg (by simp), a3];simp only [Option.bind_some];cases v3 with
       | false =>
         have e : A0P s p = 6 := by rw [A0P, if_pos ⟨h0, a2'.1 rfl⟩, if_neg fun hh => absurd (a3'.2 hh) (by simp)]
         rw [if_pos (by simp), A0d, e, if_neg (by decide)]
       | true =>
         have e : A0P s p = 0 := by rw [A0P, if_pos ⟨h0, a2'.1 rfl⟩, if_pos (a3'.1 rfl)]
         have hk : Ad7.F ((s.1, (s.2.1, (s.2.2.1, s.2.2.2))), p, false, ()) = _ := Ad7.val h0.1 p hp false;rw [if_neg (by simp), hk];simp only [Option.bind_some];rw [A0d, e, if_pos rfl]; rfl
 have hT : Ai5.F (s, p, ()) = Ai5.T s.1 s.2.1 s.2.2.1 s.2.2.2 p := Ai5.eq _ _ _ _ _;rw [hT, Ai5.T, key]; rfl
theorem Ag8.val (s : ShfV) (p : List (List Int)) (hs : SmSh s) (hp : SmL p) : Ag8.F (s, p, ()) = some ((A0d s p, A0P s p, ()), ()) := by
 obtain ⟨v1, a1, a1'⟩ := Ag7.val s hs;obtain ⟨v2, a2, a2'⟩ := Ac7.val p hp;have a1 : Ag7.F ((s.1, (s.2.1, (s.2.2.1, s.2.2.2))), ()) = _ := a1;have key : Am2.F ((s.1, (s.2.1, (s.2.2.1, s.2.2.2))), p, ()) = some ((A0P s p, ()), ()) := by
   rw [Am2.eq, Am2.T, a1];simp only [Option.bind_some];cases v1 with
   | false => rw [if_pos (by simp), A0P, if_neg fun hh => absurd (a1'.2 hh.1) (by simp)]
   | true =>
     rw [if_neg (by simp), a2];simp only [Option.bind_some];cases v2 with
     | false => rw [if_pos (by simp), A0P, if_neg fun hh => absurd (a2'.2 hh.2) (by simp)]
     | true =>
       have h0 := a1'.1 rfl;obtain ⟨v3, a3, a3'⟩ := Ak4.val p s.1 hp h0.1.1.small h0.1.1.sorted;rw [if_neg (by simp), a3];simp only [Option.bind_some];cases v3 with
       | false => rw [if_pos (by simp), A0P, if_pos ⟨h0, a2'.1 rfl⟩, if_neg fun hh => absurd (a3'.2 hh) (by simp)]
       | true => rw [if_neg (by simp), A0P, if_pos ⟨h0, a2'.1 rfl⟩, if_pos (a3'.1 rfl)]
 have hT : Ag8.F (s, p, ()) = Ag8.T s.1 s.2.1 s.2.2.1 s.2.2.2 p := Ag8.eq _ _ _ _ _;rw [hT, Ag8.T, key];simp only [Option.bind_some];by_cases h : A0P s p = 0
 . obtain ⟨h0, k1⟩ := A1l h;have hm : Af8.F ((s.1, (s.2.1, (s.2.2.1, s.2.2.2))), Al4.cloG (p, ()), ()) = _ := Af8.val h0.1 (f := Al4.cloG (p, ())) (q := keepQ p) (fun t ht => by
     obtain ⟨r, hr, hr'⟩ := Aa5.val p t k1.sorted hp (h0.1.1.small.2 t ht);show (Al4.F (t, p, ())).map (·.1) = _;rw [Al4.eq, Al4.T, hr];have hr' : r < 0 ↔ t ∉ p := hr';simp only [Option.bind_some, Option.map_some, keepQ, Option.some.injEq, Prod.mk.injEq, and_true];by_cases hm : t ∈ p
     . have : ¬ r < 0 := fun hh => hr'.1 hh hm;simp [hm]; omega
     . have := hr'.2 hm;simp [hm]; omega)
   rw [if_neg (by simp [h]), hm, A0d, if_pos h, h]; rfl
 . rw [if_pos (by simp [h]), A0d, if_neg h]
theorem cpx_wf {s : List (List Int)} (h : wfT (.sl (.sl (.int .i64))) s) : s.length ≤ maxLen /\ ∀ x ∈ s, x.length ≤ maxLen := ⟨h.1, fun x hx => (h.2 x hx).1⟩
theorem Aj1.pure (d : Ins Aj1.sig.ps) (h : wfIns Aj1.sig.ps d) : ∃ mu, Aj1.F d = some ((true, ()), mu) := by
 obtain ⟨d0, d1, ⟨⟩⟩ := d;obtain ⟨hw0, hw1, _⟩ := h;obtain ⟨w0a, w0b, w0c, w0d, w0e⟩ := shf_wf hw0;obtain ⟨w1a, w1b⟩ := cpx_wf hw1;refine ⟨(), ?_⟩;have hT : Aj1.F (d0, d1, ()) = Aj1.T d0.1 d0.2.1 d0.2.2.1 d0.2.2.2 d1 := Aj1.eq _ _ _ _ _;rw [hT, Aj1.T];obtain ⟨r0, e0, k0⟩ := Aj2.val d0 1048576 (by omega) (by omega) w0a w0b w0c w0d w0e;have e0 : Aj2.F ((d0.1, (d0.2.1, (d0.2.2.1, d0.2.2.2))), 1048576, ()) = _ := e0;rw [e0];simp only [Option.bind_some];rcases k0 with rfl | ⟨a0, b0, c0⟩
 . rw [if_pos (by simp)]
 rw [if_neg (by simp; omega)];obtain ⟨r1, e1, k1⟩ := Af0.val d1 r0 a0 (by omega) w1a w1b;rw [e1];simp only [Option.bind_some];rcases k1 with rfl | ⟨a1, b1, c1⟩
 . rw [if_pos (by simp)]
 rw [if_neg (by simp; omega)];have t0 : Ag4.F ((d0.1, (d0.2.1, (d0.2.2.1, d0.2.2.2))), ()) = _ := Ag4.val d0 c0;obtain ⟨f0, g0, g0'⟩ := Ag1.same d0 d0 c0;obtain rfl : f0 = true := g0'.2 rfl;obtain ⟨v0, s0, m0, ma0, mb0⟩ := Ag3.some d0 1 c0 (by omega) (by omega);have t1 := Ad3.val d1 c1;obtain ⟨f1, g1, g1'⟩ := Ae7.same d1 d1 c1;obtain rfl : f1 = true := g1'.2 rfl;obtain ⟨v1, s1, m1, ma1, mb1⟩ := Ac1.some d1 v0 c1 (by omega) (by omega);obtain ⟨fr, gr, gr'⟩ := Ag1.same (A0d d0 d1) (A0d d0 d1) (A1j d0 d1);obtain rfl : fr = true := gr'.2 rfl;obtain ⟨ys, v, n1, n2, n3⟩ := A1A (A0d d0 d1) (A1j d0 d1);have q1 : ¬ v1 < 0 := by omega
 have q2 : ¬ v < 0 := by omega
 simp [t0, g0, m0, t1, g1, m1, Ai5.val d0 d1 c0 c1, Ag8.val d0 d1 c0 c1, gr, n1, n2, q1, q2]
end Go.Proofs.YtjimdbbeilfkfaaGreat
