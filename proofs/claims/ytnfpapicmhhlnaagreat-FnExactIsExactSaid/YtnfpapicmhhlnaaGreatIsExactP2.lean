/- What the functions answer. -/
import Derived.Test.YtnfpapicmhhlnaaGreatIsExactP1
namespace Go.Proofs.YtnfpapicmhhlnaaGreat
open Go Go.Vm
set_option linter.unusedVariables false
set_option linter.unusedSimpArgs false
theorem Ah2.same (xs ys : List (List Int)) (h : SmL xs) : ∃ b, Ah2.F (xs, ys, ()) = some ((b, ()), ()) /\ (b = true ↔ xs = ys) := by
 have hn := h.1;by_cases hl : xs.length = ys.length
 . obtain ⟨b, hb, hb'⟩ := A0Y (fun k i => Ah2.l4 k xs ys (i : Int)) xs ys [] hl (fun i hi => by
     obtain ⟨c, hc, hc'⟩ := Ab2.same (xs.getD i []) (ys.getD i []) (h.2 _ (A0z _ hi));exact ⟨c, hc', fun k => by rw [Ah2.l4_eq, if_pos (ltI.2 hi), if_pos (idxI.2 hi), if_pos (idx2 (hl ▸ hi))]; simp only [Int.toNat_natCast, hc, Option.bind_some]; rw [A0y (by omega)]⟩) (fun k => by rw [Ah2.l4_eq, if_neg (by simp)])
   exact ⟨b, Ah2.of _ _ (hb.of_eq fun k => by rw [Ah2.T, if_neg (by simp [hl])]; rfl), hb'⟩
 . exact ⟨false, Ah2.of _ _ ((Ev.const _).of_eq fun k => by rw [Ah2.T, if_pos (by simp; omega)]), by simp; intro e; exact hl (by rw [e])⟩
theorem Ad6.same (xs ys : List (List Int)) (h : SmL xs) : ∃ b, Ad6.F (xs, ys, ()) = some ((b, ()), ()) /\ (b = true ↔ xs = ys) := by
 have hn := h.1;rw [Ad6.eq, Ad6.T]
 suffices ∃ b, Ac5.F (xs, ys, Aa6.cloG (()), ()) = some ((b, ()), ()) /\ (b = true ↔ xs = ys) by
   obtain ⟨b, hb, hb'⟩ := this;rw [hb]; exact ⟨b, rfl, hb'⟩
 by_cases hl : xs.length = ys.length
 . obtain ⟨b, hb, hb'⟩ := A0Y (fun k i => Ac5.l4 k ys (Aa6.cloG (())) xs xs.length (i : Int)) xs ys [] hl (fun i hi => by
     obtain ⟨c, hc, hc'⟩ := Aa6.same (xs.getD i []) (ys.getD i []) (h.2 _ (A0z _ hi));have hc2 : Aa6.cloG (()) (xs.getD i [], ys.getD i [], ()) = some (c, ()) := by
       show (Aa6.F (xs.getD i [], ys.getD i [], ())).map (·.1) = _;rw [hc]; rfl
     exact ⟨c, hc', fun k => by rw [Ac5.l4_eq, if_pos (ltI.2 hi), if_pos (idxI.2 hi), if_pos (idx2 (hl ▸ hi))]; simp only [Int.toNat_natCast, hc2, Option.bind_some]; rw [A0y (by omega)]⟩) (fun k => by rw [Ac5.l4_eq, if_neg (by simp)])
   exact ⟨b, Ac5.of _ _ _ (hb.of_eq fun k => by rw [Ac5.T, if_neg (by simp [hl])]; rfl), hb'⟩
 . exact ⟨false, Ac5.of _ _ _ ((Ev.const _).of_eq fun k => by rw [Ac5.T, if_pos (by simp; omega)]), by simp; intro e; exact hl (by rw [e])⟩
theorem Ak8.same (xs ys : List (List Int)) (h : SmL xs) : ∃ b, Ak8.F (xs, ys, ()) = some ((b, ()), ()) /\ (b = true ↔ xs = ys) := by
 obtain ⟨b, hb, hb'⟩ := Ad6.same xs ys h;rw [Ak8.eq, Ak8.T, hb];exact ⟨b, rfl, hb'⟩
theorem Ai8.val (xs : List ShfV) (f : ShfV × Unit -> Option (Bool × Unit)) (p : ShfV -> Bool) (hf : ∀ x ∈ xs, f (x, ()) = some (p x, ())) (hn : xs.length < 4611686018427387904) :
   ∃ r : Int, Ai8.F (xs, f, ()) = some ((r, ()), ()) /\ (0 ≤ r ↔ xs.any p = true) := by
 have main := Goes.find (R := ((Int × Unit) × Unit)) (L := fun n i => Ai8.l2 n xs f (xs.length : Int) (i : Int)) (M := fun _ => some ((-1, ()), ())) (n := xs.length) 0 (fun i => if p (xs.getD i ([], 0, [], [])) then some i else none) (fun i : Nat => (((i : Int), ()), ())) (fun i _ hi => by
   have E := fun n => Ai8.l2_eq n xs f (xs.length : Int) (i : Int);simp only [if_pos (ltI.2 hi), if_pos (idxI.2 hi), Int.toNat_natCast, hf _ (A0z _ hi), Option.bind_some, A0y (show i < 4611686018427387904 by omega)] at E;cases hp : p (xs.getD i ([], 0, [], [])) with
   | true => exact .inr ⟨i, by simp, (Ev.const _).succ fun n => by rw [E, hp]; rfl⟩
   | false => exact .inl ⟨by simp, Goes.succ fun n => by rw [E, hp]; rfl⟩) (Goes.succ fun n => by rw [Ai8.l2_eq, if_neg (by simp)]) 0 (Nat.le_refl _) (Nat.zero_le _)
 rcases main with ⟨d1, d2⟩ | ⟨i, d1, d2⟩
 . refine ⟨-1, Ai8.of _ _ ((d2 _ (Ev.const _)).of_eq fun n => rfl), ?_⟩;rw [List.findSome?_eq_none_iff] at d1;have : xs.any p = false := by
     rw [List.any_eq_false];intro x hx;obtain ⟨j, hj, rfl⟩ := List.getElem_of_mem hx;have := d1 j (by rw [List.mem_range']; exact ⟨j, by omega, by omega⟩);rw [A0x hj] at this;simpa using this
   simp [this]
 . refine ⟨i, Ai8.of _ _ (d2.of_eq fun n => rfl), ?_⟩;obtain ⟨j, hj, hj2⟩ := List.exists_of_findSome?_eq_some d1;rw [List.mem_range'] at hj;obtain ⟨a, ha, rfl⟩ := hj;split at hj2
   . rename_i hp;refine ⟨fun _ => List.any_eq_true.2 ⟨_, A0z ([], 0, [], []) (show 0 + 1 * a < xs.length by omega), hp⟩, fun _ => by omega⟩
   . cases hj2
theorem Aj3.val (xs : List ShfV) (f : ShfV × Unit -> Option (Bool × Unit)) (p : ShfV -> Bool) (hf : ∀ x ∈ xs, f (x, ()) = some (p x, ())) (hn : xs.length < 4611686018427387904) :
   Aj3.F (xs, f, ()) = some ((xs.any p, ()), ()) := by
 obtain ⟨r, hr, hr'⟩ := Ai8.val xs f p hf hn;rw [Aj3.eq, Aj3.T, hr];simp only [Option.bind_some];have : decide (r ≥ 0) = xs.any p := by
   rw [Bool.eq_iff_iff];simp only [decide_eq_true_eq, ge_iff_le, hr']
 rw [this]
def A0K (a b : ShfV) : Prop := a.1 = b.1 /\ a.2.1 = b.2.1
theorem Ak0.val (a b : ShfV) (h : SmL a.1) : ∃ v, Ak0.F (a, b, ()) = some ((v, ()), ()) /\ (v = true ↔ A0K a b) := by
 obtain ⟨c, p, st, ms⟩ := a;obtain ⟨c', p', st', ms'⟩ := b;obtain ⟨v, hv, hv'⟩ := Ak8.same c c' h;rw [Ak0.eq, Ak0.T, hv];simp only [Option.bind_some, A0K];cases v with
 | false => exact ⟨false, by rw [if_neg (by simp)], by simp only [Bool.false_eq_true, false_iff]; exact fun hh => absurd (hv'.2 hh.1) (by simp)⟩
 | true => exact ⟨_, by rw [if_pos rfl], by simp [hv'.1 rfl]⟩
noncomputable def A3D (a b : ShfV) : Int := @ite _ (A0D a /\ A0D b) (Classical.propDecidable _) (@ite _ (A0K a b) (Classical.propDecidable _) 0 6) 1
theorem pairC_zero {a b : ShfV} : A3D a b = 0 ↔ A0D a /\ A0D b /\ A0K a b := by
 unfold A3D;by_cases h : A0D a /\ A0D b
 . rw [if_pos h];by_cases h2 : A0K a b
   . rw [if_pos h2]; simp [h, h2]
   . rw [if_neg h2]; simp [h2]
 . rw [if_neg h];exact ⟨fun h => by omega, fun hh => absurd ⟨hh.1, hh.2.1⟩ h⟩
theorem Ai4.val (s : ShfV) (hs : SmSh s) : Ai4.cloG (()) (s, ()) = some (@decide (¬ A0D s) (Classical.propDecidable _), ()) := by
 obtain ⟨v, hv, hv'⟩ := Ai3.val s hs;have hT : Ai4.F (s, ()) = Ai4.T s.1 s.2.1 s.2.2.1 s.2.2.2 := Ai4.eq _ _ _ _;have hv : Ai3.F ((s.1, (s.2.1, (s.2.2.1, s.2.2.2))), ()) = _ := hv;show (Ai4.F (s, ())).map (·.1) = _;rw [hT, Ai4.T, hv];simp only [Option.bind_some, Option.map_some];congr 2;cases v with
 | true => simp [hv'.1 rfl]
 | false =>
   have : ¬ A0D s := fun h => absurd (hv'.2 h) (by simp);simp [this]
theorem Ai5.val (s t : ShfV) (l : List ShfV) (hs : SmSh s) : Ai5.cloG (t :: l, ()) (s, ()) = some (@decide (¬ A0K s t) (Classical.propDecidable _), ()) := by
 obtain ⟨v, hv, hv'⟩ := Ak0.val s t hs.1;have hT : Ai5.F (s, t :: l, ()) = Ai5.T s.1 s.2.1 s.2.2.1 s.2.2.2 (t :: l) := Ai5.eq _ _ _ _ _;have hv : Ak0.F ((s.1, (s.2.1, (s.2.2.1, s.2.2.2))), t, ()) = _ := hv;show (Ai5.F (s, t :: l, ())).map (·.1) = _;rw [hT, Ai5.T, if_pos (by simp only [List.length_cons]; omega)];simp only [Int.toNat_zero, List.getD_cons_zero, hv, Option.bind_some, Option.map_some];congr 2;cases v with
 | true => simp [hv'.1 rfl]
 | false =>
   have : ¬ A0K s t := fun h => absurd (hv'.2 h) (by simp);simp [this]
theorem Af7.val (a b : ShfV) (ha : SmSh a) (hb : SmSh b) : Af7.F (a, b, ()) = some ((A3D a b, ()), ()) := by
 have hT : Af7.F (a, b, ()) = Af7.T a.1 a.2.1 a.2.2.1 a.2.2.2 b.1 b.2.1 b.2.2.1 b.2.2.2 := Af7.eq _ _ _ _ _ _ _ _;obtain ⟨v1, h1, h1'⟩ := Aa7.val a ha;obtain ⟨v2, h2, h2'⟩ := Aa7.val b hb;obtain ⟨v3, h3, h3'⟩ := Ah2.same a.1 b.1 ha.1;have h1 : Aa7.F ((a.1, (a.2.1, (a.2.2.1, a.2.2.2))), ()) = _ := h1;have h2 : Aa7.F ((b.1, (b.2.1, (b.2.2.1, b.2.2.2))), ()) = _ := h2;rw [hT, Af7.T, h1];simp only [Option.bind_some];unfold A3D;cases v1 with
 | false => rw [if_pos (by simp), if_neg fun hh => absurd (h1'.2 hh.1) (by simp)]
 | true =>
   rw [if_neg (by simp), h2];simp only [Option.bind_some];cases v2 with
   | false => rw [if_pos (by simp), if_neg fun hh => absurd (h2'.2 hh.2) (by simp)]
   | true =>
     rw [if_neg (by simp), if_pos (show A0D a /\ A0D b from ⟨h1'.1 rfl, h2'.1 rfl⟩), h3];simp only [Option.bind_some];cases v3 with
     | false => rw [if_pos (by simp), if_neg fun hh => absurd (h3'.2 hh.1) (by simp)]
     | true =>
       rw [if_neg (by simp)];by_cases hp : a.2.1 = b.2.1
       . rw [if_neg (by simp [hp]), if_pos ⟨h3'.1 rfl, hp⟩]
       . rw [if_pos (by simp [hp]), if_neg fun hh => hp hh.2]
def A3J (a b : ShfV) (ms : List MatV) (k : Nat) : Prop := MatOk (ms.getD k (0, 0, 0, [])) /\ (ms.getD k (0, 0, 0, [])).1 = a.2.1 /\ (ms.getD k (0, 0, 0, [])).2.1 = b.2.2.1.getD k 0 /\ (ms.getD k (0, 0, 0, [])).2.2.1 = a.2.2.1.getD k 0
def A0t (a b : ShfV) (ms : List MatV) : Prop := ms.length = a.2.2.1.length /\ ∀ k, k < ms.length -> A3J a b ms k
theorem A1D {a b : ShfV} (ha : A0j a) (hb : A0j b) (h : A0K a b) : a.2.2.1.length = a.1.length /\ b.2.2.1.length = a.1.length /\ a.1.length ≤ 48 := ⟨ha.2.2.1.1, by rw [hb.2.2.1.1, h.1], ha.1.1⟩
theorem Ae8.val (a b : ShfV) (ms : List MatV) (ha : A0j a) (hb : A0j b) (hr : A0K a b) (hm : SmMs ms) : ∃ v, Ae8.F (a, b, ms, ()) = some ((v, ()), ()) /\ (v = true ↔ A0t a b ms) := by
 obtain ⟨l1, l2, l3⟩ := A1D ha hb hr;have hml := hm.1;by_cases hl : ms.length = a.2.2.1.length
 . obtain ⟨v, hv, hv'⟩ := Ev.allP (L := fun k i => Ae8.l4 k ms (ms.length : Int) (i : Int) a.1 a.2.1 a.2.2.1 a.2.2.2 b.1 b.2.1 b.2.2.1 b.2.2.2) (a := ()) (b := ()) (n := ms.length) (A3J a b ms) true (fun i hi => by
     have E := fun k => Ae8.l4_eq k ms (ms.length : Int) (i : Int) a.1 a.2.1 a.2.2.1 a.2.2.2 b.1 b.2.1 b.2.2.1 b.2.2.2;have hlm : (ms.getD i (0, 0, 0, [])).2.2.2.length ≤ 1048576 := hm.2 _ (A0z _ hi);obtain ⟨w, hw, hw'⟩ := Ag4.val (ms.getD i (0, 0, 0, [])) a.2.1 (a.2.2.1.getD i 0) (b.2.2.1.getD i 0) (by omega);simp only [if_pos (ltI.2 hi), if_pos (idxI.2 hi), if_pos (idxI.2 (show i < a.2.2.1.length by omega)), if_pos (idxI.2 (show i < b.2.2.1.length by omega)), Int.toNat_natCast, hw, Option.bind_some, A0y (show i < 4611686018427387904 by omega)] at E;cases w with
     | true => exact .inl ⟨hw'.1 rfl, fun k => by rw [E, if_neg (by simp)]⟩
     | false => exact .inr ⟨fun h => absurd (hw'.2 h) (by simp), fun k => by rw [E, if_pos (by simp)]⟩) ((Ev.const _).succ fun k => by rw [Ae8.l4_eq, if_neg (by simp)]) 0 (Nat.zero_le _)
   exact ⟨v, Ae8.of a.1 a.2.1 a.2.2.1 a.2.2.2 b.1 b.2.1 b.2.2.1 b.2.2.2 ms (hv.of_eq fun k => by rw [Ae8.T, if_neg (by simp [hl])]; rfl), hv'.trans ⟨fun ⟨_, h⟩ => ⟨hl, fun k hk => h k (Nat.zero_le _) hk⟩, fun h => ⟨rfl, fun k _ hk => h.2 k hk⟩⟩⟩
 . exact ⟨false, Ae8.of a.1 a.2.1 a.2.2.1 a.2.2.2 b.1 b.2.1 b.2.2.1 b.2.2.2 ms ((Ev.const _).of_eq fun k => by rw [Ae8.T, if_pos (by simp only [bne_iff_ne, ne_eq]; omega)]), by simp only [Bool.false_eq_true, false_iff]; exact fun h => hl h.1⟩
theorem Af8.val (a b : ShfV) (ms : List MatV) (ha : A0j a) (hb : A0j b) (hr : A0K a b) (hm : SmMs ms) : ∃ v, Af8.F (a, b, ms, ()) = some ((v, ()), ()) /\ (v = true ↔ A0t a b ms) := by
 obtain ⟨l1, l2, l3⟩ := A1D ha hb hr;have hml := hm.1;by_cases hl : ms.length = a.2.2.1.length
 . obtain ⟨v, hv, hv'⟩ := Ev.allP (L := fun k i => Af8.l4 k a.1 a.2.1 a.2.2.1 a.2.2.2 b.1 b.2.1 b.2.2.1 b.2.2.2 ms (i : Int)) (a := ()) (b := ()) (n := ms.length) (A3J a b ms) true (fun i hi => by
     have E := fun k => Af8.l4_eq k a.1 a.2.1 a.2.2.1 a.2.2.2 b.1 b.2.1 b.2.2.1 b.2.2.2 ms (i : Int);have hlm : (ms.getD i (0, 0, 0, [])).2.2.2.length ≤ 1048576 := hm.2 _ (A0z _ hi);obtain ⟨w, hw, hw'⟩ := Ah0.val (ms.getD i (0, 0, 0, [])) (by omega);simp only [if_pos (ltI.2 hi), if_pos (idxI.2 hi), if_pos (idxI.2 (show i < a.2.2.1.length by omega)), if_pos (idxI.2 (show i < b.2.2.1.length by omega)), Int.toNat_natCast, hw, Option.bind_some, A0y (show i < 4611686018427387904 by omega)] at E;cases w with
     | false => exact .inr ⟨fun h => absurd (hw'.2 h.1) (by simp), fun k => by rw [E, if_pos (by simp)]⟩
     | true =>
       by_cases e1 : (ms.getD i (0, 0, 0, [])).1 = a.2.1
       . by_cases e2 : (ms.getD i (0, 0, 0, [])).2.2.1 = a.2.2.1.getD i 0
         . by_cases e3 : (ms.getD i (0, 0, 0, [])).2.1 = b.2.2.1.getD i 0
           . exact .inl ⟨⟨hw'.1 rfl, e1, e3, e2⟩, fun k => by rw [E, if_neg (by simp), if_neg (by simp only [bne_iff_ne, ne_eq, Classical.not_not]; exact e1), if_neg (by simp only [bne_iff_ne, ne_eq, Classical.not_not]; exact e2), if_neg (by simp only [bne_iff_ne, ne_eq, Classical.not_not]; exact e3)]⟩
           . exact .inr ⟨fun h => e3 h.2.2.1, fun k => by rw [E, if_neg (by simp), if_neg (by simp only [bne_iff_ne, ne_eq, Classical.not_not]; exact e1), if_neg (by simp only [bne_iff_ne, ne_eq, Classical.not_not]; exact e2), if_pos (by simp only [bne_iff_ne, ne_eq]; exact e3)]⟩
         . exact .inr ⟨fun h => e2 h.2.2.2, fun k => by rw [E, if_neg (by simp), if_neg (by simp only [bne_iff_ne, ne_eq, Classical.not_not]; exact e1), if_pos (by simp only [bne_iff_ne, ne_eq]; exact e2)]⟩
       . exact .inr ⟨fun h => e1 h.2.1, fun k => by rw [E, if_neg (by simp), if_pos (by simp only [bne_iff_ne, ne_eq]; exact e1)]⟩) ((Ev.const _).succ fun k => by rw [Af8.l4_eq, if_neg (by simp)]) 0 (Nat.zero_le _)
   exact ⟨v, Af8.of a.1 a.2.1 a.2.2.1 a.2.2.2 b.1 b.2.1 b.2.2.1 b.2.2.2 ms (hv.of_eq fun k => by rw [Af8.T, if_neg (by simp [hl])]; rfl), hv'.trans ⟨fun ⟨_, h⟩ => ⟨hl, fun k hk => h k (Nat.zero_le _) hk⟩, fun h => ⟨rfl, fun k _ hk => h.2 k hk⟩⟩⟩
 . exact ⟨false, Af8.of a.1 a.2.1 a.2.2.1 a.2.2.2 b.1 b.2.1 b.2.2.1 b.2.2.2 ms ((Ev.const _).of_eq fun k => by rw [Af8.T, if_pos (by simp only [bne_iff_ne, ne_eq]; omega)]), by simp only [Bool.false_eq_true, false_iff]; exact fun h => hl h.1⟩
def wpA (b : ShfV) (ms : List MatV) (k i : Nat) : MatV := mulM (A0A b k i) (ms.getD (fc b.1 k i) (0, 0, 0, []))
def wpB (a : ShfV) (ms : List MatV) (k i : Nat) : MatV := mulM (ms.getD k (0, 0, 0, [])) (A0A a k i)
noncomputable def wpI (a b : ShfV) (ms : List MatV) (k i : Nat) : Option (Nat × Nat) := @ite _ (wpA b ms k i = wpB a ms k i) (Classical.propDecidable _) none (some (k, i))
noncomputable def wpK (a b : ShfV) (ms : List MatV) (k : Nat) : Option (Nat × Nat) := (List.range' 0 ((fcs a.1 k).length - 0)).findSome? (wpI a b ms k)
noncomputable def wpT (a b : ShfV) (ms : List MatV) : Option (Nat × Nat) := (List.range' 0 (a.1.length - 0)).findSome? (wpK a b ms)
structure WpFit (a b : ShfV) (ms : List MatV) (k i f : Nat) : Prop where
 at_ : (fcs a.1 k).getD i 0 = (f : Int)
 lt : f < a.1.length
 mA : Ab7.F (A0A b k i, ms.getD f (0, 0, 0, []), ()) = some ((wpA b ms k i, ()), ())
 mB : Ab7.F (ms.getD k (0, 0, 0, []), A0A a k i, ()) = some ((wpB a ms k i, ()), ())
 tA : Aa1.F (A0A b k i, ms.getD f (0, 0, 0, []), ()) = some ((wpA b ms k i, ()), ())
 tB : Aa1.F (ms.getD k (0, 0, 0, []), A0A a k i, ()) = some ((wpB a ms k i, ()), ())
 okA : MatOk (wpA b ms k i)
 okB : MatOk (wpB a ms k i)
 shape : (wpA b ms k i).1 = (wpB a ms k i).1 /\ (wpA b ms k i).2.1 = (wpB a ms k i).2.1 /\ (wpA b ms k i).2.2.1 = (wpB a ms k i).2.2.1
theorem wpFit {a b : ShfV} {ms : List MatV} (ha : A0j a) (hb : A0j b) (hr : A0K a b) (hp : A0t a b ms) {k i : Nat} (hk : k < a.1.length) (hi : i < (fcs a.1 k).length) : ∃ f, WpFit a b ms k i f := by
 obtain ⟨l1, l2, l3⟩ := A1D ha hb hr;obtain ⟨f, h1, h2, h4, h5, h6⟩ := A3N ha.1 hk hi;have m1 := A1a ha hk hi;have m2 := A1a hb (show k < b.1.length by rw [<- hr.1]; exact hk) (show i < (fcs b.1 k).length by rw [<- hr.1]; exact hi);have hpl := hp.1;have p1 := hp.2 k (by omega);have p2 := hp.2 f (by omega);have hfc : fc b.1 k i = f := by rw [fc, <- hr.1, h1, Int.toNat_natCast]
 have e2 : (fcs b.1 k).getD i 0 = (f : Int) := by rw [<- hr.1]; exact h1
 have q1 : (A0A b k i).1 = (ms.getD f (0, 0, 0, [])).1 := by rw [m2.2.1, p2.2.1, hr.2]
 have q2 : (A0A b k i).2.2.1 = (ms.getD f (0, 0, 0, [])).2.1 := by rw [m2.2.2.2, e2, p2.2.2.1]; rfl
 have q3 : (ms.getD k (0, 0, 0, [])).1 = (A0A a k i).1 := by rw [m1.2.1, p1.2.1]
 have q4 : (ms.getD k (0, 0, 0, [])).2.2.1 = (A0A a k i).2.1 := by rw [m1.2.2.1, p1.2.2.2]
 have eA : wpA b ms k i = mulM (A0A b k i) (ms.getD f (0, 0, 0, [])) := by rw [wpA, hfc]
 refine ⟨f, h1, h2, ?_, Ab7.val _ _ p1.1 m1.1 q3 q4, ?_, Aa1.val _ _ p1.1 m1.1 q3 q4, ?_, A2D p1.1 m1.1, ?_⟩
 . rw [eA]; exact Ab7.val _ _ m2.1 p2.1 q1 q2
 . rw [eA]; exact Aa1.val _ _ m2.1 p2.1 q1 q2
 . rw [eA]; exact A2D m2.1 p2.1
 . rw [eA, wpB];refine ⟨?_, ?_, ?_⟩
   . show (A0A b k i).1 = (ms.getD k (0, 0, 0, [])).1;rw [m2.2.1, p1.2.1, hr.2]
   . show (A0A b k i).2.1 = (ms.getD k (0, 0, 0, [])).2.1;rw [m2.2.2.1, p1.2.2.1]
   . show (ms.getD f (0, 0, 0, [])).2.2.1 = (A0A a k i).2.2.1;rw [m1.2.2.2, p2.2.2.2, h1]; rfl
theorem A4B (c : List (List Int)) : ∀ n (T : Type) (f : Nat -> Nat -> Option T), (List.range' 0 (off c n)).findSome? (fun q => f ((arr c n).getD q (0, 0, 0)).1.toNat ((arr c n).getD q (0, 0, 0)).2.1.toNat) = (List.range' 0 n).findSome? fun k => (List.range' 0 (fcs c k).length).findSome? (f k) := by
 intro n T f;have key : ∀ m, m ≤ n -> (List.range' 0 (off c m)).findSome? (fun q => f ((arr c n).getD q (0, 0, 0)).1.toNat ((arr c n).getD q (0, 0, 0)).2.1.toNat) = (List.range' 0 m).findSome? fun k => (List.range' 0 (fcs c k).length).findSome? (f k) := by
   intro m;induction m with
   | zero => intro _; rfl
   | succ m ih =>
     intro hm;have e1 : List.range' 0 (off c (m + 1)) = List.range' 0 (off c m) ++ List.range' (off c m) (fcs c m).length := by
       rw [off, List.range'_append_1.symm]; simp
     have e2 : List.range' 0 (m + 1) = List.range' 0 m ++ [m] := by rw [List.range'_concat]; simp
     rw [e1, e2, List.findSome?_append, List.findSome?_append, ih (by omega)];congr 1;have e3 : List.range' (off c m) (fcs c m).length = (List.range' 0 (fcs c m).length).map (off c m + ·) := by rw [List.map_add_range']; simp
     rw [e3, List.findSome?_map];simp only [List.findSome?_cons, List.findSome?_nil];have : ∀ l : List Nat, (∀ j ∈ l, j < (fcs c m).length) -> List.findSome? ((fun q => f ((arr c n).getD q (0, 0, 0)).1.toNat ((arr c n).getD q (0, 0, 0)).2.1.toNat) ∘ (off c m + ·)) l = List.findSome? (f m) l := by
       intro l hl;induction l with
       | nil => rfl
       | cons j l ihl =>
         have hj := hl j (by simp);simp only [List.findSome?_cons, Function.comp, A1W c (show m < n by omega) hj, Int.toNat_natCast];rw [show List.findSome? ((fun q => f ((arr c n).getD q (0, 0, 0)).1.toNat ((arr c n).getD q (0, 0, 0)).2.1.toNat) ∘ (off c m + ·)) l = _ from ihl fun j hj => hl j (by simp [hj])]
     rw [this _ fun j hj => by rw [List.mem_range'] at hj; omega];cases List.findSome? (f m) (List.range' 0 (fcs c m).length) <;> rfl
 exact key n (Nat.le_refl _)
theorem A3L {c : List (List Int)} {q : Nat} (h : q < off c c.length) : ∃ k i, k < c.length /\ i < (fcs c k).length /\ (arr c c.length).getD q (0, 0, 0) = ((k : Int), (i : Int), (fcs c k).getD i 0) /\ q = off c k + i := by
 obtain ⟨k, hk, i, hi, rfl⟩ := A2T h;exact ⟨k, i, hk, hi, A1W c hk hi, rfl⟩
theorem Ae2.val (a b : ShfV) (ms : List MatV) (ha : A0j a) (hb : A0j b) (hr : A0K a b) (hp : A0t a b ms) : Ae2.F (a, b, ms, ()) = some ((match wpT a b ms with | none => (0, 0, false, ()) | some (k, i) => ((k : Int), (i : Int), true, ())), ()) := by
 obtain ⟨l1, l2, l3⟩ := A1D ha hb hr;have hpl := hp.1;have hoff := A1B ha.1 (Nat.le_refl a.1.length);have hT : ∀ r, Ev (fun n => Ae2.T n a.1 a.2.1 a.2.2.1 a.2.2.2 b.1 b.2.1 b.2.2.1 b.2.2.2 ms) r -> Ae2.F (a, b, ms, ()) = some r := fun r hr => Ae2.of _ _ _ _ _ _ _ _ _ hr;have har := A0V a.1 a.1.length;have main := Goes.find (R := ((Int × Int × Bool × Unit) × Unit)) (L := fun n q => Ae2.l2 n ms (((arr a.1 a.1.length).length : Nat) : Int) (q : Int) a.1 a.2.1 a.2.2.1 a.2.2.2 b.1 b.2.1 b.2.2.1 b.2.2.2 (arr a.1 a.1.length)) (M := fun _ => some ((0, 0, false, ()), ())) (n := (arr a.1 a.1.length).length) 0
   (fun q => wpI a b ms ((arr a.1 a.1.length).getD q (0, 0, 0)).1.toNat ((arr a.1 a.1.length).getD q (0, 0, 0)).2.1.toNat) (fun t : Nat × Nat => (((t.1 : Int), (t.2 : Int), true, ()), ())) (fun q _ hq => by
   obtain ⟨k, i, hk, hi, e, rfl⟩ := A3L (c := a.1) (q := q) (by omega);obtain ⟨f, F⟩ := wpFit ha hb hr hp hk hi;obtain ⟨v, hv, hv'⟩ := Ag0.same (wpA b ms k i) (wpB a ms k i) F.okA.small;have hkb : k < b.1.length := by rw [<- hr.1]; exact hk
   have hib : i < (fcs b.1 k).length := by rw [<- hr.1]; exact hi
   have o1 := A2z hk hi;have o2 := A2z hkb hib;have z1 := ha.2.2.2.1;have z2 := hb.2.2.2.1;have eo : off b.1 k = off a.1 k := by rw [hr.1]
   have E := fun n => Ae2.l2_eq n ms (((arr a.1 a.1.length).length : Nat) : Int) ((off a.1 k + i : Nat) : Int) a.1 a.2.1 a.2.2.1 a.2.2.2 b.1 b.2.1 b.2.2.1 b.2.2.2 (arr a.1 a.1.length);have mA : Ab7.F (b.2.2.2.getD (off a.1 k + i) (0, 0, 0, []), ms.getD f (0, 0, 0, []), ()) = some ((wpA b ms k i, ()), ()) := by rw [<- eo]; exact F.mA
   have mB : Ab7.F (ms.getD k (0, 0, 0, []), a.2.2.2.getD (off a.1 k + i) (0, 0, 0, []), ()) = _ := F.mB;simp only [if_pos (ltI.2 hq), if_pos (idxI.2 hq), if_pos (idxI.2 (show off a.1 k + i < b.2.2.2.length by omega)), if_pos (idxI.2 (show off a.1 k + i < a.2.2.2.length by omega)), Int.toNat_natCast, e, F.at_, if_pos (idxI.2 (show f < ms.length by have := F.lt; omega)), if_pos (idxI.2 (show k < ms.length by omega)), mA, mB, hv, Option.bind_some, A0y (show off a.1 k + i < 4611686018427387904 by omega)] at E;simp only [e, Int.toNat_natCast];cases v with
   | true => exact .inl ⟨by rw [wpI, if_pos (hv'.1 rfl)], Goes.succ fun n => by rw [E, if_neg (by simp)]⟩
   | false => exact .inr ⟨(k, i), by rw [wpI, if_neg (fun h => absurd (hv'.2 h) (by simp))], (Ev.const _).succ fun n => by rw [E, if_pos (by simp)]⟩) (Goes.succ fun n => by rw [Ae2.l2_eq, if_neg (by simp)]) 0 (Nat.le_refl _) (Nat.zero_le _)
 have e := A4B a.1 a.1.length _ (wpI a b ms);have ew : wpT a b ms = (List.range' 0 ((arr a.1 a.1.length).length - 0)).findSome? (fun q => wpI a b ms ((arr a.1 a.1.length).getD q (0, 0, 0)).1.toNat ((arr a.1 a.1.length).getD q (0, 0, 0)).2.1.toNat) := by
   rw [har, Nat.sub_zero, e]; rfl
 have ha1 := Ac1.val a.1 ha.1;rcases main with ⟨d1, d2⟩ | ⟨⟨k, i⟩, d1, d2⟩
 . rw [ew, d1];exact hT _ ((d2 _ (Ev.const _)).of_eq fun n => by rw [Ae2.T, ha1]; rfl)
 . rw [ew, d1];exact hT _ (d2.of_eq fun n => by rw [Ae2.T, ha1]; rfl)
theorem Ac8.val (a b : ShfV) (ms : List MatV) (ha : A0j a) (hb : A0j b) (hr : A0K a b) (hp : A0t a b ms) : Ac8.F (a, b, ms, ()) = some ((match wpT a b ms with | none => (-1, -1, ()) | some (k, i) => ((k : Int), (i : Int), ())), ()) := by
 obtain ⟨l1, l2, l3⟩ := A1D ha hb hr;have hpl := hp.1;have hT : ∀ r, Ev (fun n => Ac8.T n a.1 a.2.1 a.2.2.1 a.2.2.2 b.1 b.2.1 b.2.2.1 b.2.2.2 ms) r -> Ac8.F (a, b, ms, ()) = some r := fun r hr => Ac8.of _ _ _ _ _ _ _ _ _ hr;have main := Goes.find (R := ((Int × Int × Unit) × Unit)) (L := fun n k => Ac8.l2 n a.1 a.2.1 a.2.2.1 a.2.2.2 b.1 b.2.1 b.2.2.1 b.2.2.2 ms (k : Int)) (M := fun _ => some ((-1, -1, ()), ())) (n := a.1.length) 0 (wpK a b ms) (fun t : Nat × Nat => (((t.1 : Int), (t.2 : Int), ()), ())) (fun k _ hk => by
   have e0 : Goes (fun n => Ac8.l2 n a.1 a.2.1 a.2.2.1 a.2.2.2 b.1 b.2.1 b.2.2.1 b.2.2.2 ms (k : Int)) (fun n => Ac8.l6 n a.1 a.2.1 a.2.2.1 a.2.2.2 b.1 b.2.1 b.2.2.1 b.2.2.2 ms (k : Int) ((0 : Nat) : Int) (fcs a.1 k)) := Goes.succ fun n => by rw [Ac8.l2_eq, if_pos (by simp; omega), Ab4.val a.1 ha.1 k hk]; rfl
   have f4 : (fcs a.1 k).length ≤ 4 := by have := A1Y ha.1 hk; simp only [fcs, List.length_map]; exact this
   have inner := Goes.find (R := ((Int × Int × Unit) × Unit)) (L := fun n i => Ac8.l6 n a.1 a.2.1 a.2.2.1 a.2.2.2 b.1 b.2.1 b.2.2.1 b.2.2.2 ms (k : Int) (i : Int) (fcs a.1 k)) (M := fun n => Ac8.l2 n a.1 a.2.1 a.2.2.1 a.2.2.2 b.1 b.2.1 b.2.2.1 b.2.2.2 ms ((k + 1 : Nat) : Int)) (n := (fcs a.1 k).length) 0 (wpI a b ms k) (fun t : Nat × Nat => (((t.1 : Int), (t.2 : Int), ()), ())) (fun i _ hi => by
     obtain ⟨f, F⟩ := wpFit ha hb hr hp hk hi;have hkb : k < b.1.length := by rw [<- hr.1]; exact hk
     have hib : i < (fcs b.1 k).length := by rw [<- hr.1]; exact hi
     obtain ⟨v, hv, hv'⟩ := Ab2.same (wpA b ms k i).2.2.2 (wpB a ms k i).2.2.2 F.okA.small;have hvm : v = true ↔ wpA b ms k i = wpB a ms k i := hv'.trans ⟨fun h => Prod.ext F.shape.1 (Prod.ext F.shape.2.1 (Prod.ext F.shape.2.2 h)), fun h => by rw [h]⟩;have g1 : Aa5.F ((b.1, (b.2.1, (b.2.2.1, b.2.2.2))), (k : Int), (i : Int), ()) = _ := Aa5.val b hb k i hkb hib;have g2 : Aa5.F ((a.1, (a.2.1, (a.2.2.1, a.2.2.2))), (k : Int), (i : Int), ()) = _ := Aa5.val a ha k i hk hi;have E := fun n => Ac8.l6_eq n a.1 a.2.1 a.2.2.1 a.2.2.2 b.1 b.2.1 b.2.2.1 b.2.2.2 ms (k : Int) (i : Int) (fcs a.1 k);simp only [if_pos (ltI.2 hi), if_pos (idxI.2 hi), g1, g2, Option.bind_some, Int.toNat_natCast, F.at_, if_pos (idxI.2 (show f < ms.length by have := F.lt; omega)), if_pos (idxI.2 (show k < ms.length by omega)), F.tA, F.tB, hv, A0y (show i < 4611686018427387904 by omega)] at E;cases v with
     | true => exact .inl ⟨by rw [wpI, if_pos (hvm.1 rfl)], Goes.succ fun n => by rw [E, if_neg (by simp)]⟩
     | false => exact .inr ⟨(k, i), by rw [wpI, if_neg (fun h => absurd (hvm.2 h) (by simp))], (Ev.const _).succ fun n => by rw [E, if_pos (by simp)]⟩) (Goes.succ fun n => by rw [Ac8.l6_eq, if_neg (by simp), A0y (by omega)]) 0 (Nat.le_refl _) (Nat.zero_le _)
   rcases inner with ⟨d1, d2⟩ | ⟨r, d1, d2⟩
   . exact .inl ⟨d1, e0.trans d2⟩
   . exact .inr ⟨r, d1, e0 _ d2⟩) (Goes.succ fun n => by rw [Ac8.l2_eq, if_neg (by simp; omega)]) 0 (Nat.le_refl _) (Nat.zero_le _)
 rcases main with ⟨d1, d2⟩ | ⟨⟨k, i⟩, d1, d2⟩
 . rw [wpT, d1];exact hT _ ((d2 _ (Ev.const _)).of_eq fun n => rfl)
 . rw [wpT, d1];exact hT _ (d2.of_eq fun n => rfl)
def A1E (a b : ShfV) (ms : List MatV) : Prop := A0t a b ms /\ wpT a b ms = none
theorem Af0.val (a b : ShfV) (ms : List MatV) (ha : A0j a) (hb : A0j b) (hr : A0K a b) (hm : SmMs ms) : ∃ v, Af0.F (a, b, ms, ()) = some ((v, ()), ()) /\ (v = true ↔ A1E a b ms) := by
 have hT : Af0.F (a, b, ms, ()) = Af0.T a.1 a.2.1 a.2.2.1 a.2.2.2 b.1 b.2.1 b.2.2.1 b.2.2.2 ms := Af0.eq _ _ _ _ _ _ _ _ _;obtain ⟨v, hv, hv'⟩ := Ae8.val a b ms ha hb hr hm;have hv : Ae8.F ((a.1, (a.2.1, (a.2.2.1, a.2.2.2))), (b.1, (b.2.1, (b.2.2.1, b.2.2.2))), ms, ()) = _ := hv;rw [hT, Af0.T, hv];simp only [Option.bind_some];cases v with
 | false => exact ⟨false, by rw [if_pos (by simp)], by simp only [Bool.false_eq_true, false_iff]; exact fun h => absurd (hv'.2 h.1) (by simp)⟩
 | true =>
   have hp := hv'.1 rfl;have hw : Ae2.F ((a.1, (a.2.1, (a.2.2.1, a.2.2.2))), (b.1, (b.2.1, (b.2.2.1, b.2.2.2))), ms, ()) = _ := Ae2.val a b ms ha hb hr hp;rw [if_neg (by simp), hw];simp only [Option.bind_some];cases hwp : wpT a b ms with
   | none => exact ⟨true, by simp, by simp [A1E, hp, hwp]⟩
   | some t => obtain ⟨k, i⟩ := t; exact ⟨false, by simp, by simp [A1E, hwp]⟩
theorem Af6.val (a b : ShfV) (ms : List MatV) (ha : A0j a) (hb : A0j b) (hr : A0K a b) (hm : SmMs ms) : ∃ v, Af6.F (a, b, ms, ()) = some ((v, ()), ()) /\ (v = true ↔ A1E a b ms) := by
 have hT : Af6.F (a, b, ms, ()) = Af6.T a.1 a.2.1 a.2.2.1 a.2.2.2 b.1 b.2.1 b.2.2.1 b.2.2.2 ms := Af6.eq _ _ _ _ _ _ _ _ _;obtain ⟨v, hv, hv'⟩ := Af8.val a b ms ha hb hr hm;have hv : Af8.F ((a.1, (a.2.1, (a.2.2.1, a.2.2.2))), (b.1, (b.2.1, (b.2.2.1, b.2.2.2))), ms, ()) = _ := hv;rw [hT, Af6.T, hv];simp only [Option.bind_some];cases v with
 | false => exact ⟨false, by rw [if_pos (by simp)], by simp only [Bool.false_eq_true, false_iff]; exact fun h => absurd (hv'.2 h.1) (by simp)⟩
 | true =>
   have hp := hv'.1 rfl;have hw : Ac8.F ((a.1, (a.2.1, (a.2.2.1, a.2.2.2))), (b.1, (b.2.1, (b.2.2.1, b.2.2.2))), ms, ()) = _ := Ac8.val a b ms ha hb hr hp;rw [if_neg (by simp), hw];simp only [Option.bind_some];cases hwp : wpT a b ms with
   | none => exact ⟨true, by simp, by simp [A1E, hp, hwp]⟩
   | some t => obtain ⟨k, i⟩ := t; exact ⟨false, by simp, by simp [A1E, hwp]⟩
theorem Ab8.val (xs : List Int) (h : xs.length ≤ 1099511627776) : Ab8.F (xs, ()) = some ((xs, ()), ()) := by
 refine Ab8.of xs ?_;have := Goes.fill (L := fun k i ys => Ab8.l3 k xs (i : Int) ys) xs 0 (fun k i ys hi hy => by
   rw [Ab8.l3_eq, if_pos (ltI.2 hi), if_pos (idxI.2 hi), if_pos (by omega), A0y (by omega)];simp only [Int.toNat_natCast]) (List.replicate xs.length 0) (by simp)
 refine Ev.of_eq (this _ ((Ev.const _).succ fun k => ?_)) fun k => ?_
 . rw [Ab8.l3_eq, if_neg (by simp)]
 . rw [Ab8.T, if_pos (by simp only [bigN]; omega)]; rfl
theorem Ab3.val (xs ys : List Int) (hn : xs.length < 4611686018427387904) : ∃ b, Ab3.F (xs, ys, ()) = some ((b, ()), ()) /\ (b = true ↔ xs = ys) := by
 by_cases hl : xs.length = ys.length
 . obtain ⟨b, hb, hb'⟩ := Ev.all (L := fun k i => Ab3.l4 k xs ys (i : Int)) (a := ()) (b := ()) (n := xs.length) (fun i => xs.getD i 0 == ys.getD i 0) (fun k i hi => by
     rw [Ab3.l4_eq, if_pos (ltI.2 hi), if_pos (idxI.2 hi), if_pos (by omega), A0y (by omega)];simp only [Int.toNat_natCast];exact ite_nb _ _ _) (fun k => by rw [Ab3.l4_eq, if_neg (by simp)]) 0 (Nat.zero_le _)
   refine ⟨b, Ab3.of _ _ (hb.of_eq fun k => ?_), by rw [hb', all_eq hl (fun x y => x == y) (by simp)]⟩;rw [Ab3.T, if_neg (by simp [hl])];rfl
 . refine ⟨false, Ab3.of _ _ ((Ev.const _).of_eq fun k => ?_), by simp; intro e; exact hl (by rw [e])⟩;rw [Ab3.T, if_pos (by simp; omega)]
theorem Ad3.val (xs : List Int) (l : Int) (h0 : 0 ≤ l) (h1 : l ≤ 1048576) (hx : xs.length ≤ maxLen) : ∃ r, Ad3.F (xs, l, ()) = some ((r, ()), ()) /\ (r = -1 ∨ 0 ≤ r /\ r ≤ l /\ Sm xs) := by
 have : xs.length ≤ 9223372036854775807 := hx;rw [Ad3.eq, Ad3.T, A0w (by omega) (by omega)];by_cases h : l < xs.length
 . exact ⟨-1, by rw [if_pos (by simp; omega)], .inl rfl⟩
 . exact ⟨_, by rw [if_neg (by simp; omega)], .inr ⟨by omega, by omega, by unfold Sm; omega⟩⟩
theorem Ag7.val (xs : List (List Int)) (l : Int) (h0 : 0 ≤ l) (h1 : l ≤ 1048576) (hx : xs.length ≤ maxLen) (hr : ∀ x ∈ xs, x.length ≤ maxLen) : ∃ r, Ag7.F (xs, l, ()) = some ((r, ()), ()) /\ (r = -1 ∨ 0 ≤ r /\ r ≤ l /\ SmL xs) := by
 have : xs.length ≤ 9223372036854775807 := hx;by_cases h : l < xs.length
 . exact ⟨-1, Ag7.of _ _ ((Ev.const _).of_eq fun k => by rw [Ag7.T, A0w (by omega) (by omega), if_pos (by simp; omega)]), .inl rfl⟩
 obtain ⟨r, hv, h2⟩ := A3o (fun k i s => Ag7.l5 k xs s (i : Int)) xs [] Sm (fun i s hi s0 s1 => by
   have E := fun k => Ag7.l5_eq k xs s (i : Int);obtain ⟨r, hr1, hr2⟩ := Ad3.val (xs.getD i []) s s0 s1 (hr _ (A0z _ hi));simp only [if_pos (ltI.2 hi), if_pos (idxI.2 hi), Int.toNat_natCast, hr1, Option.bind_some, A0y (show i < 4611686018427387904 by omega)] at E;rcases hr2 with rfl | ⟨a, b, c⟩
   . exact .inr fun k => by rw [E, if_pos (by simp)]
   . exact .inl ⟨r, a, b, c, fun k => by rw [E, if_neg (by simp; omega)]⟩) (fun k l => by rw [Ag7.l5_eq, if_neg (by simp)]) (l - xs.length) (by omega) (by omega)
 refine ⟨r, Ag7.of _ _ (hv.of_eq fun k => by rw [Ag7.T, A0w (by omega) (by omega), if_neg (by simp; omega)]; rfl), ?_⟩;rcases h2 with h2 | ⟨a, b, c⟩
 . exact .inl h2
 . exact .inr ⟨a, by omega, by omega, c⟩
theorem Al7.val (xs : List (List Int)) (l : Int) (h0 : 0 ≤ l) (h1 : l ≤ 1048576) (hx : xs.length ≤ maxLen) (hr : ∀ x ∈ xs, x.length ≤ maxLen) : ∃ r, Al7.F (xs, l, ()) = some ((r, ()), ()) /\ (r = -1 ∨ 0 ≤ r /\ r ≤ l /\ SmL xs) := by
 obtain ⟨r, h2, h3⟩ := Ag7.val xs l h0 h1 hx hr;rw [Al7.eq, Al7.T, h2];simp only [Option.bind_some];rcases h3 with rfl | ⟨a, b, c⟩
 . exact ⟨-1, by rw [if_pos (by simp)], .inl rfl⟩
 . exact ⟨r, by rw [if_neg (by simp; omega)], .inr ⟨a, b, c⟩⟩
theorem Ai6.val (xs : List (List Int)) (h : SmL xs) : Ai6.F (xs, ()) = some ((xs, ()), ()) := by
 have hl := h.1;refine Ai6.of xs ?_;have := Goes.fill (L := fun k i ys => Ai6.l3 k xs (i : Int) ys) xs [] (fun k i ys hi hy => by
   have hs : (xs.getD i []).length ≤ 1048576 := h.2 _ (A0z _ hi);rw [Ai6.l3_eq, if_pos (ltI.2 hi), if_pos (idxI.2 hi)];simp only [Int.toNat_natCast, Ab8.val (xs.getD i []) (by omega), Option.bind_some];rw [if_pos (by omega), A0y (by omega)]) (List.replicate xs.length []) (by simp)
 refine Ev.of_eq (this _ ((Ev.const _).succ fun k => ?_)) fun k => ?_
 . rw [Ai6.l3_eq, if_neg (by simp)]
 . rw [Ai6.T, if_pos (by simp only [bigN]; omega)]; rfl
theorem Al9.val (xs : List (List Int)) (h : SmL xs) : Al9.F (xs, ()) = some ((xs, ()), ()) := by
 rw [Al9.eq, Al9.T, Ai6.val xs h]; rfl
theorem Ag6.same (xs ys : List (List Int)) (h : SmL xs) : ∃ b, Ag6.F (xs, ys, ()) = some ((b, ()), ()) /\ (b = true ↔ xs = ys) := by
 have hn := h.1;by_cases hl : xs.length = ys.length
 . obtain ⟨b, hb, hb'⟩ := A0Y (fun k i => Ag6.l4 k xs ys (i : Int)) xs ys [] hl (fun i hi => by
     have hs : (xs.getD i []).length ≤ 1048576 := h.2 _ (A0z _ hi);obtain ⟨c, hc, hc'⟩ := Ab3.val (xs.getD i []) (ys.getD i []) (by omega);exact ⟨c, hc', fun k => by rw [Ag6.l4_eq, if_pos (ltI.2 hi), if_pos (idxI.2 hi), if_pos (idx2 (hl ▸ hi))]; simp only [Int.toNat_natCast, hc, Option.bind_some]; rw [A0y (by omega)]⟩) (fun k => by rw [Ag6.l4_eq, if_neg (by simp)])
   exact ⟨b, Ag6.of _ _ (hb.of_eq fun k => by rw [Ag6.T, if_neg (by simp [hl])]; rfl), hb'⟩
 . exact ⟨false, Ag6.of _ _ ((Ev.const _).of_eq fun k => by rw [Ag6.T, if_pos (by simp; omega)]), by simp; intro e; exact hl (by rw [e])⟩
theorem Al5.same (xs ys : List (List Int)) (h : SmL xs) : ∃ b, Al5.F (xs, ys, ()) = some ((b, ()), ()) /\ (b = true ↔ xs = ys) := by
 obtain ⟨b, hb, hb'⟩ := Ag6.same xs ys h;rw [Al5.eq, Al5.T, hb];exact ⟨b, by cases b <;> rfl, hb'⟩
theorem Al8.val (m : MatV) (l : Int) (h0 : 0 ≤ l) (h1 : l ≤ 1048576) (hx : m.2.2.2.length ≤ maxLen) : ∃ r, Al8.F (m, l, ()) = some ((r, ()), ()) /\ (r = -1 ∨ 0 ≤ r /\ r ≤ l /\ SmM m) := by
 obtain ⟨a, b, c, xs⟩ := m;obtain ⟨r, h2, h3⟩ := Ad3.val xs l h0 h1 hx;rw [Al8.eq, Al8.T, h2];simp only [Option.bind_some];rcases h3 with rfl | ⟨a, b, c⟩
 . exact ⟨-1, by rw [if_pos (by simp)], .inl rfl⟩
 . exact ⟨r, by rw [if_neg (by simp; omega)], .inr ⟨a, b, c⟩⟩
theorem Ac4.val (xs : List MatV) (l : Int) (h0 : 0 ≤ l) (h1 : l ≤ 1048576) (hx : xs.length ≤ maxLen) (hr : ∀ x ∈ xs, x.2.2.2.length ≤ maxLen) : ∃ r, Ac4.F (xs, l, ()) = some ((r, ()), ()) /\ (r = -1 ∨ 0 ≤ r /\ r ≤ l /\ SmMs xs) := by
 have : xs.length ≤ 9223372036854775807 := hx;by_cases h : l < xs.length
 . exact ⟨-1, Ac4.of _ _ ((Ev.const _).of_eq fun k => by rw [Ac4.T, A0w (by omega) (by omega), if_pos (by simp; omega)]), .inl rfl⟩
 obtain ⟨r, hv, h2⟩ := A3o (fun k i s => Ac4.l5 k xs s (i : Int)) xs (0, 0, 0, []) SmM (fun i s hi s0 s1 => by
   have E := fun k => Ac4.l5_eq k xs s (i : Int);obtain ⟨r, hr1, hr2⟩ := Al8.val (xs.getD i (0, 0, 0, [])) s s0 s1 (hr _ (A0z _ hi));simp only [if_pos (ltI.2 hi), if_pos (idxI.2 hi), Int.toNat_natCast, hr1, Option.bind_some, A0y (show i < 4611686018427387904 by omega)] at E;rcases hr2 with rfl | ⟨a, b, c⟩
   . exact .inr fun k => by rw [E, if_pos (by simp)]
   . exact .inl ⟨r, a, b, c, fun k => by rw [E, if_neg (by simp; omega)]⟩) (fun k l => by rw [Ac4.l5_eq, if_neg (by simp)]) (l - xs.length) (by omega) (by omega)
 refine ⟨r, Ac4.of _ _ (hv.of_eq fun k => by rw [Ac4.T, A0w (by omega) (by omega), if_neg (by simp; omega)]; rfl), ?_⟩;rcases h2 with h2 | ⟨a, b, c⟩
 . exact .inl h2
 . exact .inr ⟨a, by omega, by omega, c⟩
theorem Am0.val (m : MatV) (h : SmM m) : Am0.F (m, ()) = some ((m, ()), ()) := by
 obtain ⟨a, b, c, xs⟩ := m;have hs : xs.length ≤ 1048576 := h;rw [Am0.eq, Am0.T, Ab8.val xs (by omega)]; rfl
theorem Ab5.val (xs : List MatV) (h : SmMs xs) : Ab5.F (xs, ()) = some ((xs, ()), ()) := by
 have hl := h.1;refine Ab5.of xs ?_;have := Goes.fill (L := fun k i ys => Ab5.l3 k xs (i : Int) ys) xs (0, 0, 0, []) (fun k i ys hi hy => by
   rw [Ab5.l3_eq, if_pos (ltI.2 hi), if_pos (idxI.2 hi)];simp only [Int.toNat_natCast, Am0.val _ (h.2 _ (A0z (0, 0, 0, []) hi)), Option.bind_some];rw [if_pos (by omega), A0y (by omega)]) (List.replicate xs.length (0, 0, 0, [])) (by simp)
 refine Ev.of_eq (this _ ((Ev.const _).succ fun k => ?_)) fun k => ?_
 . rw [Ab5.l3_eq, if_neg (by simp)]
 . rw [Ab5.T, if_pos (by simp only [bigN]; omega)]; rfl
theorem Al6.same (m n : MatV) (h : SmM m) : ∃ b, Al6.F (m, n, ()) = some ((b, ()), ()) /\ (b = true ↔ m = n) := by
 obtain ⟨a, b, c, xs⟩ := m;obtain ⟨a', b', c', ys⟩ := n;have hs : xs.length ≤ 1048576 := h;obtain ⟨e, he, he'⟩ := Ab3.val xs ys (by omega);rw [Al6.eq, Al6.T, he];simp only [Option.bind_some, Prod.mk.injEq];by_cases h1 : a = a'
 . by_cases h2 : b = b'
   . by_cases h3 : c = c'
     . rw [if_neg (by simp [h1]), if_neg (by simp [h2]), if_neg (by simp [h3])];exact ⟨e, by cases e <;> rfl, by simp [h1, h2, h3, he']⟩
     . exact ⟨false, by rw [if_neg (by simp [h1]), if_neg (by simp [h2]), if_pos (by simp [h3])], by simp [h3]⟩
   . exact ⟨false, by rw [if_neg (by simp [h1]), if_pos (by simp [h2])], by simp [h2]⟩
 . exact ⟨false, by rw [if_pos (by simp [h1])], by simp [h1]⟩
theorem Ac3.same (xs ys : List MatV) (h : SmMs xs) : ∃ b, Ac3.F (xs, ys, ()) = some ((b, ()), ()) /\ (b = true ↔ xs = ys) := by
 have hn := h.1;by_cases hl : xs.length = ys.length
 . obtain ⟨b, hb, hb'⟩ := A0Y (fun k i => Ac3.l4 k xs ys (i : Int)) xs ys (0, 0, 0, []) hl (fun i hi => by
     obtain ⟨c, hc, hc'⟩ := Al6.same (xs.getD i (0, 0, 0, [])) (ys.getD i (0, 0, 0, [])) (h.2 _ (A0z _ hi));exact ⟨c, hc', fun k => by rw [Ac3.l4_eq, if_pos (ltI.2 hi), if_pos (idxI.2 hi), if_pos (idx2 (hl ▸ hi))]; simp only [Int.toNat_natCast, hc, Option.bind_some]; rw [A0y (by omega)]⟩) (fun k => by rw [Ac3.l4_eq, if_neg (by simp)])
   exact ⟨b, Ac3.of _ _ (hb.of_eq fun k => by rw [Ac3.T, if_neg (by simp [hl])]; rfl), hb'⟩
 . exact ⟨false, Ac3.of _ _ ((Ev.const _).of_eq fun k => by rw [Ac3.T, if_pos (by simp; omega)]), by simp; intro e; exact hl (by rw [e])⟩
theorem A3f {s : ShfV} (h : wfT (.pair (.sl (.sl (.int .i64))) (.pair (.int .i64) (.pair (.sl (.int .i64)) (.sl (.pair (.int .i64) (.pair (.int .i64) (.pair (.int .i64) (.sl (.int .i64))))))))) s) : s.1.length ≤ maxLen /\ (∀ x ∈ s.1, x.length ≤ maxLen) /\ s.2.2.1.length ≤ maxLen /\ s.2.2.2.length ≤ maxLen /\ ∀ x ∈ s.2.2.2, x.2.2.2.length ≤ maxLen := by
 obtain ⟨a, p, b, c⟩ := s;obtain ⟨⟨h1, h2⟩, _, ⟨h3, _⟩, h4, h5⟩ := h;exact ⟨h1, fun x hx => (h2 x hx).1, h3, h4, fun x hx => (h5 x hx).2.2.2.1⟩
theorem Ae3.val (s : ShfV) (l : Int) (h0 : 0 ≤ l) (h1 : l ≤ 1048576) (w1 : s.1.length ≤ maxLen) (w2 : ∀ x ∈ s.1, x.length ≤ maxLen) (w3 : s.2.2.1.length ≤ maxLen) (w4 : s.2.2.2.length ≤ maxLen) (w5 : ∀ x ∈ s.2.2.2, x.2.2.2.length ≤ maxLen) : ∃ r, Ae3.F (s, l, ()) = some ((r, ()), ()) /\ (r = -1 ∨ 0 ≤ r /\ r ≤ l /\ SmSh s) := by
 obtain ⟨a, p, b, c⟩ := s;obtain ⟨r1, e1, k1⟩ := Al7.val a l h0 h1 w1 w2;rw [Ae3.eq, Ae3.T, e1];simp only [Option.bind_some];rcases k1 with rfl | ⟨a1, b1, c1⟩
 . exact ⟨-1, by rw [if_pos (by simp)], .inl rfl⟩
 rw [if_neg (by simp; omega)];obtain ⟨r2, e2, k2⟩ := Ad3.val b r1 a1 (by omega) w3;rw [e2];simp only [Option.bind_some];rcases k2 with rfl | ⟨a2, b2, c2⟩
 . exact ⟨-1, by rw [if_pos (by simp)], .inl rfl⟩
 rw [if_neg (by simp; omega)];obtain ⟨r3, e3, k3⟩ := Ac4.val c r2 a2 (by omega) w4 w5;rw [e3];simp only [Option.bind_some];rcases k3 with rfl | ⟨a3, b3, c3⟩
 . exact ⟨-1, by rw [if_pos (by simp)], .inl rfl⟩
 exact ⟨r3, by rw [if_neg (by simp; omega)], .inr ⟨a3, by omega, c1, c2, c3⟩⟩
theorem Ab9.val (s : ShfV) (h : SmSh s) : Ab9.F (s, ()) = some ((s, ()), ()) := by
 obtain ⟨a, p, b, c⟩ := s;obtain ⟨h1, h2, h3⟩ := h;have h2' : b.length ≤ 1048576 := h2;rw [Ab9.eq, Ab9.T, Al9.val a h1, Ab8.val b (by omega), Ab5.val c h3]; rfl
theorem Ah9.same (s t : ShfV) (h : SmSh s) : ∃ b, Ah9.F (s, t, ()) = some ((b, ()), ()) /\ (b = true ↔ s = t) := by
 obtain ⟨a, p, b, c⟩ := s;obtain ⟨a', p', b', c'⟩ := t;obtain ⟨h1, h2, h3⟩ := h;have h2' : b.length ≤ 1048576 := h2;obtain ⟨v1, e1, k1⟩ := Al5.same a a' h1;obtain ⟨v2, e2, k2⟩ := Ab3.val b b' (by omega);obtain ⟨v3, e3, k3⟩ := Ac3.same c c' h3;rw [Ah9.eq, Ah9.T, e1, e2, e3];simp only [Option.bind_some, Prod.mk.injEq];by_cases hp : p = p'
 . rw [show (p != p') = false by simp [hp]];refine ⟨v1 && v2 && v3, by cases v1 <;> cases v2 <;> cases v3 <;> rfl, ?_⟩;simp only [Bool.and_eq_true, k1, k2, k3, hp, true_and, and_assoc]
 . rw [show (p != p') = true by simp [hp]];exact ⟨false, by cases v1 <;> rfl, by simp [hp]⟩
noncomputable def A0Z (a b c : ShfV) : Int := @ite _ (A0D a /\ A0D b /\ A0D c) (Classical.propDecidable _) (@ite _ (A0K a b /\ A0K b c) (Classical.propDecidable _) 0 6) 1
theorem threeC_zero {a b c : ShfV} : A0Z a b c = 0 ↔ (A0D a /\ A0D b /\ A0D c) /\ A0K a b /\ A0K b c := by
 unfold A0Z;by_cases h : A0D a /\ A0D b /\ A0D c
 . rw [if_pos h];by_cases h2 : A0K a b /\ A0K b c
   . rw [if_pos h2]; simp [h, h2]
   . rw [if_neg h2];exact ⟨fun h => by omega, fun hh => absurd hh.2 h2⟩
 . rw [if_neg h];exact ⟨fun h => by omega, fun hh => absurd hh.1 h⟩
theorem Aj9.val3 (a b c : ShfV) (ha : SmSh a) (hb : SmSh b) (hc : SmSh c) : Aj9.F ([a, b, c], ()) = some ((A0Z a b c, ()), ()) := by
 have hm : ∀ x ∈ [a, b, c], SmSh x := fun x hx => by simp at hx; rcases hx with rfl | rfl | rfl <;> assumption
 have h1 := Aj3.val [a, b, c] (Ai4.cloG (())) (fun s => @decide (¬ A0D s) (Classical.propDecidable _)) (fun x hx => Ai4.val x (hm x hx)) (by simp);have h2 := Aj3.val [a, b, c] (Ai5.cloG ([a, b, c], ())) (fun s => @decide (¬ A0K s a) (Classical.propDecidable _)) (fun x hx => Ai5.val x a [b, c] (hm x hx)) (by simp);have haa : A0K a a := ⟨rfl, rfl⟩;rw [Aj9.eq, Aj9.T, h1, h2];simp only [Option.bind_some, A0Z, List.any_cons, List.any_nil, Bool.or_false, Bool.or_eq_true, decide_eq_true_eq];by_cases h : A0D a /\ A0D b /\ A0D c
 . rw [if_neg (by simp [h.1, h.2.1, h.2.2]), if_pos h];by_cases hr : A0K a b /\ A0K b c
   . have r1 : A0K b a := ⟨hr.1.1.symm, hr.1.2.symm⟩;have r2 : A0K c a := ⟨(hr.1.1.trans hr.2.1).symm, (hr.1.2.trans hr.2.2).symm⟩;rw [if_neg (by simp [haa, r1, r2]), if_pos hr]
   . rw [if_pos (by
       by_cases r1 : A0K b a
       . by_cases r2 : A0K c a
         . exact absurd ⟨⟨r1.1.symm, r1.2.symm⟩, ⟨r1.1.trans r2.1.symm, r1.2.trans r2.2.symm⟩⟩ hr
         . simp [r2]
       . simp [r1]), if_neg hr]
 . rw [if_pos (by
     by_cases h1 : A0D a
     . by_cases h2 : A0D b
       . have h3 : ¬ A0D c := fun h3 => h ⟨h1, h2, h3⟩;simp [h3]
       . simp [h2]
     . simp [h1]), if_neg h]
noncomputable def A0s (a b c : ShfV) (f g : List MatV) : Int := if A0Z a b c ≠ 0 then A0Z a b c else @ite _ (A1E a b f /\ A1E b c g) (Classical.propDecidable _) 0 7
theorem A2m {a b c : ShfV} {f g : List MatV} (h : A0s a b c f g = 0) : ((A0D a /\ A0D b /\ A0D c) /\ A0K a b /\ A0K b c) /\ A1E a b f /\ A1E b c g := by
 unfold A0s at h;by_cases h0 : A0Z a b c = 0
 . rw [if_neg (by simp [h0])] at h;by_cases hm : A1E a b f /\ A1E b c g
   . exact ⟨threeC_zero.1 h0, hm⟩
   . rw [if_neg hm] at h; omega
 . rw [if_pos h0] at h; exact absurd h h0
theorem Ai9.val (a b c : ShfV) (f g : List MatV) (ha : SmSh a) (hb : SmSh b) (hc : SmSh c) (hf : SmMs f) (hg : SmMs g) : Ai9.F (a, b, c, f, g, ()) = some ((A0s a b c f g, ()), ()) := by
 have hT : Ai9.F (a, b, c, f, g, ()) = Ai9.T a.1 a.2.1 a.2.2.1 a.2.2.2 b.1 b.2.1 b.2.2.1 b.2.2.2 c.1 c.2.1 c.2.2.1 c.2.2.2 f g := Ai9.eq _ _ _ _ _ _ _ _ _ _ _ _ _ _;obtain ⟨v1, h1, h1'⟩ := Aa7.val a ha;obtain ⟨v2, h2, h2'⟩ := Aa7.val b hb;obtain ⟨v3, h3, h3'⟩ := Aa7.val c hc;have h1 : Aa7.F ((a.1, (a.2.1, (a.2.2.1, a.2.2.2))), ()) = _ := h1;have h2 : Aa7.F ((b.1, (b.2.1, (b.2.2.1, b.2.2.2))), ()) = _ := h2;have h3 : Aa7.F ((c.1, (c.2.1, (c.2.2.1, c.2.2.2))), ()) = _ := h3;have p1 : Af7.F ((a.1, (a.2.1, (a.2.2.1, a.2.2.2))), (b.1, (b.2.1, (b.2.2.1, b.2.2.2))), ()) = _ := Af7.val a b ha hb;have p2 : Af7.F ((b.1, (b.2.1, (b.2.2.1, b.2.2.2))), (c.1, (c.2.1, (c.2.2.1, c.2.2.2))), ()) = _ := Af7.val b c hb hc;rw [hT, Ai9.T, h1];simp only [Option.bind_some];unfold A0s;have no : ¬ (A0D a /\ A0D b /\ A0D c) -> A0Z a b c = 1 := fun h => by unfold A0Z; rw [if_neg h]
 cases v1 with
 | false => rw [if_pos (by simp), no fun hh => absurd (h1'.2 hh.1) (by simp)]; rfl
 | true =>
   rw [if_neg (by simp), h2];simp only [Option.bind_some];cases v2 with
   | false => rw [if_pos (by simp), no fun hh => absurd (h2'.2 hh.2.1) (by simp)]; rfl
   | true =>
     rw [if_neg (by simp), h3];simp only [Option.bind_some];cases v3 with
     | false => rw [if_pos (by simp), no fun hh => absurd (h3'.2 hh.2.2) (by simp)]; rfl
     | true =>
       have all : A0D a /\ A0D b /\ A0D c := ⟨h1'.1 rfl, h2'.1 rfl, h3'.1 rfl⟩;rw [if_neg (by simp), p1];simp only [Option.bind_some];by_cases q1 : A3D a b = 0
       . rw [if_neg (by simp [q1]), p2];simp only [Option.bind_some];by_cases q2 : A3D b c = 0
         . have r1 := (pairC_zero.1 q1).2.2;have r2 := (pairC_zero.1 q2).2.2;have hz : A0Z a b c = 0 := threeC_zero.2 ⟨all, r1, r2⟩;obtain ⟨w1, m1, m1'⟩ := Af6.val a b f all.1.1 all.2.1.1 r1 hf;obtain ⟨w2, m2, m2'⟩ := Af6.val b c g all.2.1.1 all.2.2.1 r2 hg;have m1 : Af6.F ((a.1, (a.2.1, (a.2.2.1, a.2.2.2))), (b.1, (b.2.1, (b.2.2.1, b.2.2.2))), f, ()) = _ := m1;have m2 : Af6.F ((b.1, (b.2.1, (b.2.2.1, b.2.2.2))), (c.1, (c.2.1, (c.2.2.1, c.2.2.2))), g, ()) = _ := m2;rw [if_neg (by simp [q2]), if_neg (by simp [hz]), m1];simp only [Option.bind_some];cases w1 with
           | false => rw [if_pos (by simp), if_neg fun hh => absurd (m1'.2 hh.1) (by simp)]
           | true =>
             rw [if_neg (by simp), m2];simp only [Option.bind_some];cases w2 with
             | false => rw [if_pos (by simp), if_neg fun hh => absurd (m2'.2 hh.2) (by simp)]
             | true => rw [if_neg (by simp), if_pos ⟨m1'.1 rfl, m2'.1 rfl⟩]
         . have hz : A0Z a b c = 6 := by
             unfold A0Z; rw [if_pos all, if_neg fun hh => q2 (pairC_zero.2 ⟨all.2.1, all.2.2, hh.2⟩)]
           rw [if_pos (by simp [q2]), hz]; rfl
       . have hz : A0Z a b c = 6 := by
           unfold A0Z; rw [if_pos all, if_neg fun hh => q1 (pairC_zero.2 ⟨all.1, all.2.1, hh.1⟩)]
         rw [if_pos (by simp [q1]), hz]; rfl
theorem Aj6.val (xs : List Int) (hn : xs.length ≤ 1048576) : ∃ v, Aj6.F (xs, ()) = some ((v, ()), ()) /\ (v = true ↔ ∀ x ∈ xs, x = 0) := by
 obtain ⟨v, hv, hv'⟩ := Ev.allP (L := fun k i => Aj6.l2 k xs (i : Int)) (a := ()) (b := ()) (n := xs.length) (fun i => xs.getD i 0 = 0) true (fun i hi => by
   have E := fun k => Aj6.l2_eq k xs (i : Int);simp only [if_pos (ltI.2 hi), if_pos (idxI.2 hi), Int.toNat_natCast, A0y (show i < 4611686018427387904 by omega)] at E;by_cases h : xs.getD i 0 = 0
   . exact .inl ⟨h, fun k => by rw [E, if_neg (by rw [h]; simp)]⟩
   . exact .inr ⟨h, fun k => by rw [E, if_pos (by rw [bne_iff_ne]; exact h)]⟩) ((Ev.const _).succ fun k => by rw [Aj6.l2_eq, if_neg (by simp)]) 0 (Nat.zero_le _)
 refine ⟨v, Aj6.of _ (hv.of_eq fun k => rfl), hv'.trans ⟨fun ⟨_, h⟩ x hx => ?_, fun h => ⟨rfl, fun i _ hi => h _ (A0z 0 hi)⟩⟩⟩;obtain ⟨i, hi, rfl⟩ := List.getElem_of_mem hx;rw [<- A0x (d := 0) hi]; exact h i (Nat.zero_le _) hi
def A1g (f g : MatV) : Prop := (∀ x ∈ (mulM g f).2.2.2, x = 0) /\ ((A1F f : Nat) : Int) + ((A1F g : Nat) : Int) = f.2.1
theorem A3P {R C : Nat} {g : Nat -> Nat -> Int} : (∀ x ∈ A0d R C g, x = 0) ↔ ∀ i j, i < R -> j < C -> g i j = 0 := by
 unfold A0d;constructor
 . intro h i j hi hj;exact h _ (List.mem_flatMap.2 ⟨i, List.mem_range.2 hi, List.mem_map.2 ⟨j, List.mem_range.2 hj, rfl⟩⟩)
 . intro h x hx;obtain ⟨i, hi, hx⟩ := List.mem_flatMap.1 hx;obtain ⟨j, hj, rfl⟩ := List.mem_map.1 hx;exact h i j (List.mem_range.1 hi) (List.mem_range.1 hj)
theorem A3u {f g : MatV} (hf : MatOk f) (hg : MatOk g) (hp : g.1 = f.1) (hs : g.2.2.1 = f.2.1) :
   ∃ (v : Bool) (A B K : List (List Int)), Ae9.F (f, ()) = some ((A, ()), ()) /\ Ah7.F (f.1, f.2.1, A, ()) = some (((f.1, f.2.1, A0l f.1 f.2.1.toNat A), ()), ()) /\ Ad9.F (g, ()) = some ((K, ()), ()) /\ Ah7.F (f.1, f.2.1, K, ()) = some (((f.1, f.2.1, B), ()), ()) ∧
     Am5.F ((f.1, f.2.1, A0l f.1 f.2.1.toNat A), (f.1, f.2.1, B), ()) = some ((v, ()), ()) /\ (v = true ↔ A1g f g) := by
 obtain ⟨n, a, hr, hc, hn, ha, hl, hpf, haf⟩ := hf.nat;obtain ⟨c, n', hr', hc', hcn, hn', hl', hpg, hag⟩ := hg.nat;obtain rfl : n' = n := by omega
 have hpr := hf.1;obtain ⟨p, mr, mc, xs⟩ := f;obtain ⟨p', mr', mc', ys⟩ := g;obtain rfl : mr = (n' : Int) := hr;obtain rfl : mc = (a : Int) := hc;obtain rfl : mr' = (c : Int) := hr';obtain rfl : mc' = (n' : Int) := hc';obtain rfl : p' = p := hp;simp only at hl hl' hpf hpr haf hag;have oR : RowsOk p' n' a (A0J xs n' a) := A2I hf rfl rfl hl;have og : RowsOk p' c n' (A0J ys c n') := A2I hg rfl rfl hl';have hcol := Ae9.val p' n' a xs hf;have hT : (A0r (p', (n' : Int), (a : Int), xs)).2.2.2.length = a * n' := by simp only [A0r, A0k, Int.toNat_natCast]
 have ht : ∀ i j, i < n' -> j < a -> en (A0J (A0r (p', (n' : Int), (a : Int), xs)).2.2.2 a n') j i = en (A0J xs n' a) i j := fun i j hi hj => by
   unfold en;rw [A0h _ hj, A0h _ hi, A0X hi, A0X hj, A1n p' n' a xs hj hi]
 have oT : RowsOk p' a n' (A0J (A0r (p', (n' : Int), (a : Int), xs)).2.2.2 a n') := by
   refine ⟨by simp [A0J], fun r hr => ?_⟩;unfold A0J at hr;obtain ⟨j, hj, rfl⟩ := List.mem_map.1 hr;have hj := List.mem_range.1 hj;refine ⟨A0P hT hj, allIn_iff.2 fun q hq => ?_⟩;rw [A0P hT hj] at hq;rw [A0X hq, A1n p' n' a xs hj hq];have hlt : q * a + j < n' * a := by
     have := Nat.mul_le_mul_right a (show q + 1 ≤ n' by omega);rw [Nat.add_mul, Nat.one_mul] at this; omega
   exact A0F haf (by rw [hl]; exact hlt)
 generalize (A0J (A0r (p', (n' : Int), (a : Int), xs)).2.2.2 a n') = T at *;obtain ⟨K, hK, hKo⟩ := Ad9.val hg (R := c) (C := n') rfl rfl;simp only at hK hKo;have h1 := Ah7.val hpr (by omega) (by omega) oT;have hfl : (A0v n' (gjN p' n' (A0J ys c n') n').2).length ≤ n' := by
   unfold A0v; exact Nat.le_trans (List.length_filter_le _ _) (by simp)
 have h2 := Ah7.val hpr (by omega) (by omega) hKo.ok;have s1 : SmL (A0l p' n' T) := ⟨by rw [A1z hpr oT]; have := A4D hpr oT; omega, fun x hx => by
   have := ((A0G hpr oT n' (Nat.le_refl _)).1.ok.row x (List.mem_of_mem_take hx)).1; unfold Sm; omega⟩
 have s2 : SmL (A0l p' n' K) := ⟨by rw [A1z hpr hKo.ok]; have := A4D hpr hKo.ok; omega, fun x hx => by
   have := ((A0G hpr hKo.ok n' (Nat.le_refl _)).1.ok.row x (List.mem_of_mem_take hx)).1; unfold Sm; omega⟩
 obtain ⟨v, hv, hv'⟩ := Ad6.val _ _ s1 s2;refine ⟨v, T, A0l p' n' K, K, hcol, h1, hK, h2, ?_, ?_⟩
 . show Am5.F ((p', (n' : Int), A0l p' n' T), (p', (n' : Int), A0l p' n' K), ()) = _;rw [Am5.eq, Am5.T, if_pos (by simp), if_pos (by simp), hv]; rfl
 . rw [hv', A3M hpr oR oT ht og hKo];unfold A1g;have e1 : ((A1F (p', (n' : Int), (a : Int), xs) : Nat) : Int) + ((A1F (p', (c : Int), (n' : Int), ys) : Nat) : Int) = ((n' : Nat) : Int) ↔ rk p' a (A0J xs n' a) + rk p' n' (A0J ys c n') = n' := by
     have : A1F (p', (n' : Int), (a : Int), xs) = rk p' a (A0J xs n' a) := rfl;have h3 : A1F (p', (c : Int), (n' : Int), ys) = rk p' n' (A0J ys c n') := rfl;rw [this, h3]; omega
   refine and_congr ?_ e1.symm;show _ ↔ ∀ x ∈ A0d (c : Int).toNat (a : Int).toNat _, x = 0;rw [A3P];simp only [Int.toNat_natCast];refine forall_congr' fun i => forall_congr' fun j => forall_congr' fun hi => forall_congr' fun hj => ?_;have e2 : dotN n' ((A0J ys c n').getD i []) (fun q => en (A0J xs n' a) q j) = sumN (fun k => ys.getD (i * n' + k) 0 * xs.getD (k * a + j) 0) n' := A0q fun q hq => by
     unfold en;rw [A0h _ hi, A0X hq];show _ * ((A0J xs n' a).getD q []).getD j 0 = _;rw [A0h _ hq, A0X hj]
   rw [e2];exact Int.dvd_iff_emod_eq_zero
noncomputable def A1A (a b c : ShfV) (f g : List MatV) : Bool := @decide (A0s a b c f g = 0 /\ ∀ k, k < f.length -> A1g (f.getD k (0, 0, 0, [])) (g.getD k (0, 0, 0, []))) (Classical.propDecidable _)
theorem A3s {a b c : ShfV} {f g : List MatV} (hr : A0K a b) (hf : A0t a b f) (hg : A0t b c g) {k : Nat} (hk : k < f.length) (hl : f.length = g.length) : MatOk (g.getD k (0, 0, 0, [])) /\ MatOk (f.getD k (0, 0, 0, [])) /\ (g.getD k (0, 0, 0, [])).1 = (f.getD k (0, 0, 0, [])).1 /\ (g.getD k (0, 0, 0, [])).2.2.1 = (f.getD k (0, 0, 0, [])).2.1 := by
 obtain ⟨x1, x2, x3, x4⟩ := hf.2 k hk;obtain ⟨y1, y2, y3, y4⟩ := hg.2 k (by omega);exact ⟨y1, x1, by rw [x2, y2, hr.2], by rw [y4, x3]⟩
theorem A2N {a b c : ShfV} {f g : List MatV} (h : A0s a b c f g = 0) : f.length = g.length /\ f.length = b.2.2.1.length /\ f.length ≤ 48 /\ ∀ k, k < f.length -> (MatOk (g.getD k (0, 0, 0, [])) /\ MatOk (f.getD k (0, 0, 0, [])) /\ (g.getD k (0, 0, 0, [])).1 = (f.getD k (0, 0, 0, [])).1 /\ (g.getD k (0, 0, 0, [])).2.2.1 = (f.getD k (0, 0, 0, [])).2.1) /\ (f.getD k (0, 0, 0, [])).1 = a.2.1 /\ (f.getD k (0, 0, 0, [])).2.1 = b.2.2.1.getD k 0 := by
 obtain ⟨⟨⟨ia, ib, ic⟩, r1, r2⟩, m1, m2⟩ := A2m h;obtain ⟨l1, l2, l3⟩ := A1D ia.1 ib.1 r1;obtain ⟨k1, k2, k3⟩ := A1D ib.1 ic.1 r2;have p1 := m1.1.1;have p2 := m2.1.1;have hl : f.length = g.length := by rw [p1, p2, l1, l2]
 refine ⟨hl, by rw [p1, l1, l2], by omega, fun k hk => ⟨A3s r1 m1.1 m2.1 hk hl, ?_, ?_⟩⟩
 . exact (m1.1.2 k hk).2.1
 . exact (m1.1.2 k hk).2.2.1
theorem Ae7.val (a b c : ShfV) (f g : List MatV) (ha : SmSh a) (hb : SmSh b) (hc : SmSh c) (hf : SmMs f) (hg : SmMs g) : Ae7.F (a, b, c, f, g, ()) = some ((A1A a b c f g, ()), ()) := by
 refine Ae7.of a.1 a.2.1 a.2.2.1 a.2.2.2 b.1 b.2.1 b.2.2.1 b.2.2.2 c.1 c.2.1 c.2.2.1 c.2.2.2 f g ?_;have h1 : Aj9.F ([(a.1, (a.2.1, (a.2.2.1, a.2.2.2))), (b.1, (b.2.1, (b.2.2.1, b.2.2.2))), (c.1, (c.2.1, (c.2.2.1, c.2.2.2)))], ()) = _ := Aj9.val3 a b c ha hb hc;have no : A0s a b c f g ≠ 0 -> A1A a b c f g = false := fun h => by unfold A1A; exact @decide_eq_false _ (Classical.propDecidable _) fun hh => h hh.1
 by_cases h0 : A0Z a b c = 0
 . obtain ⟨⟨ia, ib, ic⟩, r1, r2⟩ := threeC_zero.1 h0;obtain ⟨w1, m1, m1'⟩ := Af0.val a b f ia.1 ib.1 r1 hf;obtain ⟨w2, m2, m2'⟩ := Af0.val b c g ib.1 ic.1 r2 hg;have m1 : Af0.F ((a.1, (a.2.1, (a.2.2.1, a.2.2.2))), (b.1, (b.2.1, (b.2.2.1, b.2.2.2))), f, ()) = _ := m1;have m2 : Af0.F ((b.1, (b.2.1, (b.2.2.1, b.2.2.2))), (c.1, (c.2.1, (c.2.2.1, c.2.2.2))), g, ()) = _ := m2;have e0 : A0s a b c f g = @ite _ (A1E a b f /\ A1E b c g) (Classical.propDecidable _) 0 7 := by unfold A0s; rw [if_neg (by simp [h0])]
   cases w1 with
   | false =>
     rw [no (by rw [e0, if_neg fun hh => absurd (m1'.2 hh.1) (by simp)]; decide)];refine (Ev.const _).of_eq fun k => ?_;rw [Ae7.T, h1]; simp only [Option.bind_some]; rw [if_neg (by simp [h0]), m1]; simp only [Option.bind_some]; rw [if_pos (by simp)]
   | true => cases w2 with
     | false =>
       rw [no (by rw [e0, if_neg fun hh => absurd (m2'.2 hh.2) (by simp)]; decide)];refine (Ev.const _).of_eq fun k => ?_;rw [Ae7.T, h1]; simp only [Option.bind_some]; rw [if_neg (by simp [h0]), m1]; simp only [Option.bind_some]; rw [if_neg (by simp), m2]; simp only [Option.bind_some]; rw [if_pos (by simp)]
     | true =>
       have ez : A0s a b c f g = 0 := by rw [e0, if_pos ⟨m1'.1 rfl, m2'.1 rfl⟩]
       obtain ⟨q1, q2, q3, q4⟩ := A2N ez;obtain ⟨v, hv, hv'⟩ := Ev.allP (L := fun k i => Ae7.l4 k f g (f.length : Int) (i : Int) a.1 a.2.1 a.2.2.1 a.2.2.2) (a := ()) (b := ()) (n := f.length) (fun k => A1g (f.getD k (0, 0, 0, [])) (g.getD k (0, 0, 0, []))) true (fun i hi => by
         obtain ⟨⟨x1, x2, x3, x4⟩, x5, x6⟩ := q4 i hi;obtain ⟨v, A, B, K, e1, e2, e3, e4, e5, e6⟩ := A3u x2 x1 x3 x4;rw [x5] at e2 e4 e5;have E := fun k => Ae7.l4_eq k f g (f.length : Int) (i : Int) a.1 a.2.1 a.2.2.1 a.2.2.2;simp only [if_pos (ltI.2 hi), if_pos (idxI.2 hi), if_pos (idxI.2 (show i < g.length by omega)), Int.toNat_natCast, e1, e2, e3, e4, e5, Option.bind_some, A0y (show i < 4611686018427387904 by omega)] at E;cases v with
         | true => exact .inl ⟨e6.1 rfl, fun k => by rw [E, if_neg (by simp)]⟩
         | false => exact .inr ⟨fun h => absurd (e6.2 h) (by simp), fun k => by rw [E, if_pos (by simp)]⟩) ((Ev.const _).succ fun k => by rw [Ae7.l4_eq, if_neg (by simp)]) 0 (Nat.zero_le _)
       have hvv : v = A1A a b c f g := by
         unfold A1A;rw [Bool.eq_iff_iff, hv'];exact ⟨fun ⟨_, h⟩ => @decide_eq_true _ (Classical.propDecidable _) ⟨ez, fun k hk => h k (Nat.zero_le _) hk⟩, fun h => ⟨rfl, fun k _ hk => (@of_decide_eq_true _ (Classical.propDecidable _) h).2 k hk⟩⟩
       rw [<- hvv];refine hv.of_eq fun k => ?_;rw [Ae7.T, h1]; simp only [Option.bind_some]; rw [if_neg (by simp [h0]), m1]; simp only [Option.bind_some]; rw [if_neg (by simp), m2]; simp only [Option.bind_some]; rw [if_neg (by simp)]; rfl
 . rw [no (by unfold A0s; rw [if_pos h0]; exact h0)];refine (Ev.const _).of_eq fun k => ?_;rw [Ae7.T, h1]; simp only [Option.bind_some]; rw [if_pos (by simp [h0])]
theorem Ai0.val (a b c : ShfV) (f g : List MatV) (ha : SmSh a) (hb : SmSh b) (hc : SmSh c) (hf : SmMs f) (hg : SmMs g) : Ai0.F (a, b, c, f, g, ()) = some ((A1A a b c f g, ()), ()) := by
 refine Ai0.of a.1 a.2.1 a.2.2.1 a.2.2.2 b.1 b.2.1 b.2.2.1 b.2.2.2 c.1 c.2.1 c.2.2.1 c.2.2.2 f g ?_;have h1 : Ai9.F ((a.1, (a.2.1, (a.2.2.1, a.2.2.2))), (b.1, (b.2.1, (b.2.2.1, b.2.2.2))), (c.1, (c.2.1, (c.2.2.1, c.2.2.2))), f, g, ()) = _ := Ai9.val a b c f g ha hb hc hf hg;by_cases ez : A0s a b c f g = 0
 . obtain ⟨q1, q2, q3, q4⟩ := A2N ez;obtain ⟨v, hv, hv'⟩ := Ev.allP (L := fun k i => Ai0.l4 k f g (i : Int) b.1 b.2.1 b.2.2.1 b.2.2.2) (a := ()) (b := ()) (n := f.length) (fun k => A1g (f.getD k (0, 0, 0, [])) (g.getD k (0, 0, 0, []))) true (fun i hi => by
     obtain ⟨⟨x1, x2, x3, x4⟩, x5, x6⟩ := q4 i hi;have et := Aa1.val _ _ x1 x2 x3 x4;have hsm := A2D x1 x2;obtain ⟨z, ez1, ez2⟩ := Aj6.val (mulM (g.getD i (0, 0, 0, [])) (f.getD i (0, 0, 0, []))).2.2.2 (by
       have h1 := A4w hsm.2.1 hsm.2.2.1;have := hsm.2.2.2.1;omega)
     have rf := Aj7.val x2;have lf := A3q x2;have rg := Aj7.val x1;have lg := A3q x1;have E := fun k => Ai0.l4_eq k f g (i : Int) b.1 b.2.1 b.2.2.1 b.2.2.2;simp only [if_pos (ltI.2 hi), if_pos (idxI.2 hi), if_pos (idxI.2 (show i < g.length by omega)), if_pos (idxI.2 (show i < b.2.2.1.length by omega)), Int.toNat_natCast, et, ez1, rf, rg, Option.bind_some, A0y (show i < 4611686018427387904 by omega), A0w (x := ((A1F (f.getD i (0, 0, 0, [])) : Nat) : Int) + ((A1F (g.getD i (0, 0, 0, [])) : Nat) : Int)) (by omega) (by omega)] at E;by_cases hz : z = true
     . subst hz;by_cases hr : ((A1F (f.getD i (0, 0, 0, [])) : Nat) : Int) + ((A1F (g.getD i (0, 0, 0, [])) : Nat) : Int) = b.2.2.1.getD i 0
       . exact .inl ⟨⟨ez2.1 rfl, by rw [x6]; exact hr⟩, fun k => by rw [E, if_neg (by simp), if_neg (by rw [hr]; simp)]⟩
       . exact .inr ⟨fun h => hr (by rw [<- x6]; exact h.2), fun k => by rw [E, if_neg (by simp), if_pos (by rw [bne_iff_ne]; exact hr)]⟩
     . exact .inr ⟨fun h => hz (ez2.2 h.1), fun k => by rw [E, if_pos (by simpa using hz)]⟩) ((Ev.const _).succ fun k => by rw [Ai0.l4_eq, if_neg (by simp)]) 0 (Nat.zero_le _)
   have hvv : v = A1A a b c f g := by
     unfold A1A;rw [Bool.eq_iff_iff, hv'];exact ⟨fun ⟨_, h⟩ => @decide_eq_true _ (Classical.propDecidable _) ⟨ez, fun k hk => h k (Nat.zero_le _) hk⟩, fun h => ⟨rfl, fun k _ hk => (@of_decide_eq_true _ (Classical.propDecidable _) h).2 k hk⟩⟩
   rw [<- hvv];refine hv.of_eq fun k => ?_;rw [Ai0.T, h1]; simp only [Option.bind_some]; rw [if_neg (by simp [ez])]; rfl
 . have e : A1A a b c f g = false := by unfold A1A; exact @decide_eq_false _ (Classical.propDecidable _) fun hh => ez hh.1
   rw [e];refine (Ev.const _).of_eq fun k => ?_;rw [Ai0.T, h1]; simp only [Option.bind_some]; rw [if_pos (by simp [ez])]
theorem wf_ms {ms : List MatV} (h : wfT (.sl (.pair (.int .i64) (.pair (.int .i64) (.pair (.int .i64) (.sl (.int .i64)))))) ms) : ms.length ≤ maxLen /\ ∀ x ∈ ms, x.2.2.2.length ≤ maxLen := ⟨h.1, fun x hx => (h.2 x hx).2.2.2.1⟩
theorem Ak1.pure (d : Ins Ak1.sig.ps) (h : wfIns Ak1.sig.ps d) : ∃ mu, Ak1.F d = some ((true, ()), mu) := by
 obtain ⟨d0, d1, d2, d3, d4, ⟨⟩⟩ := d;obtain ⟨hw0, hw1, hw2, hw3, hw4, _⟩ := h;obtain ⟨w0a, w0b, w0c, w0d, w0e⟩ := A3f hw0;obtain ⟨w1a, w1b, w1c, w1d, w1e⟩ := A3f hw1;obtain ⟨w2a, w2b, w2c, w2d, w2e⟩ := A3f hw2;obtain ⟨w3a, w3b⟩ := wf_ms hw3;obtain ⟨w4a, w4b⟩ := wf_ms hw4;refine ⟨(), ?_⟩;have hT : Ak1.F (d0, d1, d2, d3, d4, ()) = Ak1.T d0.1 d0.2.1 d0.2.2.1 d0.2.2.2 d1.1 d1.2.1 d1.2.2.1 d1.2.2.2 d2.1 d2.2.1 d2.2.2.1 d2.2.2.2 d3 d4 := Ak1.eq _ _ _ _ _ _ _ _ _ _ _ _ _ _;rw [hT, Ak1.T];obtain ⟨r0, e0, k0⟩ := Ae3.val d0 1048576 (by omega) (by omega) w0a w0b w0c w0d w0e;have e0 : Ae3.F ((d0.1, (d0.2.1, (d0.2.2.1, d0.2.2.2))), 1048576, ()) = _ := e0;rw [e0];simp only [Option.bind_some];rcases k0 with rfl | ⟨a0, b0, c0⟩
 . rw [if_pos (by simp)]
 rw [if_neg (by simp; omega)];obtain ⟨r1, e1, k1⟩ := Ae3.val d1 r0 a0 (by omega) w1a w1b w1c w1d w1e;have e1 : Ae3.F ((d1.1, (d1.2.1, (d1.2.2.1, d1.2.2.2))), r0, ()) = _ := e1;rw [e1];simp only [Option.bind_some];rcases k1 with rfl | ⟨a1, b1, c1⟩
 . rw [if_pos (by simp)]
 rw [if_neg (by simp; omega)];obtain ⟨r2, e2, k2⟩ := Ae3.val d2 r1 a1 (by omega) w2a w2b w2c w2d w2e;have e2 : Ae3.F ((d2.1, (d2.2.1, (d2.2.2.1, d2.2.2.2))), r1, ()) = _ := e2;rw [e2];simp only [Option.bind_some];rcases k2 with rfl | ⟨a2, b2, c2⟩
 . rw [if_pos (by simp)]
 rw [if_neg (by simp; omega)];obtain ⟨r3, e3, k3⟩ := Ac4.val d3 r2 a2 (by omega) w3a w3b;rw [e3];simp only [Option.bind_some];rcases k3 with rfl | ⟨a3, b3, c3⟩
 . rw [if_pos (by simp)]
 rw [if_neg (by simp; omega)];obtain ⟨r4, e4, k4⟩ := Ac4.val d4 r3 a3 (by omega) w4a w4b;rw [e4];simp only [Option.bind_some];rcases k4 with rfl | ⟨a4, b4, c4⟩
 . rw [if_pos (by simp)]
 rw [if_neg (by simp; omega)];have t0 : Ab9.F ((d0.1, (d0.2.1, (d0.2.2.1, d0.2.2.2))), ()) = _ := Ab9.val d0 c0;obtain ⟨f0, g0, g0'⟩ := Ah9.same d0 d0 c0;obtain rfl : f0 = true := g0'.2 rfl;have t1 : Ab9.F ((d1.1, (d1.2.1, (d1.2.2.1, d1.2.2.2))), ()) = _ := Ab9.val d1 c1;obtain ⟨f1, g1, g1'⟩ := Ah9.same d1 d1 c1;obtain rfl : f1 = true := g1'.2 rfl;have t2 : Ab9.F ((d2.1, (d2.2.1, (d2.2.2.1, d2.2.2.2))), ()) = _ := Ab9.val d2 c2;obtain ⟨f2, g2, g2'⟩ := Ah9.same d2 d2 c2;obtain rfl : f2 = true := g2'.2 rfl;have t3 := Ab5.val d3 c3;obtain ⟨f3, g3, g3'⟩ := Ac3.same d3 d3 c3;obtain rfl : f3 = true := g3'.2 rfl;have t4 := Ab5.val d4 c4;obtain ⟨f4, g4, g4'⟩ := Ac3.same d4 d4 c4;obtain rfl : f4 = true := g4'.2 rfl;simp [t0, g0, t1, g1, t2, g2, t3, g3, t4, g4, Ai0.val d0 d1 d2 d3 d4 c0 c1 c2 c3 c4, Ae7.val d0 d1 d2 d3 d4 c0 c1 c2 c3 c4]
end Go.Proofs.YtnfpapicmhhlnaaGreat
