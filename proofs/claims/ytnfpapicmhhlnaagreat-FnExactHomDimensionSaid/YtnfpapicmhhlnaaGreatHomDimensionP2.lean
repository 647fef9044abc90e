/- What the functions answer. -/
import Derived.Test.YtnfpapicmhhlnaaGreatHomDimensionP1
namespace Go.Proofs.YtnfpapicmhhlnaaGreat
open Go Go.Vm
set_option linter.unusedVariables false
set_option linter.unusedSimpArgs false
theorem Aa1.val (a b : ShfV) (ha : SmSh a) (hb : SmSh b) : Aa1.F (a, b, ()) = some (((homV a b).1, (homV a b).2, ()), ()) := by
 refine Aa1.of a.1 a.2.1 a.2.2.1 a.2.2.2 b.1 b.2.1 b.2.2.1 b.2.2.2 ?_;have h1 : Ah5.F ((a.1, (a.2.1, (a.2.2.1, a.2.2.2))), (b.1, (b.2.1, (b.2.2.1, b.2.2.2))), ()) = some ((A1B a b, ()), ()) := Ah5.val a b ha hb;by_cases ez : A1B a b = 0
 . obtain ⟨ia, ib, r⟩ := pairC_zero.1 ez;have h : HomOk a b := ⟨ia.1, ib.1, r⟩;have lN := A0E h (Nat.le_refl a.1.length);have h5 := h.oa.1.1;have hla : a.2.2.1.length = a.1.length := h.oa.2.2.1.1;have hlb : b.2.2.1.length = a.1.length := by rw [h.ob.2.2.1.1, h.r.1]
   obtain ⟨s, hs, g0⟩ := Goes.loop (R := ((Int × Int × Unit) × Unit)) (fun k i (s : List Int × Int) => Aa1.l7 k s.2 (i : Int) a.1 a.2.1 a.2.2.1 a.2.2.2 b.1 b.2.1 b.2.2.1 b.2.2.2 s.1) a.1.length (fun i s => s = (A0j a b i, ((A0y a b i : Nat) : Int))) (fun i s hi h2 => ⟨_, rfl, Goes.succ fun k => by
     subst h2;rw [Aa1.l7_eq, hla, if_pos (ltI.2 hi), if_pos (by simp only [A0j, List.length_map, List.length_range, List.length_cons, List.length_nil, bigA]; omega), if_pos (idxI.2 (by omega)), if_pos (idxI.2 (by omega)), Int.toNat_natCast, A0v (by omega)];simp only [];rw [A3A h hi, A0j, A0j, List.range_succ, List.map_append]; rfl⟩) 0 ([], 0) (Nat.zero_le _) rfl
   subst hs;have start : ∀ {r}, Ev (fun k => Aa1.l7 k ((A0y a b a.1.length : Nat) : Int) ((a.1.length : Nat) : Int) a.1 a.2.1 a.2.2.1 a.2.2.2 b.1 b.2.1 b.2.2.1 b.2.2.2 (A0j a b a.1.length)) r -> Ev (fun k => Aa1.T k a.1 a.2.1 a.2.2.1 a.2.2.2 b.1 b.2.1 b.2.2.1 b.2.2.2) r := fun {r} hr => by
     refine (g0 _ hr).of_eq fun k => ?_;rw [Aa1.T, h1]; simp only [Option.bind_some]; rw [if_neg (by simp [ez])]; rfl
   refine start ?_;by_cases e60 : 60 < A0y a b a.1.length
   . have e : homV a b = (0, 5) := by rw [homV, if_neg (by simp [ez]), if_pos e60]
     rw [e];refine (Ev.const _).succ fun k => ?_;rw [Aa1.l7_eq, hla, if_neg (by simp), if_pos (by simp only [decide_eq_true_eq]; omega)]
   . have e : homV a b = (((A0y a b a.1.length : Nat) : Int) - (((gjN a.2.1 (A0y a b a.1.length) (A0H a b (A0y a b a.1.length)) (A0y a b a.1.length)).2.length : Nat) : Int), 0) := by rw [homV, if_neg (by simp [ez]), if_neg e60]
     rw [e];generalize hn : A0y a b a.1.length = n at lN e60 ⊢;obtain ⟨ho1, ho⟩ := A1q h n;obtain ⟨s, hs, g⟩ := Goes.loop (R := ((Int × Int × Unit) × Unit)) (fun t k (s : List (List Int)) => Aa1.l15 t (n : Int) (k : Int) a.1 a.2.1 a.2.2.1 a.2.2.2 b.1 b.2.1 b.2.2.1 b.2.2.2 (A0j a b a.1.length) s) a.1.length
       (fun k s => s = (List.range k).flatMap (A1w a b n)) (fun k s hk h3 => by
         refine ⟨_, rfl, ?_⟩;have hf4 : (fcs a.1 k).length ≤ 4 := by
           have := A0l h.oa.1 hk;have e : (fcs a.1 k).length = (A0G (a.1.getD k [])).length := by simp [fcs]
           omega
         obtain ⟨u, hu, g2⟩ := Goes.loop (R := ((Int × Int × Unit) × Unit)) (fun t i (u : List (List Int)) => Aa1.l19 t (n : Int) (k : Int) (i : Int) a.1 a.2.1 a.2.2.1 a.2.2.2 b.1 b.2.1 b.2.2.1 b.2.2.2 (A0j a b a.1.length) u (fcs a.1 k)) (fcs a.1 k).length
           (fun i u => u = s ++ (List.range i).flatMap (A0s a b n k)) (fun i u hi h4 => by
             refine ⟨_, rfl, ?_⟩;obtain ⟨f, E⟩ := A1e h hk hi;have hul : u.length < 1000000 := by
               have := homPart (a := a) (b := b) n k hk (Nat.le_of_lt hi);rw [<- h3, <- h4] at this;omega
             have gb : Aa7.F ((b.1, (b.2.1, (b.2.2.1, b.2.2.2))), (k : Int), (i : Int), ()) = some ((A0z b k i, ()), ()) := Aa7.val b h.ob k i (by rw [<- h.r.1]; exact hk) (by rw [<- h.r.1]; exact hi);have ga : Aa7.F ((a.1, (a.2.1, (a.2.2.1, a.2.2.2))), (k : Int), (i : Int), ()) = some ((A0z a k i, ()), ()) := Aa7.val a h.oa k i hk hi;refine (Goes.succ (fun t => ?_)).trans ((Aa1.edge h E hk hi hn.symm u hul).trans (Goes.of_eq fun t => ?_))
             . rw [Aa1.l19_eq, if_pos (ltI.2 hi), gb];simp only [Option.bind_some];rw [ga];simp only [Option.bind_some]
             . rw [h4, List.append_assoc, A0C]) 0 s (Nat.zero_le _) (by simp)
         refine (Goes.succ (fun t => ?_)).trans (g2.trans (Goes.succ fun t => ?_))
         . rw [Aa1.l15_eq, hla, if_pos (ltI.2 hk), Ab3.val _ h.oa.1 k hk]; rfl
         . rw [Aa1.l19_eq, if_neg (by simp), A0v (by omega), hu, h3, A0C]; rfl) 0 [] (Nat.zero_le _) rfl
     have hs2 : s = A0H a b n := hs;subst hs2;refine Ev.succ (g _ ((Ev.const _).succ fun k => ?_)) fun k => ?_
     . have hrk := A2L h n;rw [Aa1.l15_eq, hla, if_neg (by simp), Ag3.val h.oa.2.1.1 ho1 (by omega) ho];simp only [Option.bind_some, List.length_map, List.length_range];rw [A0w (by omega) (by omega)]
     . rw [Aa1.l7_eq, hla, if_neg (by simp), if_neg (by simp only [decide_eq_true_eq]; omega)]; rfl
 . have e : homV a b = (0, A1B a b) := by rw [homV, if_pos ez]
   rw [e];refine (Ev.const _).of_eq fun k => ?_;rw [Aa1.T, h1]; simp only [Option.bind_some]; rw [if_pos (by simp [ez])]
theorem Ab5.val (xs : List Int) (h : xs.length ≤ 1099511627776) : Ab5.F (xs, ()) = some ((xs, ()), ()) := by
 refine Ab5.of xs ?_;have := Goes.fill (L := fun k i ys => Ab5.l3 k xs (i : Int) ys) xs 0 (fun k i ys hi hy => by
   rw [Ab5.l3_eq, if_pos (ltI.2 hi), if_pos (idxI.2 hi), if_pos (by omega), A0v (by omega)];simp only [Int.toNat_natCast]) (List.replicate xs.length 0) (by simp)
 refine Ev.of_eq (this _ ((Ev.const _).succ fun k => ?_)) fun k => ?_
 . rw [Ab5.l3_eq, if_neg (by simp)]
 . rw [Ab5.T, if_pos (by simp only [bigN]; omega)]; rfl
theorem Ab2.val (xs ys : List Int) (hn : xs.length < 4611686018427387904) : ∃ b, Ab2.F (xs, ys, ()) = some ((b, ()), ()) /\ (b = true ↔ xs = ys) := by
 by_cases hl : xs.length = ys.length
 . obtain ⟨b, hb, hb'⟩ := Ev.all (L := fun k i => Ab2.l4 k xs ys (i : Int)) (a := ()) (b := ()) (n := xs.length) (fun i => xs.getD i 0 == ys.getD i 0) (fun k i hi => by
     rw [Ab2.l4_eq, if_pos (ltI.2 hi), if_pos (idxI.2 hi), if_pos (by omega), A0v (by omega)];simp only [Int.toNat_natCast];exact ite_nb _ _ _) (fun k => by rw [Ab2.l4_eq, if_neg (by simp)]) 0 (Nat.zero_le _)
   refine ⟨b, Ab2.of _ _ (hb.of_eq fun k => ?_), by rw [hb', all_eq hl (fun x y => x == y) (by simp)]⟩;rw [Ab2.T, if_neg (by simp [hl])];rfl
 . refine ⟨false, Ab2.of _ _ ((Ev.const _).of_eq fun k => ?_), by simp; intro e; exact hl (by rw [e])⟩;rw [Ab2.T, if_pos (by simp; omega)]
theorem Ad0.val (xs : List Int) (l : Int) (h0 : 0 ≤ l) (h1 : l ≤ 1048576) (hx : xs.length ≤ maxLen) : ∃ r, Ad0.F (xs, l, ()) = some ((r, ()), ()) /\ (r = -1 ∨ 0 ≤ r /\ r ≤ l /\ Sm xs) := by
 have : xs.length ≤ 9223372036854775807 := hx;rw [Ad0.eq, Ad0.T, A0w (by omega) (by omega)];by_cases h : l < xs.length
 . exact ⟨-1, by rw [if_pos (by simp; omega)], .inl rfl⟩
 . exact ⟨_, by rw [if_neg (by simp; omega)], .inr ⟨by omega, by omega, by unfold Sm; omega⟩⟩
theorem Af2.val (xs : List (List Int)) (l : Int) (h0 : 0 ≤ l) (h1 : l ≤ 1048576) (hx : xs.length ≤ maxLen) (hr : ∀ x ∈ xs, x.length ≤ maxLen) : ∃ r, Af2.F (xs, l, ()) = some ((r, ()), ()) /\ (r = -1 ∨ 0 ≤ r /\ r ≤ l /\ SmL xs) := by
 have : xs.length ≤ 9223372036854775807 := hx;by_cases h : l < xs.length
 . exact ⟨-1, Af2.of _ _ ((Ev.const _).of_eq fun k => by rw [Af2.T, A0w (by omega) (by omega), if_pos (by simp; omega)]), .inl rfl⟩
 obtain ⟨r, hv, h2⟩ := A2r (fun k i s => Af2.l5 k xs s (i : Int)) xs [] Sm (fun i s hi s0 s1 => by
   have E := fun k => Af2.l5_eq k xs s (i : Int);obtain ⟨r, hr1, hr2⟩ := Ad0.val (xs.getD i []) s s0 s1 (hr _ (A0x _ hi));simp only [if_pos (ltI.2 hi), if_pos (idxI.2 hi), Int.toNat_natCast, hr1, Option.bind_some, A0v (show i < 4611686018427387904 by omega)] at E;rcases hr2 with rfl | ⟨a, b, c⟩
   . exact .inr fun k => by rw [E, if_pos (by simp)]
   . exact .inl ⟨r, a, b, c, fun k => by rw [E, if_neg (by simp; omega)]⟩) (fun k l => by rw [Af2.l5_eq, if_neg (by simp)]) (l - xs.length) (by omega) (by omega)
 refine ⟨r, Af2.of _ _ (hv.of_eq fun k => by rw [Af2.T, A0w (by omega) (by omega), if_neg (by simp; omega)]; rfl), ?_⟩;rcases h2 with h2 | ⟨a, b, c⟩
 . exact .inl h2
 . exact .inr ⟨a, by omega, by omega, c⟩
theorem Ak8.val (xs : List (List Int)) (l : Int) (h0 : 0 ≤ l) (h1 : l ≤ 1048576) (hx : xs.length ≤ maxLen) (hr : ∀ x ∈ xs, x.length ≤ maxLen) : ∃ r, Ak8.F (xs, l, ()) = some ((r, ()), ()) /\ (r = -1 ∨ 0 ≤ r /\ r ≤ l /\ SmL xs) := by
 obtain ⟨r, h2, h3⟩ := Af2.val xs l h0 h1 hx hr;rw [Ak8.eq, Ak8.T, h2];simp only [Option.bind_some];rcases h3 with rfl | ⟨a, b, c⟩
 . exact ⟨-1, by rw [if_pos (by simp)], .inl rfl⟩
 . exact ⟨r, by rw [if_neg (by simp; omega)], .inr ⟨a, b, c⟩⟩
theorem Ah0.val (xs : List (List Int)) (h : SmL xs) : Ah0.F (xs, ()) = some ((xs, ()), ()) := by
 have hl := h.1;refine Ah0.of xs ?_;have := Goes.fill (L := fun k i ys => Ah0.l3 k xs (i : Int) ys) xs [] (fun k i ys hi hy => by
   have hs : (xs.getD i []).length ≤ 1048576 := h.2 _ (A0x _ hi);rw [Ah0.l3_eq, if_pos (ltI.2 hi), if_pos (idxI.2 hi)];simp only [Int.toNat_natCast, Ab5.val (xs.getD i []) (by omega), Option.bind_some];rw [if_pos (by omega), A0v (by omega)]) (List.replicate xs.length []) (by simp)
 refine Ev.of_eq (this _ ((Ev.const _).succ fun k => ?_)) fun k => ?_
 . rw [Ah0.l3_eq, if_neg (by simp)]
 . rw [Ah0.T, if_pos (by simp only [bigN]; omega)]; rfl
theorem Al0.val (xs : List (List Int)) (h : SmL xs) : Al0.F (xs, ()) = some ((xs, ()), ()) := by
 rw [Al0.eq, Al0.T, Ah0.val xs h]; rfl
theorem Af0.same (xs ys : List (List Int)) (h : SmL xs) : ∃ b, Af0.F (xs, ys, ()) = some ((b, ()), ()) /\ (b = true ↔ xs = ys) := by
 have hn := h.1;by_cases hl : xs.length = ys.length
 . obtain ⟨b, hb, hb'⟩ := A0U (fun k i => Af0.l4 k xs ys (i : Int)) xs ys [] hl (fun i hi => by
     have hs : (xs.getD i []).length ≤ 1048576 := h.2 _ (A0x _ hi);obtain ⟨c, hc, hc'⟩ := Ab2.val (xs.getD i []) (ys.getD i []) (by omega);exact ⟨c, hc', fun k => by rw [Af0.l4_eq, if_pos (ltI.2 hi), if_pos (idxI.2 hi), if_pos (idx2 (hl ▸ hi))]; simp only [Int.toNat_natCast, hc, Option.bind_some]; rw [A0v (by omega)]⟩) (fun k => by rw [Af0.l4_eq, if_neg (by simp)])
   exact ⟨b, Af0.of _ _ (hb.of_eq fun k => by rw [Af0.T, if_neg (by simp [hl])]; rfl), hb'⟩
 . exact ⟨false, Af0.of _ _ ((Ev.const _).of_eq fun k => by rw [Af0.T, if_pos (by simp; omega)]), by simp; intro e; exact hl (by rw [e])⟩
theorem Ak6.same (xs ys : List (List Int)) (h : SmL xs) : ∃ b, Ak6.F (xs, ys, ()) = some ((b, ()), ()) /\ (b = true ↔ xs = ys) := by
 obtain ⟨b, hb, hb'⟩ := Af0.same xs ys h;rw [Ak6.eq, Ak6.T, hb];exact ⟨b, by cases b <;> rfl, hb'⟩
theorem Ak9.val (m : MatV) (l : Int) (h0 : 0 ≤ l) (h1 : l ≤ 1048576) (hx : m.2.2.2.length ≤ maxLen) : ∃ r, Ak9.F (m, l, ()) = some ((r, ()), ()) /\ (r = -1 ∨ 0 ≤ r /\ r ≤ l /\ SmM m) := by
 obtain ⟨a, b, c, xs⟩ := m;obtain ⟨r, h2, h3⟩ := Ad0.val xs l h0 h1 hx;rw [Ak9.eq, Ak9.T, h2];simp only [Option.bind_some];rcases h3 with rfl | ⟨a, b, c⟩
 . exact ⟨-1, by rw [if_pos (by simp)], .inl rfl⟩
 . exact ⟨r, by rw [if_neg (by simp; omega)], .inr ⟨a, b, c⟩⟩
theorem Af3.val (xs : List MatV) (l : Int) (h0 : 0 ≤ l) (h1 : l ≤ 1048576) (hx : xs.length ≤ maxLen) (hr : ∀ x ∈ xs, x.2.2.2.length ≤ maxLen) : ∃ r, Af3.F (xs, l, ()) = some ((r, ()), ()) /\ (r = -1 ∨ 0 ≤ r /\ r ≤ l /\ SmMs xs) := by
 have : xs.length ≤ 9223372036854775807 := hx;by_cases h : l < xs.length
 . exact ⟨-1, Af3.of _ _ ((Ev.const _).of_eq fun k => by rw [Af3.T, A0w (by omega) (by omega), if_pos (by simp; omega)]), .inl rfl⟩
 obtain ⟨r, hv, h2⟩ := A2r (fun k i s => Af3.l5 k xs s (i : Int)) xs (0, 0, 0, []) SmM (fun i s hi s0 s1 => by
   have E := fun k => Af3.l5_eq k xs s (i : Int);obtain ⟨r, hr1, hr2⟩ := Ak9.val (xs.getD i (0, 0, 0, [])) s s0 s1 (hr _ (A0x _ hi));simp only [if_pos (ltI.2 hi), if_pos (idxI.2 hi), Int.toNat_natCast, hr1, Option.bind_some, A0v (show i < 4611686018427387904 by omega)] at E;rcases hr2 with rfl | ⟨a, b, c⟩
   . exact .inr fun k => by rw [E, if_pos (by simp)]
   . exact .inl ⟨r, a, b, c, fun k => by rw [E, if_neg (by simp; omega)]⟩) (fun k l => by rw [Af3.l5_eq, if_neg (by simp)]) (l - xs.length) (by omega) (by omega)
 refine ⟨r, Af3.of _ _ (hv.of_eq fun k => by rw [Af3.T, A0w (by omega) (by omega), if_neg (by simp; omega)]; rfl), ?_⟩;rcases h2 with h2 | ⟨a, b, c⟩
 . exact .inl h2
 . exact .inr ⟨a, by omega, by omega, c⟩
theorem Al1.val (m : MatV) (h : SmM m) : Al1.F (m, ()) = some ((m, ()), ()) := by
 obtain ⟨a, b, c, xs⟩ := m;have hs : xs.length ≤ 1048576 := h;rw [Al1.eq, Al1.T, Ab5.val xs (by omega)]; rfl
theorem Ah1.val (xs : List MatV) (h : SmMs xs) : Ah1.F (xs, ()) = some ((xs, ()), ()) := by
 have hl := h.1;refine Ah1.of xs ?_;have := Goes.fill (L := fun k i ys => Ah1.l3 k xs (i : Int) ys) xs (0, 0, 0, []) (fun k i ys hi hy => by
   rw [Ah1.l3_eq, if_pos (ltI.2 hi), if_pos (idxI.2 hi)];simp only [Int.toNat_natCast, Al1.val _ (h.2 _ (A0x (0, 0, 0, []) hi)), Option.bind_some];rw [if_pos (by omega), A0v (by omega)]) (List.replicate xs.length (0, 0, 0, [])) (by simp)
 refine Ev.of_eq (this _ ((Ev.const _).succ fun k => ?_)) fun k => ?_
 . rw [Ah1.l3_eq, if_neg (by simp)]
 . rw [Ah1.T, if_pos (by simp only [bigN]; omega)]; rfl
theorem Ak7.same (m n : MatV) (h : SmM m) : ∃ b, Ak7.F (m, n, ()) = some ((b, ()), ()) /\ (b = true ↔ m = n) := by
 obtain ⟨a, b, c, xs⟩ := m;obtain ⟨a', b', c', ys⟩ := n;have hs : xs.length ≤ 1048576 := h;obtain ⟨e, he, he'⟩ := Ab2.val xs ys (by omega);rw [Ak7.eq, Ak7.T, he];simp only [Option.bind_some, Prod.mk.injEq];by_cases h1 : a = a'
 . by_cases h2 : b = b'
   . by_cases h3 : c = c'
     . rw [if_neg (by simp [h1]), if_neg (by simp [h2]), if_neg (by simp [h3])];exact ⟨e, by cases e <;> rfl, by simp [h1, h2, h3, he']⟩
     . exact ⟨false, by rw [if_neg (by simp [h1]), if_neg (by simp [h2]), if_pos (by simp [h3])], by simp [h3]⟩
   . exact ⟨false, by rw [if_neg (by simp [h1]), if_pos (by simp [h2])], by simp [h2]⟩
 . exact ⟨false, by rw [if_pos (by simp [h1])], by simp [h1]⟩
theorem Af1.same (xs ys : List MatV) (h : SmMs xs) : ∃ b, Af1.F (xs, ys, ()) = some ((b, ()), ()) /\ (b = true ↔ xs = ys) := by
 have hn := h.1;by_cases hl : xs.length = ys.length
 . obtain ⟨b, hb, hb'⟩ := A0U (fun k i => Af1.l4 k xs ys (i : Int)) xs ys (0, 0, 0, []) hl (fun i hi => by
     obtain ⟨c, hc, hc'⟩ := Ak7.same (xs.getD i (0, 0, 0, [])) (ys.getD i (0, 0, 0, [])) (h.2 _ (A0x _ hi));exact ⟨c, hc', fun k => by rw [Af1.l4_eq, if_pos (ltI.2 hi), if_pos (idxI.2 hi), if_pos (idx2 (hl ▸ hi))]; simp only [Int.toNat_natCast, hc, Option.bind_some]; rw [A0v (by omega)]⟩) (fun k => by rw [Af1.l4_eq, if_neg (by simp)])
   exact ⟨b, Af1.of _ _ (hb.of_eq fun k => by rw [Af1.T, if_neg (by simp [hl])]; rfl), hb'⟩
 . exact ⟨false, Af1.of _ _ ((Ev.const _).of_eq fun k => by rw [Af1.T, if_pos (by simp; omega)]), by simp; intro e; exact hl (by rw [e])⟩
theorem A3k {s : ShfV} (h : wfT (.pair (.sl (.sl (.int .i64))) (.pair (.int .i64) (.pair (.sl (.int .i64)) (.sl (.pair (.int .i64) (.pair (.int .i64) (.pair (.int .i64) (.sl (.int .i64))))))))) s) : s.1.length ≤ maxLen /\ (∀ x ∈ s.1, x.length ≤ maxLen) /\ s.2.2.1.length ≤ maxLen /\ s.2.2.2.length ≤ maxLen /\ ∀ x ∈ s.2.2.2, x.2.2.2.length ≤ maxLen := by
 obtain ⟨a, p, b, c⟩ := s;obtain ⟨⟨h1, h2⟩, _, ⟨h3, _⟩, h4, h5⟩ := h;exact ⟨h1, fun x hx => (h2 x hx).1, h3, h4, fun x hx => (h5 x hx).2.2.2.1⟩
theorem Ag1.val (s : ShfV) (l : Int) (h0 : 0 ≤ l) (h1 : l ≤ 1048576) (w1 : s.1.length ≤ maxLen) (w2 : ∀ x ∈ s.1, x.length ≤ maxLen) (w3 : s.2.2.1.length ≤ maxLen) (w4 : s.2.2.2.length ≤ maxLen) (w5 : ∀ x ∈ s.2.2.2, x.2.2.2.length ≤ maxLen) : ∃ r, Ag1.F (s, l, ()) = some ((r, ()), ()) /\ (r = -1 ∨ 0 ≤ r /\ r ≤ l /\ SmSh s) := by
 obtain ⟨a, p, b, c⟩ := s;obtain ⟨r1, e1, k1⟩ := Ak8.val a l h0 h1 w1 w2;rw [Ag1.eq, Ag1.T, e1];simp only [Option.bind_some];rcases k1 with rfl | ⟨a1, b1, c1⟩
 . exact ⟨-1, by rw [if_pos (by simp)], .inl rfl⟩
 rw [if_neg (by simp; omega)];obtain ⟨r2, e2, k2⟩ := Ad0.val b r1 a1 (by omega) w3;rw [e2];simp only [Option.bind_some];rcases k2 with rfl | ⟨a2, b2, c2⟩
 . exact ⟨-1, by rw [if_pos (by simp)], .inl rfl⟩
 rw [if_neg (by simp; omega)];obtain ⟨r3, e3, k3⟩ := Af3.val c r2 a2 (by omega) w4 w5;rw [e3];simp only [Option.bind_some];rcases k3 with rfl | ⟨a3, b3, c3⟩
 . exact ⟨-1, by rw [if_pos (by simp)], .inl rfl⟩
 exact ⟨r3, by rw [if_neg (by simp; omega)], .inr ⟨a3, by omega, c1, c2, c3⟩⟩
theorem Ad5.val (s : ShfV) (h : SmSh s) : Ad5.F (s, ()) = some ((s, ()), ()) := by
 obtain ⟨a, p, b, c⟩ := s;obtain ⟨h1, h2, h3⟩ := h;have h2' : b.length ≤ 1048576 := h2;rw [Ad5.eq, Ad5.T, Al0.val a h1, Ab5.val b (by omega), Ah1.val c h3]; rfl
theorem Ai0.same (s t : ShfV) (h : SmSh s) : ∃ b, Ai0.F (s, t, ()) = some ((b, ()), ()) /\ (b = true ↔ s = t) := by
 obtain ⟨a, p, b, c⟩ := s;obtain ⟨a', p', b', c'⟩ := t;obtain ⟨h1, h2, h3⟩ := h;have h2' : b.length ≤ 1048576 := h2;obtain ⟨v1, e1, k1⟩ := Ak6.same a a' h1;obtain ⟨v2, e2, k2⟩ := Ab2.val b b' (by omega);obtain ⟨v3, e3, k3⟩ := Af1.same c c' h3;rw [Ai0.eq, Ai0.T, e1, e2, e3];simp only [Option.bind_some, Prod.mk.injEq];by_cases hp : p = p'
 . rw [show (p != p') = false by simp [hp]];refine ⟨v1 && v2 && v3, by cases v1 <;> cases v2 <;> cases v3 <;> rfl, ?_⟩;simp only [Bool.and_eq_true, k1, k2, k3, hp, true_and, and_assoc]
 . rw [show (p != p') = true by simp [hp]];exact ⟨false, by cases v1 <;> rfl, by simp [hp]⟩
theorem Ai8.pure (d : Ins Ai8.sig.ps) (h : wfIns Ai8.sig.ps d) : ∃ mu, Ai8.F d = some ((true, ()), mu) := by
 obtain ⟨d0, d1, ⟨⟩⟩ := d;obtain ⟨hw0, hw1, _⟩ := h;obtain ⟨w0a, w0b, w0c, w0d, w0e⟩ := A3k hw0;obtain ⟨w1a, w1b, w1c, w1d, w1e⟩ := A3k hw1;refine ⟨(), ?_⟩;have hT : Ai8.F (d0, d1, ()) = Ai8.T d0.1 d0.2.1 d0.2.2.1 d0.2.2.2 d1.1 d1.2.1 d1.2.2.1 d1.2.2.2 := Ai8.eq _ _ _ _ _ _ _ _;rw [hT, Ai8.T];obtain ⟨r0, e0, k0⟩ := Ag1.val d0 1048576 (by omega) (by omega) w0a w0b w0c w0d w0e;have e0 : Ag1.F ((d0.1, (d0.2.1, (d0.2.2.1, d0.2.2.2))), 1048576, ()) = _ := e0;rw [e0];simp only [Option.bind_some];rcases k0 with rfl | ⟨a0, b0, c0⟩
 . rw [if_pos (by simp)]
 rw [if_neg (by simp; omega)];obtain ⟨r1, e1, k1⟩ := Ag1.val d1 r0 a0 (by omega) w1a w1b w1c w1d w1e;have e1 : Ag1.F ((d1.1, (d1.2.1, (d1.2.2.1, d1.2.2.2))), r0, ()) = _ := e1;rw [e1];simp only [Option.bind_some];rcases k1 with rfl | ⟨a1, b1, c1⟩
 . rw [if_pos (by simp)]
 rw [if_neg (by simp; omega)];have t0 : Ad5.F ((d0.1, (d0.2.1, (d0.2.2.1, d0.2.2.2))), ()) = _ := Ad5.val d0 c0;obtain ⟨f0, g0, g0'⟩ := Ai0.same d0 d0 c0;obtain rfl : f0 = true := g0'.2 rfl;have t1 : Ad5.F ((d1.1, (d1.2.1, (d1.2.2.1, d1.2.2.2))), ()) = _ := Ad5.val d1 c1;obtain ⟨f1, g1, g1'⟩ := Ai0.same d1 d1 c1;obtain rfl : f1 = true := g1'.2 rfl;simp [t0, g0, t1, g1, Aa1.val d0 d1 c0 c1, Aa2.val d0 d1 c0 c1]
end Go.Proofs.YtnfpapicmhhlnaaGreat
