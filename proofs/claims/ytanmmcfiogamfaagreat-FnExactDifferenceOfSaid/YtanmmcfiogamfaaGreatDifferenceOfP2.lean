/- What the functions answer. -/
import Derived.Test.YtanmmcfiogamfaaGreatDifferenceOfP1
namespace Go.Proofs.YtanmmcfiogamfaaGreat
open Go Go.Vm
set_option linter.unusedVariables false
set_option linter.unusedSimpArgs false
theorem A2H (ws : List (Nat × Int)) : ∀ (x : List Int) (i : Nat), i < x.length -> (wr ws x).getD i 0 = A0X (x.getD i 0) ws i := by
 induction ws with
 | nil => intro x i _; rfl
 | cons w ws ih =>
   intro x i hi;show (wr ws (x.set w.1 w.2)).getD i 0 = A0X (if w.1 = i then w.2 else x.getD i 0) ws i;rw [ih _ _ (by simpa using hi)];congr 1;simp only [List.getD_eq_getElem?_getD, List.getElem?_set];by_cases h : w.1 = i
   . subst h; simp [hi]
   . simp [h]
theorem A0b (acc : Int) (ws vs : List (Nat × Int)) (i : Nat) : A0X acc (ws ++ vs) i = A0X (A0X acc ws i) vs i := by simp [A0X, List.foldl_append]
theorem A0Y {ws : List (Nat × Int)} {i : Nat} (h : ∀ w ∈ ws, w.1 ≠ i) (acc : Int) : A0X acc ws i = acc := by
 induction ws generalizing acc with
 | nil => rfl
 | cons w ws ih =>
   show A0X (if w.1 = i then w.2 else acc) ws i = acc;rw [if_neg (h w (by simp)), ih fun w hw => h w (by simp [hw])]
theorem A2o {ws : List (Nat × Int)} {i : Nat} (h : ∃ w ∈ ws, w.1 = i) : ∃ w ∈ ws, w.1 = i /\ ∀ acc, A0X acc ws i = w.2 := by
 induction ws with
 | nil => obtain ⟨w, hw, _⟩ := h; cases hw
 | cons w ws ih =>
   by_cases h2 : ∃ w ∈ ws, w.1 = i
   . obtain ⟨v, h3, h4, h5⟩ := ih h2;exact ⟨v, by simp [h3], h4, fun acc => h5 _⟩
   . have hn : ∀ v ∈ ws, v.1 ≠ i := fun v hv e => h2 ⟨v, hv, e⟩;obtain ⟨v, hv, he⟩ := h;simp only [List.mem_cons] at hv;rcases hv with rfl | hv
     . refine ⟨v, by simp, he, fun acc => ?_⟩;show A0X (if v.1 = i then v.2 else acc) ws i = v.2;rw [if_pos he, A0Y hn]
     . exact absurd he (hn v hv)
theorem A0J {α : Type} (f : Nat -> List α) (n : Nat) : (List.range (n + 1)).flatMap f = (List.range n).flatMap f ++ f n := by
 rw [List.range_succ, List.flatMap_append]; simp
theorem A2p {f : Nat -> List (Nat × Int)} {x0 i : Nat} : ∀ (n : Nat), x0 < n -> (∀ x, x < n -> x ≠ x0 -> ∀ w ∈ f x, w.1 ≠ i) -> ∀ acc, A0X acc ((List.range n).flatMap f) i = A0X acc (f x0) i := by
 intro n;induction n with
 | zero => intro h; omega
 | succ n ih =>
   intro h0 hne acc;rw [A0J, A0b];by_cases hx : x0 = n
   . subst hx;rw [A0Y (ws := (List.range x0).flatMap f) fun w hw => by
       simp only [List.mem_flatMap, List.mem_range] at hw;obtain ⟨x, hx, hw⟩ := hw;exact hne x (by omega) (by omega) w hw]
   . rw [ih (by omega) (fun x hx => hne x (by omega)) acc, A0Y (hne n (by omega) fun e => hx e.symm)]
theorem A3D {f g : Nat -> List (Nat × Int)} {i j : Nat} : ∀ (n : Nat), (∀ x, x < n -> ∀ acc, A0X acc (f x) i = A0X acc (g x) j) -> ∀ acc, A0X acc ((List.range n).flatMap f) i = A0X acc ((List.range n).flatMap g) j := by
 intro n;induction n with
 | zero => intro _ acc; rfl
 | succ n ih => intro h acc; rw [A0J, A0J, A0b, A0b, ih (fun x hx => h x (by omega)), h n (by omega)]
theorem A3E (o : Nat) {l : List Nat} (p : Nat -> Nat) (v : Nat -> Int) (i : Nat) : ∀ acc, A0X acc (l.map fun b => (o + p b, v b)) (o + i) = A0X acc (l.map fun b => (p b, v b)) i := by
 induction l with
 | nil => intro acc; rfl
 | cons b l ih =>
   intro acc;show A0X (if o + p b = o + i then v b else acc) _ _ = A0X (if p b = i then v b else acc) _ _;rw [ih];by_cases h : p b = i
   . rw [if_pos h, if_pos (by omega)]
   . rw [if_neg h, if_neg (by omega)]
def cobR (s : ShfV) (h i a : Nat) : List (Nat × Int) := (List.range (A0q s h i).2.2.1.toNat).map fun b => ((A0P s (fc s.1 h i)).toNat + b, ((A0q s h i).2.2.2.getD (a * (A0q s h i).2.2.1.toNat + b) 0 * sgn s.2.1 i) % s.2.1)
def rowC (s : ShfV) (W h a : Nat) : List Int := wr ((List.range (fcs s.1 h).length).flatMap fun i => cobR s h i a) (List.replicate W 0)
theorem A4b {W r r' c c' : Nat} (hc : c < W) (hc' : c' < W) (h : r ≠ r') : r * W + c ≠ r' * W + c' := by
 intro e;rcases Nat.lt_or_gt_of_ne h with h | h
 . have := Nat.mul_le_mul_right W (show r + 1 ≤ r' by omega);rw [Nat.add_mul, Nat.one_mul] at this; omega
 . have := Nat.mul_le_mul_right W (show r' + 1 ≤ r by omega);rw [Nat.add_mul, Nat.one_mul] at this; omega
theorem A1u {s : ShfV} (ho : A0v s) {h h' : Nat} (hlt : h < h') (hh : h' < s.1.length) (hd : (s.1.getD h []).length = (s.1.getD h' []).length) : A0P s h + s.2.2.1.getD h 0 ≤ A0P s h' := by
 have hsl := ho.2.2.1.1;have := A2E (c := s.1) (d := ((s.1.getD h' []).length : Int) - 1) ho.2.2.1.2.1 (show h + 1 ≤ h' by omega) (by omega);simp only [psum] at this;rw [if_pos (by omega)] at this;unfold A0P;rw [hd]; exact this
theorem A1F {s : ShfV} (h : A0v s) {k : Nat} (hk : k < s.1.length) : ((s.2.2.1.getD k 0).toNat : Int) = s.2.2.1.getD k 0 /\ (s.2.2.1.getD k 0).toNat ≤ 3 := by
 have := A0k h.2.2.1.2.1 (i := k) (by rw [h.2.2.1.1]; exact hk);omega
theorem A3o {s : ShfV} (ho : A0v s) {k : Int} (hk : 0 ≤ k) {n h : Nat} (hn : n < (A0w s.1 (k + 1) s.1.length).length) (hh : (A0w s.1 (k + 1) s.1.length).getD n 0 = (h : Int)) {a : Nat} (ha : a < (s.2.2.1.getD h 0).toNat) :
   rowL (cobM s k).2.2.2 (A0j s k).toNat ((A0P s h).toNat + a) = rowC s (A0j s k).toNat h a := by
 obtain ⟨D, hD⟩ : ∃ D, A0w s.1 (k + 1) s.1.length = D := ⟨_, rfl⟩;obtain ⟨W, hW⟩ : ∃ W, (A0j s k).toNat = W := ⟨_, rfl⟩;obtain ⟨H, hH⟩ : ∃ H, (A0j s (k + 1)).toNat = H := ⟨_, rfl⟩;have hat : ∀ m, m < D.length -> ∃ j : Nat, D.getD m 0 = (j : Int) /\ j < s.1.length /\ ((s.1.getD j []).length : Int) = k + 2 := fun m hm => by
   rw [<- hD] at hm ⊢;obtain ⟨j, q1, q2, q3⟩ := A2a hm;exact ⟨j, q1, q2, by omega⟩
 have hinj : ∀ m m', m < m' -> m' < D.length -> ∀ j j' : Nat, D.getD m 0 = (j : Int) -> D.getD m' 0 = (j' : Int) -> j < j' := fun m m' hlt hm' j j' e e' => by
   have hp : (A0w s.1 (k + 1) s.1.length).Pairwise (· < ·) := by
     unfold A0w;rw [List.pairwise_map];refine List.Pairwise.imp (fun h => by omega) ((List.pairwise_lt_range (n := s.1.length)).filter _)
   rw [hD] at hp;have := List.pairwise_iff_getElem.1 hp m m' (by omega) hm' hlt;rw [<- A0y (d := 0), <- A0y (d := 0), e, e'] at this;omega
 rw [hD] at hn hh;obtain ⟨j0, e0, hhl, hdim⟩ := hat n hn;obtain rfl : j0 = h := by rw [hh] at e0; omega
 have hst := A1F ho hhl;obtain ⟨T0, T1⟩ := A0a ho hhl;rw [show ((s.1.getD j0 []).length : Int) - 1 = k + 1 by omega] at T1;have hrl : (A0P s j0).toNat + a < H := by omega
 obtain ⟨c1, c2⟩ := A0M ho k;have hlen : (cobM s k).2.2.2.length = H * W := by
   show (wr _ _).length = _;rw [A0g, List.length_replicate, hW, hH]
 rw [hW];refine List.ext_getElem ?_ fun c hc1 hc2 => ?_
 . rw [A0V hlen hrl, rowC, A0g, List.length_replicate]
 . have hcW : c < W := by rw [A0V hlen hrl] at hc1; exact hc1
   rw [<- A0y (d := 0) hc1, <- A0y (d := 0) hc2, A1A hcW, rowC, A2H _ _ _ (by simpa using hcW)];have hidx : ((A0P s j0).toNat + a) * W + c < H * W := A3J hrl hcW;have e1 : (cobM s k).2.2.2 = wr (cobW s k) (List.replicate (H * W) 0) := by rw [cobM, hW, hH]
   rw [e1, A2H _ _ _ (by simpa using hidx)];have z1 : (List.replicate (H * W) (0 : Int)).getD (((A0P s j0).toNat + a) * W + c) 0 = 0 := by simp [List.getD_eq_getElem?_getD, List.getElem?_replicate, hidx]
   have z2 : (List.replicate W (0 : Int)).getD c 0 = 0 := by simp [List.getD_eq_getElem?_getD, List.getElem?_replicate, hcW]
   rw [z1, z2];have e2 : cobW s k = (List.range D.length).flatMap fun n => A3w s W (D.getD n 0).toNat := by rw [cobW, if_neg (by omega), hD, hW]
   rw [e2];have wloc : ∀ h', h' < s.1.length -> ((s.1.getD h' []).length : Int) = k + 2 -> ∀ i, i < (fcs s.1 h').length -> ∀ a' w, w ∈ A2U s W h' i a' -> ∃ c', c' < W /\ w.1 = ((A0P s h').toNat + a') * W + c' := fun h' hh' hd' i hi a' w hw => by
     obtain ⟨f, R, C, T, L, B⟩ := blk ho hh' hd' hi;rw [hW] at B;simp only [A2U, List.mem_map, List.mem_range] at hw;obtain ⟨b, hb, rfl⟩ := hw;rw [B.cols, Int.toNat_natCast] at hb;have := B.bL;refine ⟨(A0P s (fc s.1 h' i)).toNat + b, by rw [B.fc_, B.left, Int.toNat_natCast]; omega, by simp only []; omega⟩
   rw [A2p D.length hn fun m hm hne w hw => ?_]
   . rw [hh, Int.toNat_natCast];unfold A3w;refine A3D _ (fun i hi acc => ?_) 0;obtain ⟨f, R, C, T, L, B⟩ := blk ho hhl hdim hi;have haR : a < (A0q s j0 i).2.1.toNat := by
       have := (A0c ho hhl hi).2.2.1;rw [this]; exact ha
     unfold A3k;rw [A2p _ haR fun a' _ hne w hw => by
       obtain ⟨c', h1, h2⟩ := wloc j0 hhl hdim i hi a' w hw;rw [h2]; exact A4b h1 hcW (by omega)]
     unfold A2U cobR;have := A3E (((A0P s j0).toNat + a) * W) (l := List.range (A0q s j0 i).2.2.1.toNat) (fun b => (A0P s (fc s.1 j0 i)).toNat + b) (fun b => ((A0q s j0 i).2.2.2.getD (a * (A0q s j0 i).2.2.1.toNat + b) 0 * sgn s.2.1 i) % s.2.1) c acc;rw [<- this];congr 1;refine List.map_congr_left fun b _ => ?_;rw [Nat.add_assoc]
   . obtain ⟨j, q1, q2, q3⟩ := hat m hm;rw [q1, Int.toNat_natCast] at hw;simp only [A3w, A3k, List.mem_flatMap, List.mem_range] at hw;obtain ⟨i, hi, a', ha', hw⟩ := hw;obtain ⟨c', h1, h2⟩ := wloc j q2 q3 i hi a' w hw;rw [h2];refine A4b h1 hcW fun e => ?_;have hra : (a' : Int) < s.2.2.1.getD j 0 := by
       have := (A0c ho q2 hi).2.2.1;have hs2 := A1F ho q2;omega
     obtain ⟨U0, U1⟩ := A0a ho q2;rcases Nat.lt_or_gt_of_ne hne with hlt | hlt
     . have := A1u ho (hinj m n hlt hn j j0 q1 hh) hhl (by omega);omega
     . have := A1u ho (hinj n m hlt hm j0 j hh q1) q2 (by omega);omega
def addL (p c : Int) (xs ys : List Int) : List Int := (List.range xs.length).map fun i => (xs.getD i 0 + c * ys.getD i 0) % p
theorem A0s (p c : Int) (xs ys : List Int) : (addL p c xs ys).length = xs.length := by simp [addL]
theorem A3N {p c a b : Int} (hp : 2 ≤ p /\ p ≤ 251) (hc : 0 ≤ c /\ c ≤ p - 1) (ha : 0 ≤ a /\ a ≤ p - 1) (hb : 0 ≤ b /\ b ≤ p - 1) : (IntKind.i64.wrap (a + IntKind.i64.wrap (c * b))).tmod p = (a + c * b) % p := by
 have := A2M hp hc hb;rw [A0A (x := c * b) (by omega) (by omega), A0A (by omega) (by omega), A3L (by omega)]
theorem Al3.val (xs ys : List Int) (c p : Int) (hp : 2 ≤ p /\ p ≤ 251) (hc : 0 ≤ c /\ c ≤ p - 1) (hx : A0N 0 (p - 1) xs) (hy : A0N 0 (p - 1) ys) (hl : ys.length = xs.length) (hn : xs.length < 1048576) : Al3.F (xs, ys, c, p, ()) = some ((addL p c xs ys, ()), ()) := by
 refine Al3.of _ _ _ _ ?_;have g := Goes.push (R := ((List Int × Unit) × Unit)) (fun k i s => Al3.l3 k xs ys c p (xs.length : Int) (i : Int) s) xs.length (fun i => (xs.getD i 0 + c * ys.getD i 0) % p) (fun i s hi hs => Goes.succ fun k => by
   rw [Al3.l3_eq, if_pos (ltI.2 hi), if_pos (idxI.2 hi), if_pos (idxI.2 (by omega)), if_neg (by omega)];simp only [Int.toNat_natCast, A3N hp hc (A0k hx hi) (A0k hy (i := i) (by omega))];rw [if_pos (A1J hs (by omega)), A0x (by omega)])
 refine Ev.of_eq (g _ ((Ev.const _).succ fun k => ?_)) fun k => rfl;rw [Al3.l3_eq, if_neg (by simp)]; rfl
theorem Ag6.val (xs ys : List Int) (c p : Int) (hp : 2 ≤ p /\ p ≤ 251) (hc : 0 ≤ c /\ c ≤ p - 1) (hx : A0N 0 (p - 1) xs) (hy : A0N 0 (p - 1) ys) (hl : ys.length = xs.length) (hn : xs.length < 1048576) : Ag6.F (xs, ys, c, p, ()) = some ((addL p c xs ys, ()), ()) := by
 refine Ag6.of _ _ _ _ ?_;have g := Goes.push (R := ((List Int × Unit) × Unit)) (fun k i s => Ag6.l3 k xs ys c p (i : Int) s) xs.length (fun i => (xs.getD i 0 + c * ys.getD i 0) % p) (fun i s hi hs => Goes.succ fun k => by
   rw [Ag6.l3_eq, if_pos (ltI.2 hi), if_pos (idxI.2 hi), if_pos (idxI.2 (by omega)), if_neg (by omega)];simp only [Int.toNat_natCast, A3N hp hc (A0k hx hi) (A0k hy (i := i) (by omega))];rw [if_pos (A1J hs (by omega)), A0x (by omega)])
 refine Ev.of_eq (g _ ((Ev.const _).succ fun k => ?_)) fun k => rfl;rw [Ag6.l3_eq, if_neg (by simp)]; rfl
def A1N (m : MatV) (v : List Int) : List Int := (List.range m.2.1.toNat).map fun i => sumN (fun k => m.2.2.2.getD (i * m.2.2.1.toNat + k) 0 * v.getD k 0) m.2.2.1.toNat % m.1
theorem A2T (m : MatV) (v : List Int) : (A1N m v).length = m.2.1.toNat := by simp [A1N]
theorem Al4.val (m : MatV) (v : List Int) (hm : MatOk m) (hv : A0N 0 (m.1 - 1) v) (hl : m.2.2.1 = (v.length : Int)) : Al4.F (m, v, ()) = some ((A1N m v, ()), ()) := by
 obtain ⟨R, C, h1, h2, h3, h4, h5, h6, h7⟩ := hm.nat;obtain ⟨p, r, c, xs⟩ := m;simp only [] at h1 h2 h5 h6 h7 hl hv;subst h1 h2;have hvl : v.length = C := by omega
 refine Al4.of _ _ _ _ _ ?_;obtain ⟨s, hs, hg⟩ := Goes.loop (R := ((List Int × Unit) × Unit)) (fun k i (x : List Int) => Al4.l3 k v (R : Int) (i : Int) p (R : Int) (C : Int) xs x) R (fun i x => x = (List.range i).map fun i => sumN (fun k => xs.getD (i * C + k) 0 * v.getD k 0) C % p) (fun i x hi hx => ⟨_, rfl, Goes.succ fun k => by
   have l1 := A0V h5 hi;rw [Al4.l3_eq, if_pos (ltI.2 hi), Ae0.val p R C xs (by omega) (by omega) h5 i hi];simp only [Option.bind_some];rw [Af6.val _ _ p h6 (fun x hx => h7 x (A2y hx)) hv (by omega) (by omega)];simp only [Option.bind_some];have e : sumN (dotE (rowL xs C i) v) (rowL xs C i).length = sumN (fun k => xs.getD (i * C + k) 0 * v.getD k 0) C := by
     rw [l1];exact A1l fun k hk => by rw [dotE, A1A hk]
   rw [e, if_pos (by rw [hx]; simp only [List.length_map, List.length_range, List.length_cons, List.length_nil, bigA]; omega), A0x (by omega), hx, List.range_succ, List.map_append];rfl⟩) 0 [] (Nat.zero_le _) rfl
 refine Ev.of_eq (hg _ ((Ev.const _).succ fun k => ?_)) fun k => rfl;rw [Al4.l3_eq, if_neg (by simp), hs];simp only [A1N, Int.toNat_natCast]
theorem Am5.val (xs ys : List Int) (p : Int) (hp : 2 ≤ p /\ p ≤ 251) (hx : A0N 0 (p - 1) xs) (hy : A0N 0 (p - 1) ys) (hl : xs.length ≤ ys.length) (hn : xs.length ≤ 1048576) :
   Am5.F (xs, ys, p, ()) = some ((sumN (dotE xs ys) xs.length % p, ()), ()) := by
 refine Am5.of _ _ _ ?_;obtain ⟨s, hs, hg⟩ := Goes.loop (R := ((Int × Unit) × Unit)) (fun k i (s : Int) => Am5.l3 k xs ys p s (i : Int)) xs.length (fun i s => s = sumN (dotE xs ys) i % p) (fun i s hi h2 => ⟨_, rfl, Goes.succ fun k => by
   have hm := A2M hp (A0k hx hi) (A0k hy (show i < ys.length by omega));have hme := A3G (a := sumN (dotE xs ys) i) hp.1;rw [Am5.l3_eq, if_pos (ltI.2 hi), if_pos (idxI.2 hi), if_pos (idxI.2 (show i < ys.length by omega)), if_neg (by omega), A0x (by omega), h2];simp only [Int.toNat_natCast];rw [A0A (x := xs.getD i 0 * ys.getD i 0) (by omega) (by omega), A0A (by omega) (by omega), A3L (by omega), Int.emod_add_emod];rfl⟩) 0 0 (Nat.zero_le _) (by simp [sumN])
 refine Ev.of_eq (hg _ ((Ev.const _).succ fun k => ?_)) fun k => rfl;rw [Am5.l3_eq, if_neg (by simp), hs]
theorem Am6.val (xs : List Int) (p : Int) (hp : 2 ≤ p /\ p ≤ 251) (hn : xs.length ≤ 1048576) : ∃ v, Am6.F (xs, p, ()) = some ((v, ()), ()) /\ (v = true ↔ xs.length ≤ 64 /\ A0N 0 (p - 1) xs) := by
 obtain ⟨v, hv, hv'⟩ := Ev.allP (L := fun k i => Am6.l2 k xs p (i : Int)) (a := ()) (b := ()) (n := xs.length) (fun i => 0 ≤ xs.getD i 0 /\ xs.getD i 0 ≤ p - 1) (decide ((xs.length : Int) ≤ 64)) (fun i hi => by
   have E := fun k => Am6.l2_eq k xs p (i : Int);simp only [if_pos (ltI.2 hi), if_pos (idxI.2 hi), Int.toNat_natCast, A0A (x := p - 1) (by omega) (by omega), Aa4.val, Option.bind_some, A0x (show i < 4611686018427387904 by omega)] at E;by_cases h : 0 ≤ xs.getD i 0 /\ xs.getD i 0 ≤ p - 1
   . exact .inl ⟨h, fun k => by rw [E, if_neg (by rw [decide_eq_true h]; simp)]⟩
   . exact .inr ⟨h, fun k => by rw [E, if_pos (by rw [decide_eq_false h]; rfl)]⟩) ((Ev.const _).succ fun k => by rw [Am6.l2_eq, if_neg (by simp)]) 0 (Nat.zero_le _)
 refine ⟨v, Am6.of _ _ (hv.of_eq fun k => rfl), hv'.trans ⟨fun ⟨h1, h2⟩ => ⟨by simp at h1; omega, allIn_iff.2 fun i hi => h2 i (Nat.zero_le _) hi⟩, fun ⟨h1, h2⟩ => ⟨by simp; omega, fun i _ hi => allIn_iff.1 h2 i hi⟩⟩⟩
theorem Aq1.val (p n : Int) (xs : List Int) (hp : 2 ≤ p /\ p ≤ 251) (hn : xs.length ≤ 1048576) (h64 : n ≤ 64) : ∃ v, Aq1.F (p, n, xs, ()) = some ((v, ()), ()) /\ (v = true ↔ (xs.length : Int) = n /\ A0N 0 (p - 1) xs) := by
 obtain ⟨v, hv, hv'⟩ := Am6.val xs p hp hn;rw [Aq1.eq, Aq1.T, hv];simp only [Option.bind_some];cases v with
 | true =>
   obtain ⟨h1, h2⟩ := hv'.1 rfl;exact ⟨_, by rw [if_pos rfl], by simp [h2]⟩
 | false => exact ⟨false, by rw [if_neg (by simp)], by
     simp only [Bool.false_eq_true, false_iff];exact fun ⟨h1, h2⟩ => absurd (hv'.2 ⟨by omega, h2⟩) (by simp)⟩
theorem A2r {c : List (List Int)} (h : CplxOk c) {j f : Nat} (hj : j ≤ f) (hf : f < c.length) (h1 : (c.getD f []).length = 1) : (c.getD j []).length = 1 := by
 rcases Nat.lt_or_ge j f with hlt | hge
 . have h2 := h.sorted j f hlt hf;have h3 := (h.2 j (by omega)).1.1.1;unfold cmpS at h2;rcases A0E (c.getD j []).length (c.getD f []).length with ⟨g, e⟩ | ⟨g, e⟩ | ⟨g, e⟩
   . omega
   . omega
   . rw [e, if_pos (by omega)] at h2; omega
 . have : j = f := by omega
   rw [this]; exact h1
theorem Af4.val (s : ShfV) (h : A0v s) (f : Nat) (hf : f < s.1.length) (h1 : (s.1.getD f []).length = 1) : Af4.F (s, (f : Int), ()) = some ((A0P s f, ()), ()) := by
 have hT : ∀ r, Ev (fun n => Af4.T n s.1 s.2.1 s.2.2.1 s.2.2.2 (f : Int)) r -> Af4.F (s, (f : Int), ()) = some r := fun r hr => Af4.of _ _ _ _ _ hr;have hcl := h.1.1;have hsl := h.2.2.1.1;have ha := h.2.2.1.2.1;obtain ⟨x, hx, hg⟩ := Goes.loop (R := ((Int × Unit) × Unit)) (fun k i (x : Int) => Af4.l3 k s.1 s.2.1 s.2.2.1 s.2.2.2 (f : Int) x (i : Int)) f (fun i x => x = psum s.1 s.2.2.1 0 i) (fun i x hi h2 => ⟨_, rfl, Goes.succ fun k => by
   have b := A1f (c := s.1) (d := 0) ha i (by omega);have g := A0k ha (show i < s.2.2.1.length by omega);have hl := A2r h.1 (Nat.le_of_lt hi) hf h1;rw [Af4.l3_eq, if_pos (ltI.2 hi), if_pos (by omega)];simp only [Int.toNat_natCast, psum];rw [A0x (by omega), h2, A0A (by omega) (by omega), if_pos (by omega)]⟩) 0 0 (Nat.zero_le _) rfl
 refine hT _ ((hg _ ((Ev.const _).succ fun k => ?_)).of_eq fun k => rfl);rw [Af4.l3_eq, if_neg (by simp), hx, A0P, h1]; rfl
def rowW (m : MatV) (L W : Nat) (t : Int) (a : Nat) : List Int := wr ((List.range m.2.2.1.toNat).map fun b => (L + b, (m.2.2.2.getD (a * m.2.2.1.toNat + b) 0 * t) % m.1)) (List.replicate W 0)
theorem A0f (m : MatV) (L W : Nat) (t : Int) (a : Nat) : (rowW m L W t a).length = W := by rw [rowW, A0g, List.length_replicate]
theorem A4A {m : MatV} (hp : 2 ≤ m.1) (L W : Nat) (t : Int) (a : Nat) : A0N 0 (m.1 - 1) (rowW m L W t a) := by
 refine A4c (P := fun a => 0 ≤ a /\ a ≤ m.1 - 1) _ _ (fun w hw => ?_) fun a ha => ?_
 . simp only [List.mem_map] at hw;obtain ⟨b, _, rfl⟩ := hw;exact A3G hp
 . have := (List.mem_replicate.1 ha).2;omega
theorem Af0.val (m : MatV) (hm : MatOk m) (L W : Nat) (t : Int) (ht : 0 ≤ t /\ t ≤ m.1 - 1) (hL : (L : Int) + m.2.2.1 ≤ (W : Int)) (hW : W ≤ 32) : Af0.F (m, (L : Int), (W : Int), t, ()) = some (((List.range m.2.1.toNat).map (rowW m L W t), ()), ()) := by
 obtain ⟨R, C, e1, e2, hR, hC, hl, hp, hin⟩ := hm.nat;obtain ⟨p, r, c, xs⟩ := m;simp only [] at e1 e2 hl hp hin hL ht;subst e1 e2;refine Af0.of _ _ _ _ _ _ _ ?_;have g := Goes.push (R := ((List (List Int) × Unit) × Unit)) (fun k a s => Af0.l3 k p (R : Int) (C : Int) xs (L : Int) (W : Int) t (a : Int) s) R (rowW (p, (R : Int), (C : Int), xs) L W t) (fun a s ha hs => by
   have g0 : Goes (fun k => Af0.l3 k p (R : Int) (C : Int) xs (L : Int) (W : Int) t (a : Int) s) (fun k => Af0.l7 k p (R : Int) (C : Int) xs (L : Int) (W : Int) t (a : Int) ((0 : Nat) : Int) s (List.replicate W 0)) := Goes.succ fun k => by
     rw [Af0.l3_eq, if_pos (ltI.2 ha), if_pos (by simp only [bigN]; omega), Int.toNat_natCast]; rfl
   have g1 := Goes.writes (R := ((List (List Int) × Unit) × Unit)) (fun k b x => Af0.l7 k p (R : Int) (C : Int) xs (L : Int) (W : Int) t (a : Int) (b : Int) s x) C W (fun b => [(L + b, (xs.getD (a * C + b) 0 * t) % p)]) (fun b x hb hx => Goes.succ fun k => by
     have hrc := A3J ha hb;have h2 : R * C ≤ 32 * 32 := Nat.mul_le_mul hR hC;have e : (a : Int) * (C : Int) = ((a * C : Nat) : Int) := by simp
     have hm := A2M hp (A0k hin (show a * C + b < xs.length by omega)) ht;rw [Af0.l7_eq, if_pos (ltI.2 hb), e, A0A (x := ((a * C : Nat) : Int)) (by omega) (by omega), A0A (x := ((a * C : Nat) : Int) + (b : Int)) (by omega) (by omega), show ((a * C : Nat) : Int) + (b : Int) = ((a * C + b : Nat) : Int) by omega, if_pos (by omega), if_neg (by omega), A0A (x := (L : Int) + (b : Int)) (by omega) (by omega), show (L : Int) + (b : Int) = ((L + b : Nat) : Int) by omega, if_pos (by omega)];simp only [Int.toNat_natCast];rw [A0A (x := xs.getD (a * C + b) 0 * t) (by omega) (by omega), A3L (by omega), A0x (by omega)]; rfl) (List.replicate W 0) (by simp)
   rw [<- A1p] at g1;refine g0.trans (g1.trans (Goes.succ fun k => ?_));rw [Af0.l7_eq, if_neg (by simp), if_pos (A1J hs (by omega)), A0x (by omega)];simp only [rowW, Int.toNat_natCast])
 refine Ev.of_eq (g _ ((Ev.const _).succ fun k => ?_)) fun k => rfl;rw [Af0.l3_eq, if_neg (by simp)]; rfl
theorem Ak8.val (A B : List (List Int)) (p : Int) (W : Nat) (hp : 2 ≤ p /\ p ≤ 251) (hl : B.length = A.length) (hn : A.length ≤ 1000) (hW : W ≤ 1000) (hA : ∀ x ∈ A, x.length = W /\ A0N 0 (p - 1) x) (hB : ∀ x ∈ B, x.length = W /\ A0N 0 (p - 1) x) :
   Ak8.F (A, B, p, ()) = some (((List.range A.length).map fun i => addL p 1 (A.getD i []) (B.getD i []), ()), ()) := by
 refine Ak8.of _ _ _ ?_;have g := Goes.push (R := ((List (List Int) × Unit) × Unit)) (fun k i s => Ak8.l3 k A B p (i : Int) s) A.length (fun i => addL p 1 (A.getD i []) (B.getD i [])) (fun i s hi hs => Goes.succ fun k => by
   obtain ⟨a1, a2⟩ := hA _ (A0z [] hi);obtain ⟨b1, b2⟩ := hB _ (A0z [] (show i < B.length by omega));rw [Ak8.l3_eq, if_pos (ltI.2 hi), if_pos (idxI.2 hi), if_pos (idxI.2 (by omega))];simp only [Int.toNat_natCast, Ag6.val _ _ 1 p hp (by omega) a2 b2 (by omega) (by omega), Option.bind_some];rw [if_pos (A1J hs (by omega)), A0x (by omega)])
 refine Ev.of_eq (g _ ((Ev.const _).succ fun k => ?_)) fun k => rfl;rw [Ak8.l3_eq, if_neg (by simp)]
structure EdgeAt (s : ShfV) (e f0 f1 R C0 C1 W H T L0 L1 : Nat) : Prop where
 lt : e < s.1.length
 two : (fcs s.1 e).length = 2
 b0 : Blk s 0 e 0 f0 R C0 W H T L0
 b1 : Blk s 0 e 1 f1 R C1 W H T L1
 o0 : (s.1.getD f0 []).length = 1
 o1 : (s.1.getD f1 []).length = 1
 st : s.2.2.1.getD e 0 = (R : Int)
 ap : L0 + C0 ≤ L1 ∨ L1 + C1 ≤ L0
theorem edgeAt {s : ShfV} (ho : A0v s) {e : Nat} (he : e < s.1.length) (hd : ((s.1.getD e []).length : Int) = 2) : ∃ f0 f1 R C0 C1 T L0 L1, EdgeAt s e f0 f1 R C0 C1 (A0j s 0).toNat (A0j s 1).toNat T L0 L1 := by
 have h2 : (fcs s.1 e).length = 2 := by rw [A0O, if_pos (by omega)]; omega
 obtain ⟨f0, R, C0, T, L0, b0⟩ := blk ho (k := 0) he (by omega) (i := 0) (by omega);obtain ⟨f1, R', C1, T', L1, b1⟩ := blk ho (k := 0) he (by omega) (i := 1) (by omega);obtain ⟨g0, q1, q2, q3, q4, q5⟩ := A2X ho.1 he (i := 0) (by omega);obtain ⟨g1, r1, r2, r3, r4, r5⟩ := A2X ho.1 he (i := 1) (by omega);have eg0 : g0 = f0 := by have := b0.at_; rw [q1] at this; omega
 have eg1 : g1 = f1 := by have := b1.at_; rw [r1] at this; omega
 subst eg0 eg1;have hT : T = T' := by have := b0.top; have := b1.top; omega
 have m0 := (A0c ho he (i := e) (j := 0) (by omega));have m1 := (A0c ho he (i := e) (j := 1) (by omega));have hR : R = R' := by have := b0.rows; have := b1.rows; have := m0.2.2.1; have := m1.2.2.1; omega
 subst hT hR;have o0 : (s.1.getD g0 []).length = 1 := by rw [q3, A0L q4]; omega
 have o1 : (s.1.getD g1 []).length = 1 := by rw [r3, A0L r4]; omega
 have hs0 : s.2.2.1.getD g0 0 = (C0 : Int) := by rw [<- b0.cols, m0.2.2.2, q1]; rfl
 have hs1 : s.2.2.1.getD g1 0 = (C1 : Int) := by rw [<- b1.cols, m1.2.2.2, r1]; rfl
 have hne : g0 ≠ g1 := fun h => by
   have e1 : A0C (s.1.getD e []) 0 = A0C (s.1.getD e []) 1 := by rw [<- q3, <- r3, h]
   have hr := (ho.1.2 e he).1.2.2 1 (by omega) (by omega);obtain ⟨x, y, hxy⟩ : ∃ x y, s.1.getD e [] = [x, y] := by
     have hl : (s.1.getD e []).length = 2 := by omega
     match hx : s.1.getD e [], hl with
     | [x, y], _ => exact ⟨x, y, rfl⟩
   rw [hxy] at e1 hr;simp [A0C] at e1 hr;omega
 refine ⟨g0, g1, R, C0, C1, T, L0, L1, he, h2, b0, b1, o0, o1, by rw [<- b0.rows, m0.2.2.1], ?_⟩;have l0 := b0.left;have l1 := b1.left;rcases Nat.lt_or_gt_of_ne hne with h | h
 . have := A1u ho h b1.flt (by omega);exact .inl (by omega)
 . have := A1u ho h b0.flt (by omega);exact .inr (by omega)
theorem rowC_eq {s : ShfV} (ho : A0v s) {e f0 f1 R C0 C1 W H T L0 L1 : Nat} (E : EdgeAt s e f0 f1 R C0 C1 W H T L0 L1) {a : Nat} (ha : a < R) : addL s.2.1 1 (rowW (A0q s e 0) L0 W 1 a) (rowW (A0q s e 1) L1 W (s.2.1 - 1) a) = rowC s W e a := by
 have hp := ho.2.1.1;refine List.ext_getElem ?_ fun c h1 h2 => ?_
 . rw [A0s, A0f, rowC, A0g, List.length_replicate]
 . have hc : c < W := by rw [A0s, A0f] at h1; exact h1
   have z : (List.replicate W (0 : Int)).getD c 0 = 0 := by simp [List.getD_eq_getElem?_getD, List.getElem?_replicate, hc]
   obtain ⟨l0, hl0⟩ : ∃ l0, ((List.range (A0q s e 0).2.2.1.toNat).map fun b => (L0 + b, ((A0q s e 0).2.2.2.getD (a * (A0q s e 0).2.2.1.toNat + b) 0 * 1) % s.2.1)) = l0 := ⟨_, rfl⟩;obtain ⟨l1, hl1⟩ : ∃ l1, ((List.range (A0q s e 1).2.2.1.toNat).map fun b => (L1 + b, ((A0q s e 1).2.2.2.getD (a * (A0q s e 1).2.2.1.toNat + b) 0 * (s.2.1 - 1)) % s.2.1)) = l1 := ⟨_, rfl⟩;have r0 : (rowW (A0q s e 0) L0 W 1 a).getD c 0 = A0X 0 l0 c := by rw [rowW, A2H _ _ _ (by simpa using hc), z, E.b0.prime, hl0]
   have r1 : (rowW (A0q s e 1) L1 W (s.2.1 - 1) a).getD c 0 = A0X 0 l1 c := by rw [rowW, A2H _ _ _ (by simpa using hc), z, E.b1.prime, hl1]
   have rc : (rowC s W e a).getD c 0 = A0X (A0X 0 l0 c) l1 c := by
     rw [rowC, A2H _ _ _ (by simpa using hc), z, E.two];have e0 : cobR s e 0 a = l0 := by
       rw [<- hl0, cobR, E.b0.fc_, E.b0.left, Int.toNat_natCast]; rfl
     have e1 : cobR s e 1 a = l1 := by
       rw [<- hl1, cobR, E.b1.fc_, E.b1.left, Int.toNat_natCast]; rfl
     show A0X 0 ((List.range 2).flatMap _) c = _;rw [A0J, A0J, A0b, A0b, e0, e1]; rfl
   have rng0 : ∀ w ∈ l0, L0 ≤ w.1 /\ w.1 < L0 + C0 /\ 0 ≤ w.2 /\ w.2 ≤ s.2.1 - 1 := fun w hw => by
     rw [<- hl0, E.b0.cols, Int.toNat_natCast] at hw;simp only [List.mem_map, List.mem_range] at hw;obtain ⟨b, hb, rfl⟩ := hw;exact ⟨by simp only []; omega, by simp only []; omega, A3G hp.1⟩
   have rng1 : ∀ w ∈ l1, L1 ≤ w.1 /\ w.1 < L1 + C1 /\ 0 ≤ w.2 /\ w.2 ≤ s.2.1 - 1 := fun w hw => by
     rw [<- hl1, E.b1.cols, Int.toNat_natCast] at hw;simp only [List.mem_map, List.mem_range] at hw;obtain ⟨b, hb, rfl⟩ := hw;exact ⟨by simp only []; omega, by simp only []; omega, A3G hp.1⟩
   have hlow : 0 ≤ A0X 0 l0 c /\ A0X 0 l0 c ≤ s.2.1 - 1 := by
     by_cases h : ∃ w ∈ l0, w.1 = c
     . obtain ⟨w, hw, _, h3⟩ := A2o h;rw [h3]; exact (rng0 w hw).2.2
     . rw [A0Y fun w hw e => h ⟨w, hw, e⟩]; omega
   rw [<- A0y (d := 0) h1, <- A0y (d := 0) h2, rc, addL, A0I _ _ (by rw [A0f]; exact hc), r0, r1];by_cases h : ∃ w ∈ l1, w.1 = c
   . obtain ⟨w, hw, hwc, h3⟩ := A2o h;have q := rng1 w hw;rw [h3, h3, A0Y fun v hv e => by
       have := rng0 v hv;have := E.ap;omega]
     rw [Int.zero_add, Int.one_mul, Int.emod_eq_of_lt (by omega) (by omega)]
   . rw [A0Y (ws := l1) fun w hw e => h ⟨w, hw, e⟩, A0Y (ws := l1) fun w hw e => h ⟨w, hw, e⟩];rw [Int.mul_zero, Int.add_zero, Int.emod_eq_of_lt (by omega) (by omega)]
def A0U (s : ShfV) : List Int := A0w s.1 1 s.1.length
def A1x (s : ShfV) (n : Nat) : List (List Int) := (List.range (s.2.2.1.getD ((A0U s).getD n 0).toNat 0).toNat).map (rowC s (A0j s 0).toNat ((A0U s).getD n 0).toNat)
def A1I (s : ShfV) : List (List Int) := (List.range (A0U s).length).flatMap (A1x s)
theorem A2V {s : ShfV} (ho : A0v s) {n : Nat} (hn : n < (A0U s).length) : ∃ e f0 f1 R C0 C1 T L0 L1, (A0U s).getD n 0 = ((e : Nat) : Int) /\ EdgeAt s e f0 f1 R C0 C1 (A0j s 0).toNat (A0j s 1).toNat T L0 L1 := by
 obtain ⟨e, q1, q2, q3⟩ := A2a hn;obtain ⟨f0, f1, R, C0, C1, T, L0, L1, E⟩ := edgeAt ho q2 (by omega);exact ⟨e, f0, f1, R, C0, C1, T, L0, L1, q1, E⟩
theorem A2q {s : ShfV} (ho : A0v s) {n : Nat} (hn : n < (A0U s).length) : (A1x s n).length ≤ 3 := by
 obtain ⟨e, f0, f1, R, C0, C1, T, L0, L1, q, E⟩ := A2V ho hn;have := (A1F ho E.lt).2;simp only [A1x, List.length_map, List.length_range, q, Int.toNat_natCast];exact this
theorem A3P {f : Nat -> List (List Int)} : ∀ n, (∀ i, i < n -> (f i).length ≤ 3) -> ((List.range n).flatMap f).length ≤ 3 * n := by
 intro n;induction n with
 | zero => intro _; simp
 | succ n ih =>
   intro h;have h1 := ih fun i hi => h i (by omega);have h2 := h n (by omega);rw [A0J, List.length_append]; omega
theorem Ah3.val (s : ShfV) (ho : A0v s) : Ah3.F (s, ()) = some ((A1I s, ()), ()) := by
 have hT : ∀ r, Ev (fun n => Ah3.T n s.1 s.2.1 s.2.2.1 s.2.2.2) r -> Ah3.F (s, ()) = some r := fun r hr => Ah3.of _ _ _ _ hr;have hp := ho.2.1.1;have hcl := ho.1.1;obtain ⟨c1, c2⟩ := A0M ho 0;have hN := A0D s.1 1 s.1.length;have hN : (A0U s).length ≤ s.1.length := hN;have hall : Ai5.F ((s.1, (s.2.1, (s.2.2.1, s.2.2.2))), ()) = some ((A0j s 0, ()), ()) := by
   rw [Ai5.eq, Ai5.T, Ad4.val' s ho 0 (by omega)]; rfl
 obtain ⟨y, hy, hg⟩ := Goes.loop (R := ((List (List Int) × Unit) × Unit)) (fun k n (y : List (List Int)) => Ah3.l5 k s.1 s.2.1 s.2.2.1 s.2.2.2 (A0j s 0) (n : Int) y (A0U s)) (A0U s).length (fun n y => y = (List.range n).flatMap (A1x s)) (fun n y hn h2 => ⟨_, rfl, Goes.succ fun k => by
   obtain ⟨e, f0, f1, R, C0, C1, T, L0, L1, q, E⟩ := A2V ho hn;have hlen := A3P (f := A1x s) n fun i hi => A2q ho (by omega);have hc3 := A2q ho hn;have two := E.two;have eW : ((A0j s 0).toNat : Int) = A0j s 0 := by omega
   have a0 := E.b0.at_;have a1 := E.b1.at_;have g0 : Aa5.F ((s.1, (s.2.1, (s.2.2.1, s.2.2.2))), (e : Int), 0, ()) = _ := Aa5.val s ho e 0 E.lt (by omega);have g1 : Aa5.F ((s.1, (s.2.1, (s.2.2.1, s.2.2.2))), (e : Int), 1, ()) = _ := Aa5.val s ho e 1 E.lt (by omega);have s0 : Af4.F ((s.1, (s.2.1, (s.2.2.1, s.2.2.2))), (f0 : Int), ()) = _ := Af4.val s ho f0 E.b0.flt E.o0;have s1 : Af4.F ((s.1, (s.2.1, (s.2.2.1, s.2.2.2))), (f1 : Int), ()) = _ := Af4.val s ho f1 E.b1.flt E.o1;have k0 := (A0c ho E.lt (j := 0) (by omega)).1;have k1 := (A0c ho E.lt (j := 1) (by omega)).1;have p0 := E.b0.prime;have p1 := E.b1.prime;have L0' := E.b0.bL;have L1' := E.b1.bL;have m0 := Af0.val (A0q s e 0) k0 L0 (A0j s 0).toNat 1 (by omega) (by rw [E.b0.cols]; omega) (by omega);have m1 := Af0.val (A0q s e 1) k1 L1 (A0j s 0).toNat (s.2.1 - 1) (by omega) (by rw [E.b1.cols]; omega) (by omega);rw [eW, E.b0.rows, Int.toNat_natCast] at m0;rw [eW, E.b1.rows, Int.toNat_natCast] at m1;have hR := (A1F ho E.lt).2;rw [E.st, Int.toNat_natCast] at hR;have hS := Ak8.val ((List.range R).map (rowW (A0q s e 0) L0 (A0j s 0).toNat 1)) ((List.range R).map (rowW (A0q s e 1) L1 (A0j s 0).toNat (s.2.1 - 1))) s.2.1 (A0j s 0).toNat hp (by simp) (by simp; omega) (by omega) (fun x hx => by
     simp only [List.mem_map] at hx;obtain ⟨a, _, rfl⟩ := hx;exact ⟨A0f _ _ _ _ _, by rw [<- p0]; exact A4A (by omega) _ _ _ _⟩) (fun x hx => by
     simp only [List.mem_map] at hx;obtain ⟨a, _, rfl⟩ := hx;exact ⟨A0f _ _ _ _ _, by rw [<- p1]; exact A4A (by omega) _ _ _ _⟩)
   have hS' : Ak8.F ((List.range R).map (rowW (A0q s e 0) L0 (A0j s 0).toNat 1), (List.range R).map (rowW (A0q s e 1) L1 (A0j s 0).toNat (s.2.1 - 1)), s.2.1, ()) = some ((A1x s n, ()), ()) := by
     rw [hS];have : (List.range ((List.range R).map (rowW (A0q s e 0) L0 (A0j s 0).toNat 1)).length).map (fun i => addL s.2.1 1 (((List.range R).map (rowW (A0q s e 0) L0 (A0j s 0).toNat 1)).getD i []) (((List.range R).map (rowW (A0q s e 1) L1 (A0j s 0).toNat (s.2.1 - 1))).getD i [])) = A1x s n := by
       rw [List.length_map, List.length_range, A1x, q, Int.toNat_natCast, E.st, Int.toNat_natCast];refine List.map_congr_left fun a ha => ?_;rw [List.mem_range] at ha;rw [A0I _ _ ha, A0I _ _ ha, rowC_eq ho E ha]
     rw [this]
   rw [Ah3.l5_eq, if_pos (ltI.2 hn), if_pos (idxI.2 hn)];simp only [Int.toNat_natCast, q, Aa1.val s.1 ho.1 e E.lt, Option.bind_some];rw [if_pos (idxI.2 hn), g0];simp only [Option.bind_some];rw [if_pos (by omega), Int.toNat_zero, a0, s0];simp only [Option.bind_some];rw [E.b0.left, m0];simp only [Option.bind_some];rw [if_pos (idxI.2 hn), g1];simp only [Option.bind_some];rw [if_pos (by omega), show (1 : Int).toNat = 1 from rfl, a1, s1];simp only [Option.bind_some];rw [E.b1.left, A0A (x := s.2.1 - 1) (by omega) (by omega), m1];simp only [Option.bind_some];rw [hS'];simp only [Option.bind_some];rw [if_pos (by rw [h2]; simp only [bigA]; omega), A0x (by omega), h2, A0J]⟩) 0 [] (Nat.zero_le _) rfl
 refine hT _ ((hg _ ((Ev.const _).succ fun k => ?_)).of_eq fun k => by rw [Ah3.T, hall]; simp only [Option.bind_some]; rw [Ac5.val s.1 1 (by omega) (by omega)]; rfl);rw [Ah3.l5_eq, if_neg (by simp), hy]; rfl
theorem A3u {c : List (List Int)} : ∀ n, (∀ j, j < n -> (c.getD j []).length = 1) -> A0w c 0 n = (List.range n).map fun (j : Nat) => (j : Int) := by
 intro n;induction n with
 | zero => intro _; rfl
 | succ n ih =>
   intro h;rw [A0Z, if_pos (by rw [beq_iff_eq]; have := h n (by omega); omega), ih fun j hj => h j (by omega), List.range_succ, List.map_append]; rfl
theorem A3d {c : List (List Int)} (h : CplxOk c) : ∀ n, n ≤ c.length -> ∃ m, m ≤ n /\ A0w c 0 n = ((List.range m).map fun (j : Nat) => (j : Int)) /\ ∀ j, j < m -> (c.getD j []).length = 1 := by
 intro n;induction n with
 | zero => intro _; exact ⟨0, by omega, rfl, fun j hj => by omega⟩
 | succ n ih =>
   intro hn;by_cases h1 : (c.getD n []).length = 1
   . have hall : ∀ j, j < n + 1 -> (c.getD j []).length = 1 := fun j hj => A2r h (show j ≤ n by omega) (by omega) h1;exact ⟨n + 1, Nat.le_refl _, A3u _ hall, hall⟩
   . obtain ⟨m, h2, h3, h4⟩ := ih (by omega);refine ⟨m, by omega, ?_, h4⟩;rw [A0Z, if_neg (by rw [beq_iff_eq]; omega), h3]
theorem A3i {s : ShfV} (h : A0v s) {k : Nat} (hk : k < s.1.length) : ((s.2.2.1.getD k 0).toNat : Int) = s.2.2.1.getD k 0 /\ (s.2.2.1.getD k 0).toNat ≤ 3 := by
 have h1 := A0k h.2.2.1.2.1 (show k < s.2.2.1.length by rw [h.2.2.1.1]; exact hk);omega
def A0e (s : ShfV) (x : List Int) (n : Nat) : List Int := cutL x (A0P s n) (A0P s n + s.2.2.1.getD n 0)
theorem A4Q (s : ShfV) (x : List Int) (hs : A0v s) (n : Nat) (hn : n < s.1.length) (hx : A0P s n + s.2.2.1.getD n 0 ≤ x.length) (hxl : x.length ≤ 1048576) : Af2.F (s, x, (n : Int), ()) = some ((A0e s x n, ()), ()) /\ ((A0e s x n).length : Int) = s.2.2.1.getD n 0 := by
 have hT : Af2.F (s, x, (n : Int), ()) = Af2.T s.1 s.2.1 s.2.2.1 s.2.2.2 x (n : Int) := Af2.eq _ _ _ _ _ _;have hc : Ab9.F ((s.1, (s.2.1, (s.2.2.1, s.2.2.2))), (n : Int), ()) = _ := Ab9.val s hs n hn;have hl := hs.2.2.1.1;obtain ⟨c0, _⟩ := A0a hs hn;have s0 := A3i hs hn;have hlen : ((A0e s x n).length : Int) = s.2.2.1.getD n 0 := by
   simp only [A0e, cutL, List.length_drop, List.length_take]; omega
 refine ⟨?_, hlen⟩;rw [hT, Af2.T, hc];simp only [Option.bind_some];rw [if_pos (by omega)];simp only [Int.toNat_natCast];rw [A0A (by omega) (by omega), if_pos (by omega), Ab5.val _ (by have : (cutL x (A0P s n) (A0P s n + s.2.2.1.getD n 0)).length = (A0e s x n).length := rfl; omega)];rfl
def nv (p : List (List Int)) : Nat := (A0w p 0 p.length).length
theorem A1e {p : List (List Int)} (hc : CplxOk p) : nv p ≤ p.length /\ (∀ j, j < nv p -> (A0w p 0 p.length).getD j 0 = (j : Int) /\ (p.getD j []).length = 1) /\ ∀ j, j < p.length -> (p.getD j []).length = 1 -> j < nv p := by
 obtain ⟨m, h1, h2, h3⟩ := A3d hc p.length (Nat.le_refl _);have e : nv p = m := by rw [nv, h2]; simp
 rw [e];refine ⟨h1, fun j hj => ⟨by rw [h2, A0I _ 0 hj], h3 j hj⟩, fun j hj hl => ?_⟩;have hm : (j : Int) ∈ A0w p 0 p.length := by
   unfold A0w;exact List.mem_map.2 ⟨j, List.mem_filter.2 ⟨List.mem_range.2 hj, by rw [beq_iff_eq]; omega⟩, rfl⟩
 rw [h2] at hm;obtain ⟨i, hi, e2⟩ := List.mem_map.1 hm;have := List.mem_range.1 hi;omega
def vpl (s : ShfV) (p : List (List Int)) : List Int := (List.range (nv p)).map fun j => ((A0G s.1 (p.getD j []) : Nat) : Int)
theorem A0S (s : ShfV) (p : List (List Int)) : (vpl s p).length = nv p := by simp [vpl]
theorem A2f (s : ShfV) (p : List (List Int)) {j : Nat} (h : j < nv p) : (vpl s p).getD j 0 = ((A0G s.1 (p.getD j []) : Nat) : Int) := A0I _ 0 h
theorem Ae6.val {s : ShfV} {p : List (List Int)} (h : A0v s) (hc : CplxOk p) (hi : IsIn p s.1) : Ae6.F (s, p, ()) = some ((vpl s p, ()), ()) := by
 have hn := hc.1;have e0 := Ac5.val p 0 (by omega) (by omega);obtain ⟨n1, n2, -⟩ := A1e hc;refine Ae6.of s.1 s.2.1 s.2.2.1 s.2.2.2 p ?_;have g := Goes.push (R := (List Int × Unit) × Unit) (fun k i v => Ae6.l4 k s.1 s.2.1 s.2.2.1 s.2.2.2 p (i : Int) v (A0w p 0 p.length)) (nv p) (fun j => ((A0G s.1 (p.getD j []) : Nat) : Int)) fun i v hi' hv => Goes.succ fun k => by
   have hi2 : i < (A0w p 0 p.length).length := hi';rw [Ae6.l4_eq, if_pos (ltI.2 hi2), if_pos (idxI.2 hi2)];simp only [Int.toNat_natCast];rw [(n2 i hi').1, if_pos (idxI.2 (by omega))];simp only [Int.toNat_natCast, A1Q h.1 (hi _ (A0z [] (show i < p.length by omega))), Option.bind_some];rw [if_pos (A1J hv (by omega)), A0x (by omega)]
 refine Ev.of_eq (g _ ((Ev.const _).succ fun k => ?_)) fun k => ?_
 . rw [Ae6.l4_eq, if_neg (by simp only [nv]; simp)]; rfl
 . rw [Ae6.T, e0]; rfl
theorem Ag9.val {s : ShfV} {p : List (List Int)} (h : A0v s) (hc : CplxOk p) (hi : IsIn p s.1) {x : List Int} (hx : (x.length : Int) = A0j (rstS s p) 0) {j : Nat} (hj : j < nv p) :
   Ag9.F (s, p, x, ((A0G s.1 (p.getD j []) : Nat) : Int), ()) = some ((A0e (rstS s p) x j, ()), ()) := by
 have hn := hc.1;have hn' := h.1.1;have hl := h.2.2.1.1;have ht := A1V h hc hi;obtain ⟨n1, n2, -⟩ := A1e hc;have hall := ht.2.2.1.2.1;have hstl : (rstS s p).2.2.1.length = p.length := ht.2.2.1.1;have hst : ∀ i, i < p.length -> (rstS s p).2.2.1.getD i 0 = s.2.2.1.getD (A0G s.1 (p.getD i [])) 0 := fun i hi' => by
   show (A0F s p (vts p)).getD i 0 = _;rw [A1q s hc, stIn, A0I _ 0 hi']
 have hidx : ∀ i, i < p.length -> A0G s.1 (p.getD i []) < s.1.length := fun i hi' => (A0B (hi _ (A0z [] hi'))).1;obtain ⟨z1, z2⟩ := A0a ht (show j < (rstS s p).1.length by show j < p.length; omega);have hj1 : ((rstS s p).1.getD j []).length = 1 := (n2 j hj).2;have hcol : A0P (rstS s p) j = psum p (rstS s p).2.2.1 0 j := by rw [A0P, hj1]; rfl
 rw [hj1, hst j (by omega)] at z2;have z3 : (((1 : Nat) : Int) - 1) = 0 := rfl;rw [z3, <- hx] at z2;have hs3 := A0k h.2.2.1.2.1 (show A0G s.1 (p.getD j []) < s.2.2.1.length by have := hidx j (by omega); omega);refine Ag9.of s.1 s.2.1 s.2.2.1 s.2.2.2 p x _ ?_;obtain ⟨y, hy, hg⟩ := Goes.loop (R := (List Int × Unit) × Unit) (fun k i (y : Int) => Ag9.l4 k s.1 s.2.1 s.2.2.1 s.2.2.2 x ((A0G s.1 (p.getD j []) : Nat) : Int) y (i : Int) (vpl s p)) j (fun i y => y = psum p (rstS s p).2.2.1 0 i) (fun i y hi' h2 => ⟨_, rfl, Goes.succ fun k => by
   have b := A1f (c := p) (d := 0) hall i (by omega);have g := A0k hall (show i < (rstS s p).2.2.1.length by omega);have hl1 := (n2 i (by omega)).2;have hm := A3Q h.1 hc hi hi' (show j < p.length by omega);have hii := hidx i (by omega);have hst' := hst i (by omega);rw [Ag9.l4_eq, if_pos (ltI.2 (by rw [A0S]; omega)), if_pos (idxI.2 (by rw [A0S]; omega))];simp only [Int.toNat_natCast];rw [A2f s p (by omega), if_neg (by rw [beq_iff_eq]; omega), if_pos (idxI.2 (by rw [A0S]; omega)), if_pos (idxI.2 (by omega))];simp only [Int.toNat_natCast, psum];rw [A0x (by omega), h2, <- hst', A0A (by omega) (by omega), if_pos (by omega)]⟩) 0 0 (Nat.zero_le _) rfl
 refine Ev.of_eq (hg _ ((Ev.const _).succ fun k => ?_)) fun k => by rw [Ag9.T]; have e := Ae6.val h hc hi; have e : Ae6.F ((s.1, (s.2.1, (s.2.2.1, s.2.2.2))), p, ()) = _ := e; rw [e]; rfl
 have hii := hidx j (by omega);have hb32 := A0M ht 0;rw [Ag9.l4_eq, if_pos (ltI.2 (by rw [A0S]; omega)), if_pos (idxI.2 (by rw [A0S]; omega))];simp only [Int.toNat_natCast];rw [A2f s p hj, if_pos (by rw [beq_iff_eq]), if_pos (idxI.2 (by omega)), hy, <- hcol, A0A (by omega) (by omega), if_pos (by omega), A0e, hst j (by omega)]
def both (a b : List (List Int)) : List (List Int) := a.filter fun s => decide (s ∈ b)
theorem A3Y {a : List (List Int)} (b : List (List Int)) (h : SmL a) : SmL (both a b) :=
 ⟨Nat.le_trans (List.length_filter_le _ _) h.1, fun x hx => h.2 x (List.mem_filter.1 hx).1⟩
theorem A2v {a : List (List Int)} (b : List (List Int)) (h : A0R a) : A0R (both a b) := sortedS_pw.2 ((sortedS_pw.1 h).sublist List.filter_sublist)
theorem A2i (a b : List (List Int)) {i : Nat} (hi : i < a.length) : both (a.take (i + 1)) b = both (a.take i) b ++ (if a.getD i [] ∈ b then [a.getD i []] else []) := by
 rw [both, both, List.take_add_one, List.getElem?_eq_getElem hi, Option.toList_some, List.filter_append, A0y hi];congr 1;by_cases h : a[i] ∈ b <;> simp [h]
theorem A1P (a b : List (List Int)) (i : Nat) : (both (a.take i) b).length ≤ i := Nat.le_trans (List.length_filter_le _ _) (by simp; omega)
theorem Ad1.val (a b : List (List Int)) (ha : SmL a) (hb : SmL b) : Ad1.F (a, b, ()) = some ((both a b, ()), ()) := by
 have hn := ha.1;refine Ad1.of _ _ ?_;obtain ⟨s, hs, hg⟩ := Goes.loop (R := ((List (List Int) × Unit) × Unit)) (fun k i (x : List (List Int)) => Ad1.l3 k a b (i : Int) [] x) a.length (fun i x => x = both (a.take i) b) (fun i x hi h2 => ⟨_, rfl, Goes.succ fun k => by
   obtain ⟨r, hr, hr'⟩ := Aa0.val b (a.getD i []) hb;have hl := A1P a b i;rw [Ad1.l3_eq, if_pos (ltI.2 hi), if_pos (idxI.2 hi)];simp only [Int.toNat_natCast, hr, Option.bind_some, Ac7.val _ (ha.2 _ (A0z [] hi))];rw [A2i a b hi, A0x (by omega), <- h2];by_cases hm : a.getD i [] ∈ b
   . have : ¬ r < 0 := fun hh => hr'.1 hh hm;rw [if_pos (by simp; omega), if_pos (idxI.2 hi), if_pos (by rw [h2]; simp only [List.length_cons, List.length_nil, bigA]; omega), if_pos hm]
   . have : r < 0 := hr'.2 hm;rw [if_neg (by simp; omega), if_neg hm, List.append_nil]⟩) 0 [] (Nat.zero_le _) rfl
 rw [List.take_of_length_le (Nat.le_refl _)] at hs;refine Ev.of_eq (hg _ ((Ev.const _).succ fun k => ?_)) fun k => rfl;rw [Ad1.l3_eq, if_neg (by simp), hs]
theorem Al5.val (a : List (List Int)) (f : List Int × Unit -> Option (Bool × Unit)) (b : List (List Int)) (ha : SmL a) (hf : ∀ s ∈ a, f (s, ()) = some (decide (s ∈ b), ())) (hs : A0R a) :
   Al5.F (a, f, ()) = some ((both a b, ()), ()) := by
 have hn := ha.1;refine Al5.of _ _ ?_;obtain ⟨s, hs', hg⟩ := Goes.loop (R := ((List (List Int) × Unit) × Unit)) (fun k i (x : List (List Int)) => Al5.l3 k f a (a.length : Int) (i : Int) [] x) a.length (fun i x => x = both (a.take i) b) (fun i x hi h2 => ⟨_, rfl, Goes.succ fun k => by
   have hl := A1P a b i;rw [Al5.l3_eq, if_pos (ltI.2 hi), if_pos (idxI.2 hi)];simp only [Int.toNat_natCast, hf _ (A0z [] hi), Option.bind_some];rw [A2i a b hi, A0x (by omega), <- h2];by_cases hm : a.getD i [] ∈ b
   . rw [if_pos (decide_eq_true hm), if_pos (by rw [h2]; simp only [List.length_cons, List.length_nil, bigA]; omega), if_pos hm]
   . rw [if_neg (fun hh => hm (of_decide_eq_true hh)), if_neg hm, List.append_nil]⟩) 0 [] (Nat.zero_le _) rfl
 rw [List.take_of_length_le (Nat.le_refl _)] at hs';refine Ev.of_eq (hg _ ((Ev.const _).succ fun k => ?_)) fun k => rfl;rw [Al5.l3_eq, if_neg (by simp), hs', Ad2.same _ (A3Y b ha) (A2v b hs)]; rfl
theorem Ao8.val (a b : List (List Int)) (ha : SmL a) (hb : SmL b) (sa : A0R a) (sb : A0R b) : Ao8.F (a, b, ()) = some ((both a b, ()), ()) := by
 rw [Ao8.eq, Ao8.T, Al5.val a _ b ha (fun s hs => ?_) sa]
 . rfl
 . obtain ⟨r, hr, hr'⟩ := Aa8.val b s sb hb (ha.2 s hs);show (Ar8.F (s, b, ())).map (·.1) = _;rw [Ar8.eq, Ar8.T, hr];simp only [Option.bind_some, Option.map_some, Option.some.injEq, Prod.mk.injEq, and_true, decide_eq_decide];have : r < 0 ↔ s ∉ b := hr';by_cases h : s ∈ b
   . have h2 : ¬ r < 0 := fun hh => (this.1 hh) h;simp only [h, iff_true]; omega
   . simp only [h, iff_false]; have := this.2 h; omega
theorem Ao3.same (xs ys : List (List Int)) (h : SmL xs) : ∃ b, Ao3.F (xs, ys, ()) = some ((b, ()), ()) /\ (b = true ↔ xs = ys) := by
 have hn := h.1;rw [Ao3.eq, Ao3.T]
 suffices ∃ b, Ak4.F (xs, ys, Ab8.cloG (()), ()) = some ((b, ()), ()) /\ (b = true ↔ xs = ys) by
   obtain ⟨b, hb, hb'⟩ := this;rw [hb]; exact ⟨b, rfl, hb'⟩
 by_cases hl : xs.length = ys.length
 . obtain ⟨b, hb, hb'⟩ := A0r (fun k i => Ak4.l4 k ys (Ab8.cloG (())) xs xs.length (i : Int)) xs ys [] hl (fun i hi => by
     obtain ⟨c, hc, hc'⟩ := Ab8.same (xs.getD i []) (ys.getD i []) (h.2 _ (A0z _ hi));have hc2 : Ab8.cloG (()) (xs.getD i [], ys.getD i [], ()) = some (c, ()) := by
       show (Ab8.F (xs.getD i [], ys.getD i [], ())).map (·.1) = _;rw [hc]; rfl
     exact ⟨c, hc', fun k => by rw [Ak4.l4_eq, if_pos (ltI.2 hi), if_pos (idxI.2 hi), if_pos (idx2 (hl ▸ hi))]; simp only [Int.toNat_natCast, hc2, Option.bind_some]; rw [A0x (by omega)]⟩) (fun k => by rw [Ak4.l4_eq, if_neg (by simp)])
   exact ⟨b, Ak4.of _ _ _ (hb.of_eq fun k => by rw [Ak4.T, if_neg (by simp [hl])]; rfl), hb'⟩
 . exact ⟨false, Ak4.of _ _ _ ((Ev.const _).of_eq fun k => by rw [Ak4.T, if_pos (by simp; omega)]), by simp; intro e; exact hl (by rw [e])⟩
theorem An7.same (xs ys : List (List Int)) (h : SmL xs) : ∃ b, An7.F (xs, ys, ()) = some ((b, ()), ()) /\ (b = true ↔ xs = ys) := by
 obtain ⟨b, hb, hb'⟩ := Ao3.same xs ys h;rw [An7.eq, An7.T, hb];exact ⟨b, rfl, hb'⟩
def A3m (c a b : List (List Int)) : Prop := (∀ s ∈ a, s ∈ c) /\ (∀ s ∈ b, s ∈ c) /\ ∀ s ∈ c, s ∈ a ∨ s ∈ b
theorem both_all {a b : List (List Int)} : (both a b).length = a.length ↔ ∀ s ∈ a, s ∈ b := by
 rw [both, List.length_filter_eq_length_iff];simp
theorem Ad8.val (c a b : List (List Int)) (hc : SmL c) (ha : SmL a) (hb : SmL b) : ∃ v, Ad8.F (c, a, b, ()) = some ((v, ()), ()) /\ (v = true ↔ A3m c a b) := by
 have hn := hc.1;obtain ⟨v, hv, hv'⟩ := Ev.allP (L := fun k i => Ad8.l6 k c a b (i : Int)) (a := ()) (b := ()) (n := c.length) (fun i => c.getD i [] ∈ a ∨ c.getD i [] ∈ b) true (fun i hi => by
   have E := fun k => Ad8.l6_eq k c a b (i : Int);obtain ⟨r, hr, hr'⟩ := Aa0.val a (c.getD i []) ha;obtain ⟨t, ht, ht'⟩ := Aa0.val b (c.getD i []) hb;simp only [if_pos (ltI.2 hi), if_pos (idxI.2 hi), Int.toNat_natCast, hr, ht, Option.bind_some, A0x (show i < 4611686018427387904 by omega)] at E;by_cases hm : c.getD i [] ∈ a
   . exact .inl ⟨.inl hm, fun k => by rw [E, if_neg (by simp only [decide_eq_true_eq, hr']; exact fun hh => hh hm)]⟩
   . by_cases hm2 : c.getD i [] ∈ b
     . exact .inl ⟨.inr hm2, fun k => by rw [E, if_pos (by simp only [decide_eq_true_eq, hr']; exact hm), if_neg (by simp only [decide_eq_true_eq, ht']; exact fun hh => hh hm2)]⟩
     . exact .inr ⟨fun hh => hh.elim hm hm2, fun k => by rw [E, if_pos (by simp only [decide_eq_true_eq, hr']; exact hm), if_pos (by simp only [decide_eq_true_eq, ht']; exact hm2)]⟩) ((Ev.const _).succ fun k => by rw [Ad8.l6_eq, if_neg (by simp)]) 0 (Nat.zero_le _)
 have T := fun k => (rfl : Ad8.T k c a b = _);simp only [Ad8.T, Ad1.val a c ha hc, Ad1.val b c hb hc, Option.bind_some] at T;by_cases h1 : ∀ s ∈ a, s ∈ c
 . have e1 := both_all.2 h1;by_cases h2 : ∀ s ∈ b, s ∈ c
   . have e2 := both_all.2 h2;refine ⟨v, Ad8.of _ _ _ (hv.of_eq fun k => ?_), hv'.trans ⟨fun ⟨_, h⟩ => ⟨h1, h2, fun s hs => ?_⟩, fun h => ⟨rfl, fun j _ hj => h.2.2 _ (A0z _ hj)⟩⟩⟩
     . show Ad8.T k c a b = _;rw [Ad8.T, Ad1.val a c ha hc, Ad1.val b c hb hc];simp only [Option.bind_some];rw [if_neg (by simp [e1]), if_neg (by simp [e2])]; rfl
     . obtain ⟨j, hj, rfl⟩ := List.getElem_of_mem hs;have := h j (Nat.zero_le _) hj
       rwa [A0y hj] at this
   . refine ⟨false, Ad8.of _ _ _ ((Ev.const _).of_eq fun k => ?_), by simp only [Bool.false_eq_true, false_iff]; exact fun h => h2 h.2.1⟩;have e2 : ¬ (both b c).length = b.length := fun h => h2 (both_all.1 h);show Ad8.T k c a b = _;rw [Ad8.T, Ad1.val a c ha hc, Ad1.val b c hb hc];simp only [Option.bind_some];rw [if_neg (by simp [e1]), if_pos (by simp; omega)]
 . refine ⟨false, Ad8.of _ _ _ ((Ev.const _).of_eq fun k => ?_), by simp only [Bool.false_eq_true, false_iff]; exact fun h => h1 h.1⟩;have e1 : ¬ (both a c).length = a.length := fun h => h1 (both_all.1 h);show Ad8.T k c a b = _;rw [Ad8.T, Ad1.val a c ha hc, Ad1.val b c hb hc];simp only [Option.bind_some];rw [if_pos (by simp; omega)]
theorem Ag3.val2 (a b : List (List Int)) (ha : a.length ≤ 1048576) (hb : b.length ≤ 1048576) : Ag3.F ([a, b], ()) = some ((a ++ b, ()), ()) := by
 have w1 : IntKind.i64.wrap (0 + (a.length : Int)) = (a.length : Int) := by rw [A0A (by omega) (by omega)]; omega
 have w2 : IntKind.i64.wrap ((a.length : Int) + (b.length : Int)) = (a.length : Int) + (b.length : Int) := A0A (by omega) (by omega);have w3 : IntKind.i64.wrap ((0 : Int) + 1) = 1 := A0A (by omega) (by omega);have w4 : IntKind.i64.wrap ((1 : Int) + 1) = 2 := A0A (by omega) (by omega);refine Ag3.of _ ⟨6, fun k hk => ?_⟩;obtain ⟨k, rfl⟩ : ∃ j, k = j + 1 + 1 + 1 + 1 + 1 + 1 := ⟨k - 6, by omega⟩;show Ag3.T (k + 1 + 1 + 1 + 1 + 1 + 1) [a, b] = _;have e0 : ((([a, b] : List (List (List Int))).length : Nat) : Int) = 2 := rfl;rw [Ag3.T, e0, Ag3.l3_eq, if_pos (by decide), if_pos (by rw [e0]; decide)];simp only [Int.toNat_zero, List.getD_cons_zero, w1, w3];rw [if_neg (by simp only [decide_eq_true_eq]; omega), Ag3.l3_eq, if_pos (by decide), if_pos (by rw [e0]; decide)];simp only [show (1 : Int).toNat = 1 from rfl, List.getD_cons_succ, List.getD_cons_zero, w2, w4];rw [if_neg (by simp only [decide_eq_true_eq]; omega), Ag3.l3_eq, if_neg (by decide), if_pos (by simp only [bigN]; omega), e0, Ag3.l11_eq, if_pos (by decide), if_pos (by rw [e0]; decide)];simp only [Int.toNat_zero, List.getD_cons_zero, w3];rw [if_pos (by simp only [List.length_nil, bigA]; omega), Ag3.l11_eq, if_pos (by decide), if_pos (by rw [e0]; decide)];simp only [show (1 : Int).toNat = 1 from rfl, List.getD_cons_succ, List.getD_cons_zero, w4, List.nil_append];rw [if_pos (by simp only [bigA]; omega), Ag3.l11_eq, if_neg (by decide)]
theorem Ap0.val (a b : List (List Int)) (ha : CplxOk a) (hb : CplxOk b) : Ap0.F (a, b, ()) = some ((A2k (a ++ b), ()), ()) := by
 have h1 := ha.1;have h2 := hb.1;have hs : SmL (a ++ b) := ⟨by rw [List.length_append]; omega, fun x hx => (List.mem_append.1 hx).elim (ha.small.2 x) (hb.small.2 x)⟩;rw [Ap0.eq, Ap0.T, Ag3.val2 a b (by omega) (by omega)];simp only [Option.bind_some, Ad2.val _ hs]
theorem A2A {c a b : List (List Int)} (hc : A0R c) : A2k (a ++ b) = c ↔ A3m c a b := by
 constructor
 . rintro rfl;refine ⟨fun s hs => by rw [A0n]; simp [hs], fun s hs => by rw [A0n]; simp [hs], fun s hs => by rw [A0n] at hs; simpa using hs⟩
 . rintro ⟨h1, h2, h3⟩;refine A1i (A3R _) (sortedS_pw.1 hc) fun s => ?_;rw [A0n, List.mem_append];exact ⟨fun h => h.elim (h1 s) (h2 s), h3 s⟩
theorem A3C {c a b : List (List Int)} (kc : CplxOk c) (ka : CplxOk a) (kb : CplxOk b) : ∃ v, Aq8.F (c, a, b, ()) = some ((v, ()), ()) /\ (v = true ↔ A3m c a b) := by
 obtain ⟨u1, b1, b1'⟩ := Ab1.val c kc.small;obtain ⟨u2, b2, b2'⟩ := Ab1.val a ka.small;obtain ⟨u3, b3, b3'⟩ := Ab1.val b kb.small;obtain rfl : u1 = true := b1'.2 kc;obtain rfl : u2 = true := b2'.2 ka;obtain rfl : u3 = true := b3'.2 kb;have hsm : SmL (A2k (a ++ b)) := by
   refine ⟨?_, fun x hx => ?_⟩
   . have h1 := ka.1;have h2 := kb.1;have hle : ∀ (l : List (List Int)) (p : List Int), (a1p p l).length ≤ l.length := by
       intro l;induction l with
       | nil => intro p; simp [a1p]
       | cons x l ih => intro p; simp only [a1p]; split
                        . have := ih x; simp only [List.length_cons]; omega
                        . have := ih x; simp only [List.length_cons]; omega
     have hle2 : (A2k (a ++ b)).length ≤ (b2h ordS (a ++ b)).length := by
       unfold A2k;cases b2h ordS (a ++ b) with
       | nil => simp [a6l]
       | cons x l => have := hle l x; simp only [a6l, List.length_cons]; omega
     rw [(A1h (a ++ b)).length_eq, List.length_append] at hle2;omega
   . have := (A0n x (a ++ b)).1 hx;exact (List.mem_append.1 this).elim (ka.small.2 x) (kb.small.2 x)
 obtain ⟨w, e2, e2'⟩ := An7.same (A2k (a ++ b)) c hsm;refine ⟨w, ?_, e2'.trans (A2A kc.sorted)⟩;rw [Aq8.eq, Aq8.T, b1, b2, b3];simp only [Option.bind_some, if_true, Ap0.val a b ka kb, e2]
open Classical in
noncomputable def covC (s : ShfV) (a b : List (List Int)) : Int := if A1M s /\ CplxOk a /\ CplxOk b then (if A3m s.1 a b then 0 else 6) else 1
theorem covC_zero {s : ShfV} {a b : List (List Int)} : covC s a b = 0 ↔ (A1M s /\ CplxOk a /\ CplxOk b) /\ A3m s.1 a b := by
 unfold covC;split
 . split <;> simp [*]
 . simp [*]
theorem Aj7.val (s : ShfV) (a b : List (List Int)) (hs : SmSh s) (ha : SmL a) (hb : SmL b) : Aj7.F (s, a, b, ()) = some ((covC s a b, ()), ()) := by
 obtain ⟨v1, a1, a1'⟩ := Aj5.val s hs;obtain ⟨v2, a2, a2'⟩ := Ab1.val a ha;obtain ⟨v3, a3, a3'⟩ := Ab1.val b hb;have a1 : Aj5.F ((s.1, (s.2.1, (s.2.2.1, s.2.2.2))), ()) = _ := a1;have T : Aj7.F (s, a, b, ()) = Aj7.T s.1 s.2.1 s.2.2.1 s.2.2.2 a b := Aj7.eq _ _ _ _ _ _;rw [T, Aj7.T, a1, a2, a3];simp only [Option.bind_some];unfold covC;cases v1 with
 | false => rw [if_pos (by simp), if_neg fun hh => absurd (a1'.2 hh.1) (by simp)]
 | true => cases v2 with
   | false => rw [if_neg (by simp), if_pos (by simp), if_neg fun hh => absurd (a2'.2 hh.2.1) (by simp)]
   | true => cases v3 with
     | false => rw [if_neg (by simp), if_neg (by simp), if_pos (by simp), if_neg fun hh => absurd (a3'.2 hh.2.2) (by simp)]
     | true =>
       have k1 := a1'.1 rfl;have k2 := a2'.1 rfl;have k3 := a3'.1 rfl;obtain ⟨v4, a4, a4'⟩ := A3C k1.1.1 k2 k3;rw [if_neg (by simp), if_neg (by simp), if_neg (by simp), if_pos ⟨k1, k2, k3⟩, a4];simp only [Option.bind_some];cases v4 with
       | false => rw [if_pos (by simp), if_neg fun hh => absurd (a4'.2 hh) (by simp)]
       | true => rw [if_neg (by simp), if_pos (a4'.1 rfl)]
theorem Al0.val (s : ShfV) (a b : List (List Int)) (hs : SmSh s) (ha : SmL a) (hb : SmL b) : Al0.F (s, a, b, ()) = some ((covC s a b, ()), ()) := by
 obtain ⟨v1, a1, a1'⟩ := Ae9.val s hs;obtain ⟨v2, a2, a2'⟩ := Aa3.val a ha;obtain ⟨v3, a3, a3'⟩ := Aa3.val b hb;have a1 : Ae9.F ((s.1, (s.2.1, (s.2.2.1, s.2.2.2))), ()) = _ := a1;have T : Al0.F (s, a, b, ()) = Al0.T s.1 s.2.1 s.2.2.1 s.2.2.2 a b := Al0.eq _ _ _ _ _ _;rw [T, Al0.T, a1, a2, a3];simp only [Option.bind_some];unfold covC;cases v1 with
 | false => rw [if_pos (by simp), if_neg fun hh => absurd (a1'.2 hh.1) (by simp)]
 | true => cases v2 with
   | false => rw [if_neg (by simp), if_pos (by simp), if_neg fun hh => absurd (a2'.2 hh.2.1) (by simp)]
   | true => cases v3 with
     | false => rw [if_neg (by simp), if_neg (by simp), if_pos (by simp), if_neg fun hh => absurd (a3'.2 hh.2.2) (by simp)]
     | true =>
       have k1 := a1'.1 rfl;have k2 := a2'.1 rfl;have k3 := a3'.1 rfl;obtain ⟨v4, a4, a4'⟩ := Ad8.val s.1 a b k1.1.1.small k2.small k3.small;rw [if_neg (by simp), if_neg (by simp), if_neg (by simp), if_pos ⟨k1, k2, k3⟩, a4];simp only [Option.bind_some];cases v4 with
       | false => rw [if_pos (by simp), if_neg fun hh => absurd (a4'.2 hh) (by simp)]
       | true => rw [if_neg (by simp), if_pos (a4'.1 rfl)]
def A3x (s : ShfV) (x : List Int) : Prop := A1b s 0 x /\ ∀ y ∈ A1I s, sumN (dotE y x) y.length % s.2.1 = 0
theorem A4q {c : List (List Int)} {st : List Int} {d : Int} : ∀ (n : Nat) (r : Int), 0 ≤ r -> r < psum c st d n -> ∃ h, h < n /\ ((c.getD h []).length : Int) = d + 1 /\ psum c st d h ≤ r /\ r < psum c st d h + st.getD h 0 := by
 intro n;induction n with
 | zero => intro r h0 h; simp only [psum] at h; omega
 | succ n ih =>
   intro r h0 h;by_cases hr : r < psum c st d n
   . obtain ⟨x, h1, h2⟩ := ih r h0 hr;exact ⟨x, by omega, h2⟩
   . simp only [psum] at h;by_cases hd : ((c.getD n []).length : Int) = d + 1
     . rw [if_pos hd] at h;exact ⟨n, by omega, hd, by omega, h⟩
     . rw [if_neg hd] at h; omega
theorem A3O {s : ShfV} (ho : A0v s) {n : Nat} (hn : n < (A0U s).length) {y : List Int} (hy : y ∈ A1x s n) : ∃ r, r < (A0j s 1).toNat /\ y = rowL (cobM s 0).2.2.2 (A0j s 0).toNat r := by
 obtain ⟨e, f0, f1, R, C0, C1, T, L0, L1, q, E⟩ := A2V ho hn;rw [A1x, q, Int.toNat_natCast] at hy;simp only [List.mem_map, List.mem_range] at hy;obtain ⟨a, ha, rfl⟩ := hy;obtain ⟨u0, u1⟩ := A0a ho E.lt;have he : ((s.1.getD e []).length : Int) - 1 = 1 := by
   have := E.two;rw [A0O] at this;split at this <;> omega
 rw [he] at u1;exact ⟨(A0P s e).toNat + a, by omega, (A3o ho (k := 0) (by omega) hn q ha).symm⟩
theorem A3S {s : ShfV} (ho : A0v s) {r : Nat} (hr : r < (A0j s 1).toNat) : rowL (cobM s 0).2.2.2 (A0j s 0).toNat r ∈ A1I s := by
 have hsl := ho.2.2.1.1;have e1 := A1K ho 1;obtain ⟨h, h1, h2, h3, h4⟩ := A4q (c := s.1) (st := s.2.2.1) (d := 1) s.1.length (r : Int) (by omega) (by omega);have hm : ((h : Nat) : Int) ∈ A0U s := by
   unfold A0U A0w;simp only [List.mem_map, List.mem_filter, List.mem_range, beq_iff_eq];exact ⟨h, ⟨h1, h2⟩, rfl⟩
 obtain ⟨n, hn, he⟩ := List.getElem_of_mem hm;have q : (A0U s).getD n 0 = (h : Int) := by rw [A0y hn]; exact he
 have hT : A0P s h = psum s.1 s.2.2.1 1 h := by unfold A0P; rw [show ((s.1.getD h []).length : Int) - 1 = 1 by omega]
 obtain ⟨u0, u1⟩ := A0a ho h1;have ha : r - (A0P s h).toNat < (s.2.2.1.getD h 0).toNat := by omega
 have := A3o ho (k := 0) (by omega) hn q ha;rw [show (A0P s h).toNat + (r - (A0P s h).toNat) = r by omega] at this;rw [this, A1I, List.mem_flatMap];refine ⟨n, by simpa using hn, ?_⟩;rw [A1x, q, Int.toNat_natCast];exact List.mem_map.2 ⟨_, by simpa using ha, rfl⟩
theorem A2w {s : ShfV} (ho : A0v s) {y : List Int} (hy : y ∈ A1I s) : y.length = (A0j s 0).toNat /\ A0N 0 (s.2.1 - 1) y := by
 rw [A1I, List.mem_flatMap] at hy;obtain ⟨n, hn, hy⟩ := hy;rw [List.mem_range] at hn;obtain ⟨r, h1, rfl⟩ := A3O ho hn hy;have hM := A3n ho 0;have hl : (cobM s 0).2.2.2.length = (A0j s 1).toNat * (A0j s 0).toNat := by
   show (wr _ _).length = _;rw [A0g, List.length_replicate]; rfl
 exact ⟨A0V hl h1, fun x hx => hM.2.2.2.2 x (A2y hx)⟩
theorem Af7.val (s : ShfV) (ho : A0v s) (x : List Int) (hx : x.length ≤ 1048576) : ∃ v, Af7.F (s, x, ()) = some ((v, ()), ()) /\ (v = true ↔ A3x s x) := by
 have hT : Af7.F (s, x, ()) = Af7.T s.1 s.2.1 s.2.2.1 s.2.2.2 x := Af7.eq _ _ _ _ _;have hp := ho.2.1.1;obtain ⟨c1, c2⟩ := A0M ho 0;have hn : Aa9.F ((s.1, (s.2.1, (s.2.2.1, s.2.2.2))), 0, ()) = _ := Aa9.val' s ho 0 (by omega);obtain ⟨v, hv, hv'⟩ := Ao7.val x (A0j s 0) s.2.1 (by omega);rw [A0A (x := s.2.1 - 1) (by omega) (by omega)] at hv';have hv' : v = true ↔ A1b s 0 x := hv';rw [hT, Af7.T, hn];simp only [Option.bind_some, hv];cases v with
 | false => exact ⟨false, by rw [if_neg (by simp)], by simp only [Bool.false_eq_true, false_iff]; exact fun h => absurd (hv'.2 h.1) (by simp)⟩
 | true =>
   have hch := hv'.1 rfl;have hc : Ac2.F ((s.1, (s.2.1, (s.2.2.1, s.2.2.2))), 0, ()) = _ := Ac2.val s ho 0 (by omega);have hM := A3n ho 0;have ha := Al4.val (cobM s 0) x hM hch.2 hch.1.symm;have hl := A2T (cobM s 0) x;have hH : (cobM s 0).2.1.toNat = (A0j s 1).toNat := rfl;have hz : Ar1.F (A1N (cobM s 0) x, ()) = some ((!(A1N (cobM s 0) x).any fun a => a != 0, ()), ()) := by
     rw [Ar1.eq, Ar1.T, Ad0.val (A1N (cobM s 0) x) (Ar2.cloG (())) (fun a => a != 0) (fun a _ => by
       show (Ar2.F (a, ())).map (·.1) = _;rw [Ar2.eq, Ar2.T]; rfl) (by have := A0M ho 1; omega)]
     rfl
   refine ⟨_, by rw [if_pos rfl, hc]; simp only [Option.bind_some]; rw [ha]; simp only [Option.bind_some]; rw [hz]; rfl, ?_⟩;have key : ∀ r, r < (A0j s 1).toNat -> sumN (fun k => (cobM s 0).2.2.2.getD (r * (A0j s 0).toNat + k) 0 * x.getD k 0) (A0j s 0).toNat = sumN (dotE (rowL (cobM s 0).2.2.2 (A0j s 0).toNat r) x) (A0j s 0).toNat := fun r hr => A1l fun k hk => by rw [dotE, A1A hk]
   simp only [Bool.not_eq_true', List.any_eq_false, bne_iff_ne, ne_eq, Classical.not_not];constructor
   . intro h;refine ⟨hch, fun y hy => ?_⟩;obtain ⟨l1, _⟩ := A2w ho hy;rw [A1I, List.mem_flatMap] at hy;obtain ⟨n, hn, hy⟩ := hy;rw [List.mem_range] at hn;obtain ⟨r, h1, rfl⟩ := A3O ho hn hy;rw [l1, <- key r h1];refine h _ ?_;rw [A1N, List.mem_map];exact ⟨r, by rw [List.mem_range]; exact h1, rfl⟩
   . intro h a ha;rw [A1N, List.mem_map] at ha;obtain ⟨r, hr, rfl⟩ := ha;rw [List.mem_range] at hr;have hr : r < (A0j s 1).toNat := hr;have h2 := h.2 _ (A3S ho hr);rw [(A2w ho (A3S ho hr)).1, <- key r hr] at h2;exact h2
theorem Ag8.val (s : ShfV) (ho : A0v s) (x : List Int) (hx : x.length ≤ 1048576) : ∃ v, Ag8.F (s, x, ()) = some ((v, ()), ()) /\ (v = true ↔ A3x s x) := by
 have hT : ∀ r, Ev (fun n => Ag8.T n s.1 s.2.1 s.2.2.1 s.2.2.2 x) r -> Ag8.F (s, x, ()) = some r := fun r hr => Ag8.of _ _ _ _ _ hr;have hp := ho.2.1.1;obtain ⟨c1, c2⟩ := A0M ho 0;have hall : Ai5.F ((s.1, (s.2.1, (s.2.2.1, s.2.2.2))), ()) = some ((A0j s 0, ()), ()) := by
   rw [Ai5.eq, Ai5.T, Ad4.val' s ho 0 (by omega)]; rfl
 obtain ⟨v, hv, hv'⟩ := Aq1.val s.2.1 (A0j s 0) x hp hx (by omega);have hv' : v = true ↔ A1b s 0 x := hv';cases v with
 | false => exact ⟨false, hT _ ((Ev.const _).of_eq fun n => by rw [Ag8.T, hall]; simp only [Option.bind_some, hv]; rw [if_pos (by simp)]), by simp only [Bool.false_eq_true, false_iff]; exact fun h => absurd (hv'.2 h.1) (by simp)⟩
 | true =>
   have hch := hv'.1 rfl;have hcd : Ah3.F ((s.1, (s.2.1, (s.2.2.1, s.2.2.2))), ()) = _ := Ah3.val s ho;have hcl : (A1I s).length ≤ 3 * (A0U s).length := A3P _ fun i hi => A2q ho hi;have hel : (A0U s).length ≤ s.1.length := A0D s.1 1 s.1.length;have h48 := ho.1.1;obtain ⟨w, hw, hw'⟩ := Ev.allP (L := fun k i => Ag8.l5 k s.1 s.2.1 s.2.2.1 s.2.2.2 x (i : Int) (A1I s)) (a := ()) (b := ()) (n := (A1I s).length) (fun i => sumN (dotE ((A1I s).getD i []) x) ((A1I s).getD i []).length % s.2.1 = 0) true (fun i hi => by
     have E := fun k => Ag8.l5_eq k s.1 s.2.1 s.2.2.1 s.2.2.2 x (i : Int) (A1I s);obtain ⟨l1, l2⟩ := A2w ho (A0z [] hi);have hcx := hch.1;simp only [if_pos (ltI.2 hi), if_pos (idxI.2 hi), Int.toNat_natCast, Am5.val _ x s.2.1 hp l2 hch.2 (by omega) (by omega), Option.bind_some, A0x (show i < 4611686018427387904 by omega)] at E;by_cases h : sumN (dotE ((A1I s).getD i []) x) ((A1I s).getD i []).length % s.2.1 = 0
     . exact .inl ⟨h, fun k => by rw [E, if_neg (by simp only [bne_iff_ne, ne_eq, Classical.not_not]; exact h)]⟩
     . exact .inr ⟨h, fun k => by rw [E, if_pos (by simp only [bne_iff_ne, ne_eq]; exact h)]⟩) ((Ev.const _).succ fun k => by rw [Ag8.l5_eq, if_neg (by simp)]) 0 (Nat.zero_le _)
   refine ⟨w, hT _ (hw.of_eq fun n => by rw [Ag8.T, hall]; simp only [Option.bind_some, hv]; rw [if_neg (by simp), hcd]; rfl), hw'.trans ⟨fun ⟨_, h⟩ => ⟨hch, fun y hy => ?_⟩, fun h => ⟨rfl, fun i _ hi => h.2 _ (A0z [] hi)⟩⟩⟩;obtain ⟨i, hi, rfl⟩ := List.getElem_of_mem hy;have := h i (Nat.zero_le _) hi
   rwa [A0y hi] at this
theorem A4z {c : List (List Int)} {d : Int} {n : Nat} {x : Int} (h : x ∈ A0w c d n) : ∃ j : Nat, x = j /\ j < n /\ ((c.getD j []).length : Int) = d + 1 := by
 simp only [A0w, List.mem_map, List.mem_filter, List.mem_range, beq_iff_eq] at h;obtain ⟨j, ⟨h1, h2⟩, rfl⟩ := h;exact ⟨j, rfl, h1, h2⟩
def inAt (s : ShfV) (p : List (List Int)) (k : Int) (i : Nat) : Nat := A0G s.1 (p.getD ((A0w p k p.length).getD i 0).toNat [])
def resP (s : ShfV) (p : List (List Int)) (k : Int) (x : List Int) (i : Nat) : List Int := cutL x (A0P s (inAt s p k i)) (A0P s (inAt s p k i) + s.2.2.1.getD (inAt s p k i) 0)
def resL (s : ShfV) (p : List (List Int)) (k : Int) (x : List Int) : List Int := (List.range (A0w p k p.length).length).flatMap (resP s p k x)
structure ResFit (s : ShfV) (p : List (List Int)) (k : Int) (x : List Int) (i j n : Nat) : Prop where
 dj : (A0w p k p.length).getD i 0 = (j : Int)
 jl : j < p.length
 nl : n < s.1.length
 eq : inAt s p k i = n
 find : Aa0.F (s.1, p.getD j [], ()) = some (((n : Int), ()), ())
 look : Aa8.F (s.1, p.getD j [], ()) = some (((n : Int), ()), ())
 c0 : 0 ≤ A0P s n
 c1 : A0P s n + s.2.2.1.getD n 0 ≤ x.length
 s0 : 0 ≤ s.2.2.1.getD n 0 /\ s.2.2.1.getD n 0 ≤ 3
theorem A4a {s : ShfV} {p : List (List Int)} {k : Int} {x : List Int} (hs : A0v s) (hin : IsIn p s.1) (hx : (x.length : Int) = A0j s k) {i : Nat} (hi : i < (A0w p k p.length).length) : ∃ j n, ResFit s p k x i j n := by
 obtain ⟨j, hj, hjl, hjd⟩ := A4z (A0z (0 : Int) hi);have hm : p.getD j [] ∈ s.1 := hin _ (A0z _ hjl);obtain ⟨h1, h2⟩ := A0B hm;have b := A0a hs h1;rw [h2, show ((p.getD j []).length : Int) - 1 = k by omega, <- hx] at b;exact ⟨j, A0G s.1 (p.getD j []), hj, hjl, h1, by rw [inAt, hj, Int.toNat_natCast], A1Q hs.1 hm, A1g hs.1 hm, b.1, b.2, A0k hs.2.2.1.2.1 (by rw [hs.2.2.1.1]; exact h1)⟩
theorem A3r {x : List Int} {l h : Int} (h0 : 0 ≤ l) (h1 : h ≤ l + 3) : (cutL x l h).length ≤ 3 := by
 simp only [cutL, List.length_drop, List.length_take]; omega
theorem Af2.val (s : ShfV) (p : List (List Int)) (k : Int) (x : List Int) (hs : A0v s) {i j n : Nat} (F : ResFit s p k x i j n) (hxl : x.length ≤ 1048576) : Af2.F (s, x, (n : Int), ()) = some ((resP s p k x i, ()), ()) := by
 have hT : Af2.F (s, x, (n : Int), ()) = Af2.T s.1 s.2.1 s.2.2.1 s.2.2.2 x (n : Int) := Af2.eq _ _ _ _ _ _;have hc : Ab9.F ((s.1, (s.2.1, (s.2.2.1, s.2.2.2))), (n : Int), ()) = _ := Ab9.val s hs n F.nl;have hl := hs.2.2.1.1;have c0 := F.c0;have c1 := F.c1;have s0 := F.s0;rw [hT, Af2.T, hc];simp only [Option.bind_some];rw [if_pos (by have := F.nl; omega)];simp only [Int.toNat_natCast];rw [A0A (by omega) (by omega), if_pos (by omega), Ab5.val _ (by have := A3r (x := x) (h := A0P s n + s.2.2.1.getD n 0) F.c0 (by omega); omega), resP, F.eq];rfl
theorem A4k {s : ShfV} {p : List (List Int)} {k : Int} {x : List Int} {i j n : Nat} (F : ResFit s p k x i j n) : (resP s p k x i).length ≤ 3 := by
 have := F.s0;rw [resP, F.eq]; exact A3r F.c0 (by omega)
theorem A0m (f : Nat -> List Int) (i : Nat) : (List.range (i + 1)).flatMap f = (List.range i).flatMap f ++ f i := by
 rw [List.range_succ, List.flatMap_append]; simp
theorem A3s {f : Nat -> List Int} : ∀ n, (∀ i, i < n -> (f i).length ≤ 3) -> ((List.range n).flatMap f).length ≤ 3 * n := by
 intro n;induction n with
 | zero => intro _; simp
 | succ n ih =>
   intro h;have h1 := ih fun i hi => h i (by omega);have h2 := h n (by omega);rw [A0m, List.length_append]; omega
theorem A3I {s : ShfV} {p : List (List Int)} {k : Int} {x : List Int} (hs : A0v s) (hin : IsIn p s.1) (hx : (x.length : Int) = A0j s k) (hp : p.length ≤ 48) {n : Nat} (hn : n ≤ (A0w p k p.length).length) : ((List.range n).flatMap (resP s p k x)).length ≤ 144 := by
 have h1 := A0D p k p.length;have := A3s (f := resP s p k x) n fun i hi => by obtain ⟨j, n, F⟩ := A4a hs hin hx (i := i) (by omega); exact A4k F
 omega
theorem Ae8.val (s : ShfV) (p : List (List Int)) (k : Int) (x : List Int) (hs : A0v s) (hin : IsIn p s.1) (hk : 0 ≤ k /\ k ≤ 3) (hx : (x.length : Int) = A0j s k) (hp : p.length ≤ 48) : Ae8.F (s, p, k, x, ()) = some ((resL s p k x, ()), ()) := by
 have hT : ∀ r, Ev (fun n => Ae8.T n s.1 s.2.1 s.2.2.1 s.2.2.2 p k x) r -> Ae8.F (s, p, k, x, ()) = some r := fun r hr => Ae8.of _ _ _ _ _ _ _ hr;have hxl := A0M hs k;have hdl := A0D p k p.length;obtain ⟨y, hy, hg⟩ := Goes.loop (R := ((List Int × Unit) × Unit)) (fun n i (y : List Int) => Ae8.l3 n x (((A0w p k p.length).length : Nat) : Int) (i : Int) s.1 s.2.1 s.2.2.1 s.2.2.2 p y (A0w p k p.length)) (A0w p k p.length).length (fun i y => y = (List.range i).flatMap (resP s p k x)) (fun i y hi h2 => ⟨_, rfl, Goes.succ fun n' => by
   obtain ⟨j, n, F⟩ := A4a hs hin hx hi;have hl := A3I hs hin hx hp (Nat.le_of_lt hi);have h3 := A4k F;have hpt : Af2.F ((s.1, (s.2.1, (s.2.2.1, s.2.2.2))), x, (n : Int), ()) = _ := Af2.val s p k x hs F (by omega);have hjl := F.jl;rw [Ae8.l3_eq, if_pos (ltI.2 hi), if_pos (idxI.2 hi)];simp only [Int.toNat_natCast, F.dj];rw [if_pos (idxI.2 hjl)];simp only [F.look, Option.bind_some, hpt];rw [if_pos (by rw [h2]; simp only [bigA]; omega), A0x (by omega), h2, A0m]⟩) 0 [] (Nat.zero_le _) rfl
 refine hT _ ((hg _ ((Ev.const _).succ fun n => ?_)).of_eq fun n => by rw [Ae8.T, Ac3.val p k (by omega) (by omega)]; rfl);rw [Ae8.l3_eq, if_neg (by simp), hy]; rfl
open Classical in
noncomputable def twoC (s : ShfV) (a b : List (List Int)) (x y : List Int) : Int := if covC s a b = 0 then (if A3x (rstS s a) x /\ A3x (rstS s b) y then 0 else 7) else covC s a b
theorem twoC_zero {s : ShfV} {a b : List (List Int)} {x y : List Int} : twoC s a b x y = 0 ↔ covC s a b = 0 /\ A3x (rstS s a) x /\ A3x (rstS s b) y := by
 unfold twoC;split
 . rename_i h; split <;> simp [*]
 . rename_i h; simp [h]
structure CovAt (s : ShfV) (a b : List (List Int)) : Prop where
 s1 : A1M s
 ha : CplxOk a
 hb : CplxOk b
 ia : IsIn a s.1
 ib : IsIn b s.1
 cov : ∀ t ∈ s.1, t ∈ a ∨ t ∈ b
theorem covAt {s : ShfV} {a b : List (List Int)} (h : covC s a b = 0) : CovAt s a b := by
 obtain ⟨⟨h1, h2, h3⟩, h4, h5, h6⟩ := covC_zero.1 h;exact ⟨h1, h2, h3, h4, h5, h6⟩
theorem Aj6.val (s : ShfV) (a b : List (List Int)) (x y : List Int) (hs : SmSh s) (ha : SmL a) (hb : SmL b) (hx : x.length ≤ 1048576) (hy : y.length ≤ 1048576) : Aj6.F (s, a, b, x, y, ()) = some ((twoC s a b x y, ()), ()) := by
 have a1 : Aj7.F ((s.1, (s.2.1, (s.2.2.1, s.2.2.2))), a, b, ()) = _ := Aj7.val s a b hs ha hb;have T : Aj6.F (s, a, b, x, y, ()) = Aj6.T s.1 s.2.1 s.2.2.1 s.2.2.2 a b x y := Aj6.eq _ _ _ _ _ _ _ _;rw [T, Aj6.T, a1];simp only [Option.bind_some];by_cases h : covC s a b = 0
 . have c := covAt h;have r1 : Ae2.F ((s.1, (s.2.1, (s.2.2.1, s.2.2.2))), a, ()) = some ((rstS s a, ()), ()) := A1D c.s1.1 c.ha c.ia;have r2 : Ae2.F ((s.1, (s.2.1, (s.2.2.1, s.2.2.2))), b, ()) = some ((rstS s b, ()), ()) := A1D c.s1.1 c.hb c.ib;obtain ⟨v1, e1, e1'⟩ := Af7.val (rstS s a) (A1V c.s1.1 c.ha c.ia) x hx;obtain ⟨v2, e2, e2'⟩ := Af7.val (rstS s b) (A1V c.s1.1 c.hb c.ib) y hy;have e1 : Af7.F (((rstS s a).1, ((rstS s a).2.1, ((rstS s a).2.2.1, (rstS s a).2.2.2))), x, ()) = _ := e1;rw [if_neg (by simp [h]), r1, r2, twoC, if_pos h];simp only [Option.bind_some];rw [show Af7.F (rstS s a, x, ()) = _ from e1, show Af7.F (rstS s b, y, ()) = _ from e2];simp only [Option.bind_some];cases v1 with
   | false => rw [if_pos (by simp), if_neg fun hh => absurd (e1'.2 hh.1) (by simp)]
   | true => cases v2 with
     | false => rw [if_neg (by simp), if_pos (by simp), if_neg fun hh => absurd (e2'.2 hh.2) (by simp)]
     | true => rw [if_neg (by simp), if_neg (by simp), if_pos ⟨e1'.1 rfl, e2'.1 rfl⟩]
 . rw [if_pos (by simpa using h), twoC, if_neg h]
theorem A4U {s : ShfV} {p : List (List Int)} (h : A1M s) (hc : CplxOk p) (hi : IsIn p s.1) : rstV s p = rstS s p := by rw [rstV, if_pos (partC_zero.2 ⟨⟨h, hc⟩, hi⟩), rstS]
theorem Al1.val {s : ShfV} {p : List (List Int)} (hs : SmSh s) (hp : SmL p) (h : A1M s) (hc : CplxOk p) (hi : IsIn p s.1) : Al1.F (s, p, ()) = some ((rstS s p, ()), ()) := by
 have a1 : Ak5.F ((s.1, (s.2.1, (s.2.2.1, s.2.2.2))), p, ()) = _ := Ak5.val s p hs hp;have T : Al1.F (s, p, ()) = Al1.T s.1 s.2.1 s.2.2.1 s.2.2.2 p := Al1.eq _ _ _ _ _;rw [T, Al1.T, a1];simp only [Option.bind_some, A4U h hc hi]
theorem Ah4.val {s : ShfV} {p : List (List Int)} (x : List Int) (hs : SmSh s) (hp : SmL p) (h : A1M s) (hc : CplxOk p) (hi : IsIn p s.1) (hx : x.length ≤ 1048576) : ∃ v, Ah4.F (s, p, x, ()) = some ((v, ()), ()) /\ (v = true ↔ A3x (rstS s p) x) := by
 obtain ⟨v, e, e'⟩ := Ag8.val (rstS s p) (A1V h.1 hc hi) x hx;have a1 : Al1.F ((s.1, (s.2.1, (s.2.2.1, s.2.2.2))), p, ()) = _ := Al1.val hs hp h hc hi;have T : Ah4.F (s, p, x, ()) = Ah4.T s.1 s.2.1 s.2.2.1 s.2.2.2 p x := Ah4.eq _ _ _ _ _ _;refine ⟨v, ?_, e'⟩;rw [T, Ah4.T, a1];simp only [Option.bind_some];rw [show Ag8.F (rstS s p, x, ()) = _ from e]; rfl
theorem Al2.val (s : ShfV) (a b : List (List Int)) (x y : List Int) (hs : SmSh s) (ha : SmL a) (hb : SmL b) (hx : x.length ≤ 1048576) (hy : y.length ≤ 1048576) : Al2.F (s, a, b, x, y, ()) = some ((twoC s a b x y, ()), ()) := by
 have a1 : Al0.F ((s.1, (s.2.1, (s.2.2.1, s.2.2.2))), a, b, ()) = _ := Al0.val s a b hs ha hb;have T : Al2.F (s, a, b, x, y, ()) = Al2.T s.1 s.2.1 s.2.2.1 s.2.2.2 a b x y := Al2.eq _ _ _ _ _ _ _ _;rw [T, Al2.T, a1];simp only [Option.bind_some];by_cases h : covC s a b = 0
 . have c := covAt h;obtain ⟨v1, e1, e1'⟩ := Ah4.val x hs ha c.s1 c.ha c.ia hx;obtain ⟨v2, e2, e2'⟩ := Ah4.val y hs hb c.s1 c.hb c.ib hy;have e1 : Ah4.F ((s.1, (s.2.1, (s.2.2.1, s.2.2.2))), a, x, ()) = _ := e1;have e2 : Ah4.F ((s.1, (s.2.1, (s.2.2.1, s.2.2.2))), b, y, ()) = _ := e2;rw [if_pos (by simp [h]), e1, e2, twoC, if_pos h];simp only [Option.bind_some];cases v1 with
   | false => rw [if_pos (by simp), if_neg fun hh => absurd (e1'.2 hh.1) (by simp)]
   | true => cases v2 with
     | false => rw [if_neg (by simp), if_pos (by simp), if_neg fun hh => absurd (e2'.2 hh.2) (by simp)]
     | true => rw [if_neg (by simp), if_neg (by simp), if_pos ⟨e1'.1 rfl, e2'.1 rfl⟩, h]
 . rw [if_neg (by simpa using h), twoC, if_neg h]
theorem A2x {a : List (List Int)} {b : List (List Int)} (ha : CplxOk a) (hb : CplxOk b) : CplxOk (both a b) := by
 have hso := A2v b ha.sorted;have hmem : ∀ t, t ∈ both a b ↔ t ∈ a /\ t ∈ b := fun t => by simp [both]
 have hle : (both a b).length ≤ a.length := List.length_filter_le _ _;have hn := ha.1;refine ⟨by omega, fun i hi => ?_⟩;obtain ⟨m1, m2⟩ := (hmem _).1 (A0z [] hi);obtain ⟨i1, i2⟩ := A0B m1;obtain ⟨j1, j2⟩ := A0B m2;have q1 := ha.2 _ i1;have q2 := hb.2 _ j1;rw [i2] at q1;rw [j2] at q2;exact ⟨q1.1, fun h0 => hso _ _ (by omega) hi, fun h1 k hk => (hmem _).2 ⟨q1.2.2 h1 k hk, q2.2.2 h1 k hk⟩⟩
theorem A3j {p c : Int} {xs ys us vs : List Int} (h : us.length = xs.length) : addL p c (xs ++ ys) (us ++ vs) = addL p c xs us ++ addL p c ys vs := by
 unfold addL;rw [List.length_append, List.range_add, List.map_append, List.map_map];congr 1
 . refine List.map_congr_left fun i hi => ?_;have := List.mem_range.1 hi;simp only [List.getD_eq_getElem?_getD, List.getElem?_append_left this, List.getElem?_append_left (show i < us.length by omega)]
 . refine List.map_congr_left fun i hi => ?_;simp only [Function.comp];simp only [List.getD_eq_getElem?_getD, List.getElem?_append_right (show xs.length ≤ xs.length + i by omega), List.getElem?_append_right (show us.length ≤ xs.length + i by omega), h, Nat.add_sub_cancel_left]
theorem A2h {p c : Int} {f g : Nat -> List Int} : ∀ n, (∀ i, i < n -> (g i).length = (f i).length) -> addL p c ((List.range n).flatMap f) ((List.range n).flatMap g) = (List.range n).flatMap (fun i => addL p c (f i) (g i)) /\ ((List.range n).flatMap g).length = ((List.range n).flatMap f).length := by
 intro n;induction n with
 | zero => intro _; exact ⟨rfl, rfl⟩
 | succ n ih =>
   intro h;obtain ⟨h1, h2⟩ := ih fun i hi => h i (by omega);rw [A0m, A0m, A0m, A3j h2, h1];exact ⟨rfl, by rw [List.length_append, List.length_append, h2, h n (by omega)]⟩
theorem A1O {s : ShfV} {a b : List (List Int)} (c : CovAt s a b) {x : List Int} (hx : (x.length : Int) = A0j (rstS s a) 0) {i : Nat} (hi : i < nv (both a b)) {p : List (List Int)} (hp : CplxOk p) (hip : IsIn p s.1) (hbp : IsIn (both a b) p) {x : List Int} (hx : (x.length : Int) = A0j (rstS s p) 0) :
   resP (rstS s p) (both a b) 0 x i = A0e (rstS s p) x (A0G p ((both a b).getD i [])) /\ (((resP (rstS s p) (both a b) 0 x i).length : Nat) : Int) = s.2.2.1.getD (A0G s.1 ((both a b).getD i [])) 0 ∧
     Ag9.F (s, p, x, ((A0G s.1 ((both a b).getD i []) : Nat) : Int), ()) = some ((resP (rstS s p) (both a b) 0 x i, ()), ()) /\ (A0N 0 (s.2.1 - 1) x -> A0N 0 (s.2.1 - 1) (resP (rstS s p) (both a b) 0 x i)) := by
 have hB := A2x c.ha c.hb;obtain ⟨n1, n2, -⟩ := A1e hB;obtain ⟨d1, d2⟩ := n2 i hi;have hm : (both a b).getD i [] ∈ p := hbp _ (A0z [] (by omega));obtain ⟨i1, i2⟩ := A0B hm;have hnp : A0G p ((both a b).getD i []) < nv p := (A1e hp).2.2 _ i1 (by rw [i2]; exact d2);have e1 : resP (rstS s p) (both a b) 0 x i = A0e (rstS s p) x (A0G p ((both a b).getD i [])) := by
   rw [resP, inAt, d1, Int.toNat_natCast, A0e]; rfl
 have ht := A1V c.s1.1 hp hip;have hb := A0a ht (show A0G p ((both a b).getD i []) < (rstS s p).1.length from i1);have hd : ((rstS s p).1.getD (A0G p ((both a b).getD i [])) []).length = 1 := by
   show (p.getD _ []).length = 1;rw [i2]; exact d2
 rw [hd] at hb;have z3 : (((1 : Nat) : Int) - 1) = 0 := rfl;rw [z3, <- hx] at hb;have h32 := A0M ht 0;have hl := (A4Q (rstS s p) x ht _ i1 hb.2 (by omega)).2;have hst : (rstS s p).2.2.1.getD (A0G p ((both a b).getD i [])) 0 = s.2.2.1.getD (A0G s.1 ((both a b).getD i [])) 0 := by
   show (A0F s p (vts p)).getD _ 0 = _;rw [A1q s hp, stIn, A0I _ 0 i1, i2]
 refine ⟨e1, by rw [e1, hl, hst], ?_, fun ha => ?_⟩
 . have := Ag9.val c.s1.1 hp hip hx hnp;rw [i2] at this;rw [e1, this]
 . rw [e1, A0e, cutL];exact fun z hz => ha z (List.mem_of_mem_take (List.mem_of_mem_drop hz))
noncomputable def A4N (s : ShfV) (a b : List (List Int)) (x y : List Int) : List Int := addL s.2.1 (s.2.1 - 1) (resL (rstS s a) (both a b) 0 x) (resL (rstS s b) (both a b) 0 y)
structure TwoAt (s : ShfV) (a b : List (List Int)) (x y : List Int) : Prop extends CovAt s a b where
 hx : A1b (rstS s a) 0 x
 hy : A1b (rstS s b) 0 y
theorem twoAt {s : ShfV} {a b : List (List Int)} {x y : List Int} (h : twoC s a b x y = 0) : TwoAt s a b x y := by
 obtain ⟨h1, h2, h3⟩ := twoC_zero.1 h;exact ⟨covAt h1, h2.1, h3.1⟩
theorem both_in {a b : List (List Int)} : IsIn (both a b) a /\ IsIn (both a b) b := ⟨fun t ht => (by simp [both] at ht; exact ht.1), fun t ht => (by simp [both] at ht; exact ht.2)⟩
theorem A3T {s : ShfV} {a b : List (List Int)} {x y : List Int} (c : TwoAt s a b x y) : (∀ i, i < nv (both a b) -> (resP (rstS s b) (both a b) 0 y i).length = (resP (rstS s a) (both a b) 0 x i).length /\ (resP (rstS s a) (both a b) 0 x i).length ≤ 3) := by
 intro i hi;have ha := (A1O c.toCovAt c.hx.1 hi c.ha c.ia both_in.1 c.hx.1).2.1;have hb := (A1O c.toCovAt c.hx.1 hi c.hb c.ib both_in.2 c.hy.1).2.1;have hB := A2x c.ha c.hb;obtain ⟨n1, -, -⟩ := A1e hB;obtain ⟨i1, i2⟩ := A0B (c.ia _ (both_in.1 _ (A0z [] (show i < (both a b).length by omega))));have := A0k c.s1.1.2.2.1.2.1 (show A0G s.1 ((both a b).getD i []) < s.2.2.1.length by have := c.s1.1.2.2.1.1; omega);omega
theorem Aj8.val {s : ShfV} {a b : List (List Int)} {x y : List Int} (c : TwoAt s a b x y) : Aj8.F (s, a, b, x, y, ()) = some ((A4N s a b x y, ()), ()) := by
 have T : Aj8.F (s, a, b, x, y, ()) = Aj8.T s.1 s.2.1 s.2.2.1 s.2.2.2 a b x y := Aj8.eq _ _ _ _ _ _ _ _;have r1 : Ae2.F ((s.1, (s.2.1, (s.2.2.1, s.2.2.2))), a, ()) = some ((rstS s a, ()), ()) := A1D c.s1.1 c.ha c.ia;have r2 : Ae2.F ((s.1, (s.2.1, (s.2.2.1, s.2.2.2))), b, ()) = some ((rstS s b, ()), ()) := A1D c.s1.1 c.hb c.ib;have hB := A2x c.ha c.hb;have e1 := Ae8.val (rstS s a) (both a b) 0 x (A1V c.s1.1 c.ha c.ia) both_in.1 (by omega) c.hx.1 hB.1;have e2 := Ae8.val (rstS s b) (both a b) 0 y (A1V c.s1.1 c.hb c.ib) both_in.2 (by omega) c.hy.1 hB.1;have hp := c.s1.1.2.1.1;have hfl := A3T c;have hall : ∀ {p x}, A1b (rstS s p) 0 x -> CplxOk p -> IsIn p s.1 -> IsIn (both a b) p -> A0N 0 (s.2.1 - 1) (resL (rstS s p) (both a b) 0 x) := fun {p x} h1 h2 h3 h4 z hz => by
   unfold resL at hz;obtain ⟨i, hi, hz⟩ := List.mem_flatMap.1 hz;exact (A1O c.toCovAt c.hx.1 (List.mem_range.1 hi) h2 h3 h4 h1.1).2.2.2 h1.2 z hz
 have hlen := (A2h (p := s.2.1) (c := s.2.1 - 1) (f := resP (rstS s a) (both a b) 0 x) (g := resP (rstS s b) (both a b) 0 y) (nv (both a b)) fun i hi => (hfl i hi).1).2;have hle : (resL (rstS s a) (both a b) 0 x).length ≤ 144 := A3I (A1V c.s1.1 c.ha c.ia) both_in.1 c.hx.1 hB.1 (Nat.le_refl (A0w (both a b) 0 (both a b).length).length);rw [T, Aj8.T, Ao8.val a b c.ha.small c.hb.small c.ha.sorted c.hb.sorted, r1, r2];simp only [Option.bind_some];rw [show Ae8.F (rstS s a, both a b, 0, x, ()) = _ from e1, show Ae8.F (rstS s b, both a b, 0, y, ()) = _ from e2];simp only [Option.bind_some];rw [A0A (by omega) (by omega), Al3.val _ _ _ _ (by omega) (by omega) (hall c.hx c.ha c.ia both_in.1) (hall c.hy c.hb c.ib both_in.2) hlen (by omega)];rfl
theorem Aj3.val {s : ShfV} {a b : List (List Int)} {x y : List Int} (c : TwoAt s a b x y) : Aj3.F (s, a, b, x, y, ()) = some ((A4N s a b x y, ()), ()) := by
 have hB := A2x c.ha c.hb;have hiB : IsIn (both a b) s.1 := fun t ht => c.ia t (both_in.1 t ht);have hp := c.s1.1.2.1.1;have hfl := A3T c;obtain ⟨n1, n2, -⟩ := A1e hB;have hn := hB.1;have e0 : Ae6.F ((s.1, (s.2.1, (s.2.2.1, s.2.2.2))), both a b, ()) = _ := Ae6.val c.s1.1 hB hiB;have hle : ∀ i, i < nv (both a b) -> (addL s.2.1 (s.2.1 - 1) (resP (rstS s a) (both a b) 0 x i) (resP (rstS s b) (both a b) 0 y i)).length ≤ 3 := fun i hi => by rw [A0s]; exact (hfl i hi).2
 refine Aj3.of s.1 s.2.1 s.2.2.1 s.2.2.2 a b x y ?_;obtain ⟨v, hv, hg⟩ := Goes.loop (R := (List Int × Unit) × Unit) (fun k i (v : List Int) => Aj3.l5 k s.1 s.2.1 s.2.2.1 s.2.2.2 a b x y (i : Int) (vpl s (both a b)) v) (nv (both a b)) (fun i v => v = (List.range i).flatMap fun i => addL s.2.1 (s.2.1 - 1) (resP (rstS s a) (both a b) 0 x i) (resP (rstS s b) (both a b) 0 y i)) (fun i v hi h2 => ⟨_, rfl, Goes.succ fun k => by
   have hl := A3s (f := fun i => addL s.2.1 (s.2.1 - 1) (resP (rstS s a) (both a b) 0 x i) (resP (rstS s b) (both a b) 0 y i)) i fun j hj => hle j (by omega);obtain ⟨-, -, a3, a4⟩ := A1O c.toCovAt c.hx.1 hi c.ha c.ia both_in.1 c.hx.1;obtain ⟨-, -, b3, b4⟩ := A1O c.toCovAt c.hx.1 hi c.hb c.ib both_in.2 c.hy.1;have a3 : Ag9.F ((s.1, (s.2.1, (s.2.2.1, s.2.2.2))), a, x, _, ()) = _ := a3;have b3 : Ag9.F ((s.1, (s.2.1, (s.2.2.1, s.2.2.2))), b, y, _, ()) = _ := b3;have h3 := (hfl i hi).2;rw [Aj3.l5_eq, if_pos (ltI.2 (by rw [A0S]; omega)), if_pos (idxI.2 (by rw [A0S]; omega))];simp only [Int.toNat_natCast];rw [A2f s _ hi, a3];simp only [Option.bind_some];rw [if_pos (idxI.2 (by rw [A0S]; omega)), b3];simp only [Option.bind_some];rw [A0A (by omega) (by omega), Ag6.val _ _ _ _ (by omega) (by omega) (a4 c.hx.2) (b4 c.hy.2) (hfl i hi).1 (by omega)];simp only [Option.bind_some];have h4 := hle i hi;rw [if_pos (by rw [h2]; simp only [bigA]; omega), A0x (by omega), h2, A0m]⟩) 0 [] (Nat.zero_le _) rfl
 refine Ev.of_eq (hg _ ((Ev.const _).succ fun k => ?_)) fun k => by rw [Aj3.T, Ad1.val a b c.ha.small c.hb.small, Option.bind_some, e0]; rfl
 rw [Aj3.l5_eq, if_neg (by rw [A0S]; simp), hv];exact congrArg (fun l => some ((l, ()), ())) (A2h (nv (both a b)) fun i hi => (hfl i hi).1).1.symm
theorem Ap6.val (m : MatV) (l : Int) (h0 : 0 ≤ l) (h1 : l ≤ 1048576) (hx : m.2.2.2.length ≤ maxLen) : ∃ r, Ap6.F (m, l, ()) = some ((r, ()), ()) /\ (r = -1 ∨ 0 ≤ r /\ r ≤ l /\ SmM m) := by
 obtain ⟨a, b, c, xs⟩ := m;obtain ⟨r, h2, h3⟩ := Ae3.val xs l h0 h1 hx;rw [Ap6.eq, Ap6.T, h2];simp only [Option.bind_some];rcases h3 with rfl | ⟨a, b, c⟩
 . exact ⟨-1, by rw [if_pos (by simp)], .inl rfl⟩
 . exact ⟨r, by rw [if_neg (by simp; omega)], .inr ⟨a, b, c⟩⟩
theorem Ai1.val (xs : List MatV) (l : Int) (h0 : 0 ≤ l) (h1 : l ≤ 1048576) (hx : xs.length ≤ maxLen) (hr : ∀ x ∈ xs, x.2.2.2.length ≤ maxLen) : ∃ r, Ai1.F (xs, l, ()) = some ((r, ()), ()) /\ (r = -1 ∨ 0 ≤ r /\ r ≤ l /\ SmMs xs) := by
 have : xs.length ≤ 9223372036854775807 := hx;by_cases h : l < xs.length
 . exact ⟨-1, Ai1.of _ _ ((Ev.const _).of_eq fun k => by rw [Ai1.T, A0A (by omega) (by omega), if_pos (by simp; omega)]), .inl rfl⟩
 obtain ⟨r, hv, h2⟩ := A4D (fun k i s => Ai1.l5 k xs s (i : Int)) xs (0, 0, 0, []) SmM (fun i s hi s0 s1 => by
   have E := fun k => Ai1.l5_eq k xs s (i : Int);obtain ⟨r, hr1, hr2⟩ := Ap6.val (xs.getD i (0, 0, 0, [])) s s0 s1 (hr _ (A0z _ hi));simp only [if_pos (ltI.2 hi), if_pos (idxI.2 hi), Int.toNat_natCast, hr1, Option.bind_some, A0x (show i < 4611686018427387904 by omega)] at E;rcases hr2 with rfl | ⟨a, b, c⟩
   . exact .inr fun k => by rw [E, if_pos (by simp)]
   . exact .inl ⟨r, a, b, c, fun k => by rw [E, if_neg (by simp; omega)]⟩) (fun k l => by rw [Ai1.l5_eq, if_neg (by simp)]) (l - xs.length) (by omega) (by omega)
 refine ⟨r, Ai1.of _ _ (hv.of_eq fun k => by rw [Ai1.T, A0A (by omega) (by omega), if_neg (by simp; omega)]; rfl), ?_⟩;rcases h2 with h2 | ⟨a, b, c⟩
 . exact .inl h2
 . exact .inr ⟨a, by omega, by omega, c⟩
theorem Ap7.val (m : MatV) (h : SmM m) : Ap7.F (m, ()) = some ((m, ()), ()) := by
 obtain ⟨a, b, c, xs⟩ := m;have hs : xs.length ≤ 1048576 := h;rw [Ap7.eq, Ap7.T, Aa6.val xs (by omega)]; rfl
theorem Ak2.val (xs : List MatV) (h : SmMs xs) : Ak2.F (xs, ()) = some ((xs, ()), ()) := by
 have hl := h.1;refine Ak2.of xs ?_;have := Goes.fill (L := fun k i ys => Ak2.l3 k xs (i : Int) ys) xs (0, 0, 0, []) (fun k i ys hi hy => by
   rw [Ak2.l3_eq, if_pos (ltI.2 hi), if_pos (idxI.2 hi)];simp only [Int.toNat_natCast, Ap7.val _ (h.2 _ (A0z (0, 0, 0, []) hi)), Option.bind_some];rw [if_pos (by omega), A0x (by omega)]) (List.replicate xs.length (0, 0, 0, [])) (by simp)
 refine Ev.of_eq (this _ ((Ev.const _).succ fun k => ?_)) fun k => ?_
 . rw [Ak2.l3_eq, if_neg (by simp)]
 . rw [Ak2.T, if_pos (by simp only [bigN]; omega)]; rfl
theorem Ap3.same (m n : MatV) (h : SmM m) : ∃ b, Ap3.F (m, n, ()) = some ((b, ()), ()) /\ (b = true ↔ m = n) := by
 obtain ⟨a, b, c, xs⟩ := m;obtain ⟨a', b', c', ys⟩ := n;have hs : xs.length ≤ 1048576 := h;obtain ⟨e, he, he'⟩ := Aa2.val xs ys (by omega);rw [Ap3.eq, Ap3.T, he];simp only [Option.bind_some, Prod.mk.injEq];by_cases h1 : a = a'
 . by_cases h2 : b = b'
   . by_cases h3 : c = c'
     . rw [if_neg (by simp [h1]), if_neg (by simp [h2]), if_neg (by simp [h3])];exact ⟨e, by cases e <;> rfl, by simp [h1, h2, h3, he']⟩
     . exact ⟨false, by rw [if_neg (by simp [h1]), if_neg (by simp [h2]), if_pos (by simp [h3])], by simp [h3]⟩
   . exact ⟨false, by rw [if_neg (by simp [h1]), if_pos (by simp [h2])], by simp [h2]⟩
 . exact ⟨false, by rw [if_pos (by simp [h1])], by simp [h1]⟩
theorem Ah9.same (xs ys : List MatV) (h : SmMs xs) : ∃ b, Ah9.F (xs, ys, ()) = some ((b, ()), ()) /\ (b = true ↔ xs = ys) := by
 have hn := h.1;by_cases hl : xs.length = ys.length
 . obtain ⟨b, hb, hb'⟩ := A0r (fun k i => Ah9.l4 k xs ys (i : Int)) xs ys (0, 0, 0, []) hl (fun i hi => by
     obtain ⟨c, hc, hc'⟩ := Ap3.same (xs.getD i (0, 0, 0, [])) (ys.getD i (0, 0, 0, [])) (h.2 _ (A0z _ hi));exact ⟨c, hc', fun k => by rw [Ah9.l4_eq, if_pos (ltI.2 hi), if_pos (idxI.2 hi), if_pos (idx2 (hl ▸ hi))]; simp only [Int.toNat_natCast, hc, Option.bind_some]; rw [A0x (by omega)]⟩) (fun k => by rw [Ah9.l4_eq, if_neg (by simp)])
   exact ⟨b, Ah9.of _ _ (hb.of_eq fun k => by rw [Ah9.T, if_neg (by simp [hl])]; rfl), hb'⟩
 . exact ⟨false, Ah9.of _ _ ((Ev.const _).of_eq fun k => by rw [Ah9.T, if_pos (by simp; omega)]), by simp; intro e; exact hl (by rw [e])⟩
theorem shf_wf {s : ShfV} (h : wfT (.pair (.sl (.sl (.int .i64))) (.pair (.int .i64) (.pair (.sl (.int .i64)) (.sl (.pair (.int .i64) (.pair (.int .i64) (.pair (.int .i64) (.sl (.int .i64))))))))) s) : s.1.length ≤ maxLen /\ (∀ x ∈ s.1, x.length ≤ maxLen) /\ s.2.2.1.length ≤ maxLen /\ s.2.2.2.length ≤ maxLen /\ ∀ x ∈ s.2.2.2, x.2.2.2.length ≤ maxLen := by
 obtain ⟨a, p, b, c⟩ := s;obtain ⟨⟨h1, h2⟩, _, ⟨h3, _⟩, h4, h5⟩ := h;exact ⟨h1, fun x hx => (h2 x hx).1, h3, h4, fun x hx => (h5 x hx).2.2.2.1⟩
theorem An1.val (s : ShfV) (l : Int) (h0 : 0 ≤ l) (h1 : l ≤ 1048576) (w1 : s.1.length ≤ maxLen) (w2 : ∀ x ∈ s.1, x.length ≤ maxLen) (w3 : s.2.2.1.length ≤ maxLen) (w4 : s.2.2.2.length ≤ maxLen) (w5 : ∀ x ∈ s.2.2.2, x.2.2.2.length ≤ maxLen) : ∃ r, An1.F (s, l, ()) = some ((r, ()), ()) /\ (r = -1 ∨ 0 ≤ r /\ r ≤ l /\ SmSh s) := by
 obtain ⟨a, p, b, c⟩ := s;obtain ⟨r1, e1, k1⟩ := Ag2.val a l h0 h1 w1 w2;rw [An1.eq, An1.T, e1];simp only [Option.bind_some];rcases k1 with rfl | ⟨a1, b1, c1⟩
 . exact ⟨-1, by rw [if_pos (by simp)], .inl rfl⟩
 rw [if_neg (by simp; omega)];obtain ⟨r2, e2, k2⟩ := Ae3.val b r1 a1 (by omega) w3;rw [e2];simp only [Option.bind_some];rcases k2 with rfl | ⟨a2, b2, c2⟩
 . exact ⟨-1, by rw [if_pos (by simp)], .inl rfl⟩
 rw [if_neg (by simp; omega)];obtain ⟨r3, e3, k3⟩ := Ai1.val c r2 a2 (by omega) w4 w5;rw [e3];simp only [Option.bind_some];rcases k3 with rfl | ⟨a3, b3, c3⟩
 . exact ⟨-1, by rw [if_pos (by simp)], .inl rfl⟩
 exact ⟨r3, by rw [if_neg (by simp; omega)], .inr ⟨a3, by omega, c1, c2, c3⟩⟩
theorem Aj1.val (s : ShfV) (h : SmSh s) : Aj1.F (s, ()) = some ((s, ()), ()) := by
 obtain ⟨a, p, b, c⟩ := s;obtain ⟨h1, h2, h3⟩ := h;have h2' : b.length ≤ 1048576 := h2;rw [Aj1.eq, Aj1.T, Ad3.val a h1, Aa6.val b (by omega), Ak2.val c h3]; rfl
theorem Ap4.same (s t : ShfV) (h : SmSh s) : ∃ b, Ap4.F (s, t, ()) = some ((b, ()), ()) /\ (b = true ↔ s = t) := by
 obtain ⟨a, p, b, c⟩ := s;obtain ⟨a', p', b', c'⟩ := t;obtain ⟨h1, h2, h3⟩ := h;have h2' : b.length ≤ 1048576 := h2;obtain ⟨v1, e1, k1⟩ := Ag0.same a a' h1;obtain ⟨v2, e2, k2⟩ := Aa2.val b b' (by omega);obtain ⟨v3, e3, k3⟩ := Ah9.same c c' h3;rw [Ap4.eq, Ap4.T, e1, e2, e3];simp only [Option.bind_some, Prod.mk.injEq];by_cases hp : p = p'
 . rw [show (p != p') = false by simp [hp]];refine ⟨v1 && v2 && v3, by cases v1 <;> cases v2 <;> cases v3 <;> rfl, ?_⟩;simp only [Bool.and_eq_true, k1, k2, k3, hp, true_and, and_assoc]
 . rw [show (p != p') = true by simp [hp]];exact ⟨false, by cases v1 <;> rfl, by simp [hp]⟩
def A2K (ys : List Int) (k : Int) : Prop := ∀ j, j < ys.length -> ys.getD j 0 = k + j
theorem Aa7.val (xs : List Int) (k0 : Int) (h0 : 0 ≤ k0) (h1 : k0 + xs.length ≤ 4611686018427387904) : ∃ ys, Aa7.F (xs, k0, ()) = some ((k0 + xs.length, ()), (ys, ())) /\ ys.length = xs.length /\ A2K ys k0 := by
 obtain ⟨⟨v, ys⟩, ⟨hv, hl, hm⟩, hg⟩ := Goes.loop (R := (Int × Unit) × (List Int × Unit)) (fun k i (s : Int × List Int) => Aa7.l2 k s.1 (i : Int) s.2) xs.length (fun i s => s.1 = k0 + i /\ s.2.length = xs.length /\ ∀ j, j < i -> s.2.getD j 0 = k0 + j)
   (fun i s hi ⟨h2, h3, h4⟩ => ⟨(s.1 + 1, s.2.set i s.1), ⟨by simp only []; omega, by simp [h3], fun j hj => by
     simp only [List.getD_eq_getElem?_getD, List.getElem?_set];by_cases hij : i = j
     . subst hij; simp [h3, hi, h2]
     . have := h4 j (by omega);simp only [List.getD_eq_getElem?_getD] at this;simp [hij, this]⟩, Goes.succ fun k => by
     rw [Aa7.l2_eq, if_pos (by simp; omega), if_pos (by omega), A0A (by omega) (by omega), A0x (by omega)];simp only [Int.toNat_natCast]⟩) 0 (k0, xs) (Nat.zero_le _) ⟨by simp, rfl, fun j hj => by omega⟩
 simp only [] at hv hl hm;refine ⟨ys, Aa7.of _ _ ((hg _ ((Ev.const _).succ fun k => ?_)).of_eq fun k => rfl), hl, fun j hj => hm j (by omega)⟩;rw [Aa7.l2_eq, if_neg (by simp; omega), hv]
theorem Aj0.val (ys : List Int) (k0 : Int) (h0 : 0 ≤ k0) (h1 : k0 + ys.length ≤ 4611686018427387904) (hm : A2K ys k0) : Aj0.F (ys, k0, ()) = some ((k0 + ys.length, ()), ()) := by
 obtain ⟨v, hv, hg⟩ := Goes.loop (R := (Int × Unit) × Unit) (fun k i (s : Int) => Aj0.l2 k ys s (i : Int)) ys.length (fun i s => s = k0 + i)
   (fun i s hi h2 => ⟨s + 1, by omega, Goes.succ fun k => by
     rw [Aj0.l2_eq, if_pos (ltI.2 hi), if_pos (idxI.2 hi), if_neg (by simp only [Int.toNat_natCast]; rw [hm i hi, h2]; simp), A0A (by omega) (by omega), A0x (by omega)]⟩) 0 k0 (Nat.zero_le _) (by simp)
 refine Aj0.of _ _ ((hg _ ((Ev.const _).succ fun k => ?_)).of_eq fun k => rfl);rw [Aj0.l2_eq, if_neg (by simp), hv]
theorem A3a (xs : List Int) (h1 : xs.length ≤ 4611686018427387903) : ∃ ys v, Aa7.F (xs, 1, ()) = some ((v, ()), (ys, ())) /\ Aj0.F (ys, 1, ()) = some ((v, ()), ()) /\ 0 ≤ v := by
 obtain ⟨ys, h2, h3, h4⟩ := Aa7.val xs 1 (by omega) (by omega);exact ⟨ys, _, h2, by rw [Aj0.val ys 1 (by omega) (by omega) h4, h3], by omega⟩
def mkI (n : Nat) (k : Int) : List Int := (List.range n).map fun (j : Nat) => k + (j : Int)
theorem A3b (n : Nat) (k : Int) : (mkI n k).length = n := by simp [mkI]
theorem A3c (n : Nat) (k : Int) : A2K (mkI n k) k := fun j hj => by
 rw [A3b] at hj;simp [mkI, List.getD_eq_getElem?_getD, hj]
theorem mkI_of {ys : List Int} {k : Int} (h : A2K ys k) : ys = mkI ys.length k := by
 refine List.ext_getElem (by simp [mkI]) fun i h1 h2 => ?_;rw [<- A0y (d := 0) h1, <- A0y (d := 0) h2, h i h1, A3c _ _ i h2]
def mkM (m : MatV) (k : Int) : MatV := (k, k + 1, k + 1 + 1, mkI m.2.2.2.length (k + 1 + 1 + 1))
def szM (m : MatV) : Nat := 3 + m.2.2.2.length
def offM (ms : List MatV) (i : Nat) : Nat := ((ms.take i).map szM).sum
theorem A1T {ms : List MatV} {i : Nat} (h : i < ms.length) : offM ms (i + 1) = offM ms i + szM (ms.getD i (0, 0, 0, [])) := by
 unfold offM;rw [List.take_add_one, List.getElem?_eq_getElem h, Option.toList_some, List.map_append, List.sum_append, A0y h];simp
theorem offM_le {ms : List MatV} {i j : Nat} (h : i ≤ j) : offM ms i ≤ offM ms j := by
 induction h with
 | refl => exact Nat.le_refl _
 | @step m _ ih =>
   by_cases hm : m < ms.length
   . rw [Nat.succ_eq_add_one, A1T hm]; omega
   . have : offM ms (m + 1) = offM ms m := by unfold offM; rw [List.take_of_length_le (by omega), List.take_of_length_le (by omega)]
     rw [Nat.succ_eq_add_one, this]; exact ih
theorem offM_bd {ms : List MatV} (h : SmMs ms) : offM ms ms.length ≤ 1048579 * 1048576 := by
 have key : ∀ i, i ≤ ms.length -> offM ms i ≤ 1048579 * i := by
   intro i;induction i with
   | zero => intro _; simp [offM]
   | succ i ih =>
     intro hi;have h1 := ih (by omega);have h2 : (ms.getD i (0, 0, 0, [])).2.2.2.length ≤ 1048576 := h.2 _ (A0z _ (by omega));rw [A1T (by omega), szM]; omega
 have := key ms.length (Nat.le_refl _);have := h.1;omega
theorem A4V {α : Type} (l : List α) (i : Nat) (x y : α) : (l.set i x).set i y = l.set i y := by rw [List.set_set]
theorem A1R {α : Type} (l : List α) (i : Nat) (x d : α) (h : i < l.length) : (l.set i x).getD i d = x := by simp [List.getD_eq_getElem?_getD, h]
theorem Am0.val (ms : List MatV) (k0 : Int) (h0 : 0 ≤ k0) (hx : ms.length < 4611686018427387904) (h1 : k0 + offM ms ms.length ≤ 4611686018427387904) :
   ∃ ys, Am0.F (ms, k0, ()) = some ((k0 + offM ms ms.length, ()), (ys, ())) /\ ys.length = ms.length /\ ∀ j, j < ms.length -> ys.getD j (0, 0, 0, []) = mkM (ms.getD j (0, 0, 0, [])) (k0 + offM ms j) := by
 obtain ⟨⟨v, ys⟩, ⟨hv, hl, hm, -⟩, hg⟩ := Goes.loop (R := (Int × Unit) × (List MatV × Unit)) (fun k i (s : Int × List MatV) => Am0.l2 k s.1 (i : Int) s.2) ms.length
   (fun i s => s.1 = k0 + offM ms i /\ s.2.length = ms.length /\ (∀ j, j < i -> s.2.getD j (0, 0, 0, []) = mkM (ms.getD j (0, 0, 0, [])) (k0 + offM ms j)) /\ ∀ j, i ≤ j -> s.2.getD j (0, 0, 0, []) = ms.getD j (0, 0, 0, []))
   (fun i s hi ⟨h2, h3, h4, h5⟩ => by
     have hle := offM_le (ms := ms) (show i + 1 ≤ ms.length by omega);rw [A1T hi, szM] at hle;obtain ⟨m, hm⟩ : ∃ m, ms.getD i (0, 0, 0, []) = m := ⟨_, rfl⟩;rw [hm] at hle;obtain ⟨ys, e1, e2, e3⟩ := Aa7.val m.2.2.2 (s.1 + 1 + 1 + 1) (by omega) (by omega);have e4 : ys = mkI m.2.2.2.length (s.1 + 1 + 1 + 1) := by rw [<- e2]; exact mkI_of e3
     have w1 : IntKind.i64.wrap (s.1 + 1) = s.1 + 1 := A0A (by omega) (by omega);have w2 : IntKind.i64.wrap (s.1 + 1 + 1) = s.1 + 1 + 1 := A0A (by omega) (by omega);have w3 : IntKind.i64.wrap (s.1 + 1 + 1 + 1) = s.1 + 1 + 1 + 1 := A0A (by omega) (by omega);have hsi : s.2.getD i (0, 0, 0, []) = m := by rw [h5 i (Nat.le_refl _), hm]
     have hil : i < s.2.length := by omega
     refine ⟨(s.1 + 1 + 1 + 1 + m.2.2.2.length, s.2.set i (mkM m s.1)), ⟨by simp only []; rw [A1T hi, hm, szM]; omega, by simp [h3], fun j hj => ?_, fun j hj => ?_⟩, Goes.succ fun k => ?_⟩
     . by_cases hij : i = j
       . subst hij; simp only []; rw [A1R _ _ _ _ hil, hm, h2]
       . have := h4 j (by omega);simp only [List.getD_eq_getElem?_getD, List.getElem?_set] at this ⊢;rw [if_neg hij]; exact this
     . have := h5 j (by omega);simp only [List.getD_eq_getElem?_getD, List.getElem?_set] at this ⊢;rw [if_neg (by omega)]; exact this
     . rw [Am0.l2_eq, if_pos (by simp; omega), if_pos (by omega)];simp only [Int.toNat_natCast, hsi, A4V, A1R _ _ _ _ hil, List.length_set, w1, w2, w3];rw [if_pos (by omega), if_pos (by omega), if_pos (by omega), e1];simp only [Option.bind_some];rw [A0x (by omega), e4];rfl) 0 (k0, ms) (Nat.zero_le _) ⟨by simp [offM], rfl, fun j hj => by omega, fun _ _ => rfl⟩
 simp only [] at hv hl hm;refine ⟨ys, Am0.of _ _ ((hg _ ((Ev.const _).succ fun k => ?_)).of_eq fun k => rfl), hl, hm⟩;rw [Am0.l2_eq, if_neg (by simp; omega), hv]
def offs (xs : List (List Int)) (i : Nat) : Nat := ((xs.take i).map List.length).sum
theorem A1U {xs : List (List Int)} {i : Nat} (h : i < xs.length) : offs xs (i + 1) = offs xs i + (xs.getD i []).length := by
 unfold offs;rw [List.take_add_one, List.getElem?_eq_getElem h, Option.toList_some, List.map_append, List.sum_append, A0y h];simp
theorem offs_le {xs : List (List Int)} {i j : Nat} (h : i ≤ j) : offs xs i ≤ offs xs j := by
 induction h with
 | refl => exact Nat.le_refl _
 | @step m _ ih =>
   by_cases hm : m < xs.length
   . rw [Nat.succ_eq_add_one, A1U hm]; omega
   . have : offs xs (m + 1) = offs xs m := by unfold offs; rw [List.take_of_length_le (by omega), List.take_of_length_le (by omega)]
     rw [Nat.succ_eq_add_one, this]; exact ih
theorem Al9.val (xs : List (List Int)) (k0 : Int) (h0 : 0 ≤ k0) (hx : xs.length < 4611686018427387904) (h1 : k0 + offs xs xs.length ≤ 4611686018427387904) :
   ∃ ys, Al9.F (xs, k0, ()) = some ((k0 + offs xs xs.length, ()), (ys, ())) /\ ys.length = xs.length /\ ∀ j, j < xs.length -> (ys.getD j []).length = (xs.getD j []).length /\ A2K (ys.getD j []) (k0 + offs xs j) := by
 obtain ⟨⟨v, ys⟩, ⟨hv, hl, hm, -⟩, hg⟩ := Goes.loop (R := (Int × Unit) × (List (List Int) × Unit)) (fun k i (s : Int × List (List Int)) => Al9.l2 k s.1 (i : Int) s.2) xs.length
   (fun i s => s.1 = k0 + offs xs i /\ s.2.length = xs.length /\ (∀ j, j < i -> (s.2.getD j []).length = (xs.getD j []).length /\ A2K (s.2.getD j []) (k0 + offs xs j)) /\ ∀ j, i ≤ j -> s.2.getD j [] = xs.getD j [])
   (fun i s hi ⟨h2, h3, h4, h5⟩ => by
     have hle := offs_le (xs := xs) (show i + 1 ≤ xs.length by omega);rw [A1U hi] at hle;obtain ⟨ys, e1, e2, e3⟩ := Aa7.val (s.2.getD i []) s.1 (by omega) (by rw [h5 i (Nat.le_refl _), h2]; omega);rw [h5 i (Nat.le_refl _)] at e1 e2;refine ⟨(s.1 + (xs.getD i []).length, s.2.set i ys), ⟨by simp only []; rw [A1U hi]; omega, by simp [h3], fun j hj => ?_, fun j hj => ?_⟩, Goes.succ fun k => ?_⟩
     . simp only [List.getD_eq_getElem?_getD, List.getElem?_set];by_cases hij : i = j
       . subst hij;simp only [h3, hi, if_true, Option.getD_some];exact ⟨by rw [e2, List.getD_eq_getElem?_getD], by rw [<- h2]; exact e3⟩
       . have := h4 j (by omega);simp only [List.getD_eq_getElem?_getD] at this;simpa [hij] using this
     . have := h5 j (by omega);simp only [List.getD_eq_getElem?_getD, List.getElem?_set] at this ⊢;rw [if_neg (by omega)]; exact this
     . rw [Al9.l2_eq, if_pos (by simp; omega), if_pos (by omega)];simp only [Int.toNat_natCast, h5 i (Nat.le_refl _), e1, Option.bind_some];rw [A0x (by omega)]) 0 (k0, xs) (Nat.zero_le _) ⟨by simp [offs], rfl, fun j hj => by omega, fun _ _ => rfl⟩
 simp only [] at hv hl hm;refine ⟨ys, Al9.of _ _ ((hg _ ((Ev.const _).succ fun k => ?_)).of_eq fun k => rfl), hl, hm⟩;rw [Al9.l2_eq, if_neg (by simp; omega), hv]
theorem offs_bd {xs : List (List Int)} (h : SmL xs) : offs xs xs.length ≤ 1048576 * 1048576 := by
 have key : ∀ i, i ≤ xs.length -> offs xs i ≤ 1048576 * i := by
   intro i;induction i with
   | zero => intro _; simp [offs]
   | succ i ih =>
     intro hi;have h1 := ih (by omega);have h2 : (xs.getD i []).length ≤ 1048576 := h.2 _ (A0z _ (by omega));rw [A1U (by omega)]; omega
 have := key xs.length (Nat.le_refl _);have := h.1;omega
theorem Ag1.some (c : List (List Int)) (k0 : Int) (h : SmL c) (h0 : 0 ≤ k0) (h1 : k0 ≤ 1152921504606846976) : ∃ v ys, Ag1.F (c, k0, ()) = some ((v, ()), (ys, ())) /\ k0 ≤ v /\ v ≤ k0 + 1099511627776 := by
 have b := offs_bd h;have hl := h.1;obtain ⟨ys, e, _⟩ := Al9.val c k0 h0 (by omega) (by omega);rw [Ag1.eq, Ag1.T, e];exact ⟨k0 + ((offs c c.length : Nat) : Int), _, rfl, by omega, by omega⟩
theorem Ap5.some (s : ShfV) (k0 : Int) (h : SmSh s) (h0 : 0 ≤ k0) (h1 : k0 ≤ 576460752303423488) : ∃ v ys, Ap5.F (s, k0, ()) = some ((v, ()), (ys, ())) /\ k0 ≤ v /\ v ≤ k0 + 8796093022208 := by
 obtain ⟨c, p, st, ms⟩ := s;obtain ⟨hc, hst, hms⟩ := h;have hst : st.length ≤ 1048576 := hst;have hml := hms.1;have b := offM_bd hms;obtain ⟨v1, y1, e1, a1, b1⟩ := Ag1.some c k0 hc h0 (by omega);obtain ⟨y2, e2, _⟩ := Aa7.val st v1 (by omega) (by omega);obtain ⟨y3, e3, _⟩ := Am0.val ms (v1 + st.length) (by omega) (by have : ms.length ≤ 1048576 := hml; omega) (by have : offM ms ms.length ≤ 1048579 * 1048576 := b; omega);rw [Ap5.eq, Ap5.T, e1];simp only [Option.bind_some, e2, e3];have : offM ms ms.length ≤ 1048579 * 1048576 := b;exact ⟨_, _, rfl, by omega, by omega⟩
theorem Aa7.some (xs : List Int) (k0 : Int) (h : xs.length ≤ 1048576) (h0 : 0 ≤ k0) (h1 : k0 ≤ 1152921504606846976) : ∃ v ys, Aa7.F (xs, k0, ()) = some ((v, ()), (ys, ())) /\ k0 ≤ v /\ v ≤ k0 + 1048576 := by
 obtain ⟨ys, e, _⟩ := Aa7.val xs k0 h0 (by omega);exact ⟨_, _, e, by omega, by omega⟩
noncomputable def difV (s : ShfV) (a b : List (List Int)) (x y : List Int) : List Int := if twoC s a b x y = 0 then A4N s a b x y else []
theorem Aj4.val (s : ShfV) (a b : List (List Int)) (x y : List Int) (hs : SmSh s) (ha : SmL a) (hb : SmL b) (hx : x.length ≤ 1048576) (hy : y.length ≤ 1048576) : Aj4.F (s, a, b, x, y, ()) = some ((difV s a b x y, twoC s a b x y, ()), ()) := by
 have a1 : Aj6.F ((s.1, (s.2.1, (s.2.2.1, s.2.2.2))), a, b, x, y, ()) = _ := Aj6.val s a b x y hs ha hb hx hy;have T : Aj4.F (s, a, b, x, y, ()) = Aj4.T s.1 s.2.1 s.2.2.1 s.2.2.2 a b x y := Aj4.eq _ _ _ _ _ _ _ _;rw [T, Aj4.T, a1, difV];simp only [Option.bind_some];by_cases h : twoC s a b x y = 0
 . have a2 : Aj8.F ((s.1, (s.2.1, (s.2.2.1, s.2.2.2))), a, b, x, y, ()) = _ := Aj8.val (twoAt h);rw [if_neg (by simp [h]), if_pos h, a2, h]; rfl
 . rw [if_pos (by simpa using h), if_neg h]
theorem Am2.val (s : ShfV) (a b : List (List Int)) (x y : List Int) (hs : SmSh s) (ha : SmL a) (hb : SmL b) (hx : x.length ≤ 1048576) (hy : y.length ≤ 1048576) : Am2.F (s, a, b, x, y, ()) = some ((difV s a b x y, twoC s a b x y, ()), ()) := by
 have a1 : Al2.F ((s.1, (s.2.1, (s.2.2.1, s.2.2.2))), a, b, x, y, ()) = _ := Al2.val s a b x y hs ha hb hx hy;have T : Am2.F (s, a, b, x, y, ()) = Am2.T s.1 s.2.1 s.2.2.1 s.2.2.2 a b x y := Am2.eq _ _ _ _ _ _ _ _;rw [T, Am2.T, a1, difV];simp only [Option.bind_some];by_cases h : twoC s a b x y = 0
 . have a2 : Aj3.F ((s.1, (s.2.1, (s.2.2.1, s.2.2.2))), a, b, x, y, ()) = _ := Aj3.val (twoAt h);rw [if_neg (by simp [h]), if_pos h, a2, h]; rfl
 . rw [if_pos (by simpa using h), if_neg h]
theorem difV_le (s : ShfV) (a b : List (List Int)) (x y : List Int) : (difV s a b x y).length ≤ 144 := by
 unfold difV;split
 . rename_i h;have c := twoAt h;have hB := A2x c.ha c.hb;rw [A4N, A0s];exact A3I (A1V c.s1.1 c.ha c.ia) both_in.1 c.hx.1 hB.1 (Nat.le_refl (A0w (both a b) 0 (both a b).length).length)
 . simp
theorem A4Z {s : List (List Int)} (h : wfT (.sl (.sl (.int .i64))) s) : s.length ≤ maxLen /\ ∀ x ∈ s, x.length ≤ maxLen := ⟨h.1, fun x hx => (h.2 x hx).1⟩
theorem An0.pure (d : Ins An0.sig.ps) (h : wfIns An0.sig.ps d) : ∃ mu, An0.F d = some ((true, ()), mu) := by
 obtain ⟨d0, d1, d2, d3, d4, ⟨⟩⟩ := d;obtain ⟨hw0, hw1, hw2, hw3, hw4, _⟩ := h;obtain ⟨w0a, w0b, w0c, w0d, w0e⟩ := shf_wf hw0;obtain ⟨w1a, w1b⟩ := A4Z hw1;obtain ⟨w2a, w2b⟩ := A4Z hw2;refine ⟨(), ?_⟩;have hT : An0.F (d0, d1, d2, d3, d4, ()) = An0.T d0.1 d0.2.1 d0.2.2.1 d0.2.2.2 d1 d2 d3 d4 := An0.eq _ _ _ _ _ _ _ _;rw [hT, An0.T];by_cases hl3 : d3.length ≤ 1048576
 . rw [if_neg (by simp; omega)];by_cases hl4 : d4.length ≤ 1048576
   . rw [if_neg (by simp; omega)];obtain ⟨r0, e0, k0⟩ := An1.val d0 1048576 (by omega) (by omega) w0a w0b w0c w0d w0e;have e0 : An1.F ((d0.1, (d0.2.1, (d0.2.2.1, d0.2.2.2))), 1048576, ()) = _ := e0;rw [e0];simp only [Option.bind_some];rcases k0 with rfl | ⟨a0, b0, c0⟩
     . rw [if_pos (by simp)]
     rw [if_neg (by simp; omega)];obtain ⟨r1, e1, k1⟩ := Ag2.val d1 r0 a0 (by omega) w1a w1b;rw [e1];simp only [Option.bind_some];rcases k1 with rfl | ⟨a1, b1, c1⟩
     . rw [if_pos (by simp)]
     rw [if_neg (by simp; omega)];obtain ⟨r2, e2, k2⟩ := Ag2.val d2 r1 a1 (by omega) w2a w2b;rw [e2];simp only [Option.bind_some];rcases k2 with rfl | ⟨a2, b2, c2⟩
     . rw [if_pos (by simp)]
     rw [if_neg (by simp; omega)];have t0 : Aj1.F ((d0.1, (d0.2.1, (d0.2.2.1, d0.2.2.2))), ()) = _ := Aj1.val d0 c0;obtain ⟨f0, g0, g0'⟩ := Ap4.same d0 d0 c0;obtain rfl : f0 = true := g0'.2 rfl;obtain ⟨v0, s0, m0, ma0, mb0⟩ := Ap5.some d0 1 c0 (by omega) (by omega);have t1 := Ad3.val d1 c1;obtain ⟨f1, g1, g1'⟩ := Ag0.same d1 d1 c1;obtain rfl : f1 = true := g1'.2 rfl;obtain ⟨v1, s1, m1, ma1, mb1⟩ := Ag1.some d1 v0 c1 (by omega) (by omega);have t2 := Ad3.val d2 c2;obtain ⟨f2, g2, g2'⟩ := Ag0.same d2 d2 c2;obtain rfl : f2 = true := g2'.2 rfl;obtain ⟨v2, s2, m2, ma2, mb2⟩ := Ag1.some d2 v1 c2 (by omega) (by omega);have t3 := Aa6.val d3 (by omega);have g3 := Aa2.refl d3 (by omega);obtain ⟨v3, s3, m3, ma3, mb3⟩ := Aa7.some d3 v2 hl3 (by omega) (by omega);have t4 := Aa6.val d4 (by omega);have g4 := Aa2.refl d4 (by omega);obtain ⟨v4, s4, m4, ma4, mb4⟩ := Aa7.some d4 v3 hl4 (by omega) (by omega);have hs := difV_le d0 d1 d2 d3 d4;have gr := Aa2.refl (difV d0 d1 d2 d3 d4) (by omega);obtain ⟨ys, v, n1, n2, n3⟩ := A3a (difV d0 d1 d2 d3 d4) (by omega);have q1 : ¬ v4 < 0 := by omega
     have q2 : ¬ v < 0 := by omega
     simp [t0, g0, m0, t1, g1, m1, t2, g2, m2, t3, g3, m3, t4, g4, m4, Am2.val d0 d1 d2 d3 d4 c0 c1 c2 hl3 hl4, Aj4.val d0 d1 d2 d3 d4 c0 c1 c2 hl3 hl4, gr, n1, n2, q1, q2]
   . rw [if_pos (by simp; omega)]
 . rw [if_pos (by simp; omega)]
end Go.Proofs.YtanmmcfiogamfaaGreat
