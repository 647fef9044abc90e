/- What the functions answer. -/
import Derived.Test.YtjimdbbeilfkfaaGreatCosheafDimsP1
namespace Go.Proofs.YtjimdbbeilfkfaaGreat
open Go Go.Vm
set_option linter.unusedVariables false
set_option linter.unusedSimpArgs false
theorem Aa9.val (s : ShfV) (ho : A0q s) (k : Int) (hk : -1 ≤ k /\ k ≤ 10) : Aa9.F (s, k, ()) = some ((cobM s k, ()), ()) := by
 have hcl := ho.1.1;have hp := ho.2.1.1;obtain ⟨c1, c2⟩ := A0H ho k;obtain ⟨d1, d2⟩ := A0H ho (k + 1);obtain ⟨W, hW⟩ : ∃ W, (A0D s k).toNat = W := ⟨_, rfl⟩;obtain ⟨H, hH⟩ : ∃ H, (A0D s (k + 1)).toNat = H := ⟨_, rfl⟩;have eW : A0D s k = (W : Int) := by omega
 have eH : A0D s (k + 1) = (H : Int) := by omega
 obtain ⟨hs, ehs⟩ : ∃ hs, A0w s.1 (k + 1) s.1.length = hs := ⟨_, rfl⟩;have hsl : hs.length ≤ 48 := by rw [<- ehs]; have := A0E s.1 (k + 1) s.1.length; omega
 have hsat : ∀ m, m < hs.length -> ∃ j : Nat, hs.getD m 0 = (j : Int) /\ j < s.1.length /\ ((s.1.getD j []).length : Int) = k + 2 := fun m hm => by
   rw [<- ehs] at hm ⊢;obtain ⟨j, a, b, c⟩ := A2K hm;exact ⟨j, a, b, by omega⟩
 have hT : ∀ r, Ev (fun n => Aa9.T n s.1 s.2.1 s.2.2.1 s.2.2.2 k) r -> Aa9.F (s, k, ()) = some r := fun r hr => Aa9.of _ _ _ _ _ hr;have w1 : IntKind.i64.wrap (k + 1) = k + 1 := A0v (by omega) (by omega);have g1 := Ac2.val' s ho (k + 1) (by omega);have g2 := Ac2.val' s ho k (by omega);have g3 := Ae9.val s.1 (k + 1) (by omega) (by omega);rw [ehs] at g3;have hM : cobM s k = (s.2.1, (H : Int), (W : Int), wr (cobW s k) (List.replicate (H * W) 0)) := by rw [cobM, eH, eW]; simp only [Int.toNat_natCast]
 rw [hM];refine hT _ (Ev.of_eq (N := fun n => Aa9.l4 n s.1 s.2.1 s.2.2.1 s.2.2.2 k ((0 : Nat) : Int) 0 0 0 [] s.2.1 (H : Int) (W : Int) (List.replicate (H * W) 0) hs) ?_ fun n => ?_)
 . by_cases hneg : k < 0
   . have : cobW s k = [] := by rw [cobW, if_pos hneg]
     rw [this];refine (Ev.const _).succ fun n => ?_;rw [Aa9.l4_eq];by_cases h0 : 0 < hs.length
     . rw [if_pos (ltI.2 h0), if_neg (by simp only [decide_eq_true_eq]; omega)]; rfl
     . rw [if_neg (by simp only [decide_eq_true_eq]; omega)]; rfl
   . have : cobW s k = (List.range hs.length).flatMap fun n => A2Q s W (hs.getD n 0).toNat := by rw [cobW, if_neg hneg, ehs, hW]
     rw [this];have main := Goes.writes (R := ((MatV × Unit) × Unit)) (fun n m x => Aa9.l4 n s.1 s.2.1 s.2.2.1 s.2.2.2 k (m : Int) 0 0 0 [] s.2.1 (H : Int) (W : Int) x hs) hs.length (H * W) (fun n => A2Q s W (hs.getD n 0).toNat) (fun m x hm hx => by
       obtain ⟨h, e1, e2, e3⟩ := hsat m hm;have f4 : (fcs s.1 h).length ≤ 4 := by have := A0g ho.1 e2; simp only [fcs, List.length_map]; exact this
       have q2 : Ae1.F ((s.1, (s.2.1, (s.2.2.1, s.2.2.2))), (h : Int), ()) = _ := Ae1.val s ho h e2;have E3 := fun n => Aa9.l4_eq n s.1 s.2.1 s.2.2.1 s.2.2.2 k (m : Int) 0 0 0 [] s.2.1 (H : Int) (W : Int) x hs;simp only [if_pos (ltI.2 hm), if_pos (idxI.2 hm), if_pos (show decide (k ≥ 0) = true by simp only [decide_eq_true_eq]; omega), Int.toNat_natCast, e1, Ab8.val s.1 ho.1 h e2, q2, Option.bind_some] at E3;refine (Goes.succ E3).trans ?_;rw [e1, Int.toNat_natCast];refine (Goes.writes (R := ((MatV × Unit) × Unit)) (fun n i x => Aa9.l9 n s.1 s.2.1 s.2.2.1 s.2.2.2 k (m : Int) (A1k s h) (i : Int) 0 0 0 [] s.2.1 (H : Int) (W : Int) x hs (fcs s.1 h)) (fcs s.1 h).length (H * W) (A1g s W h) (fun i x hi hx => by
         obtain ⟨f, R, C, T, L, B⟩ := blk ho e2 e3 hi;rw [hW, hH] at B;have q1 : Ab1.F ((s.1, (s.2.1, (s.2.2.1, s.2.2.2))), (h : Int), (i : Int), ()) = _ := Ab1.val s ho h i e2 hi;have q3 : Ae1.F ((s.1, (s.2.1, (s.2.2.1, s.2.2.2))), (f : Int), ()) = _ := Ae1.val s ho f B.flt;rw [B.left] at q3;have E7 := fun n => Aa9.l9_eq n s.1 s.2.1 s.2.2.1 s.2.2.2 k (m : Int) (A1k s h) (i : Int) 0 0 0 [] s.2.1 (H : Int) (W : Int) x hs (fcs s.1 h);simp only [if_pos (ltI.2 hi), if_pos (idxI.2 hi), if_pos (idxI.2 hm), Int.toNat_natCast, e1, B.at_, q1, q3, Am5.val i s.2.1 hp, Option.bind_some, B.rows, B.cols, B.prime, B.top] at E7;rw [B.top];refine (Goes.succ E7).trans ?_;have ew : A1g s W h i = (List.range R).flatMap (A1K s W h i) := by rw [A1g, B.rows, Int.toNat_natCast]
         rw [ew];refine (Goes.writes (R := ((MatV × Unit) × Unit)) (fun n a x => Aa9.l15 n s.1 s.2.1 s.2.2.1 s.2.2.2 k (m : Int) (T : Int) (i : Int) s.2.1 (R : Int) (C : Int) (A0j s h i).2.2.2 (L : Int) (sgn s.2.1 i) (a : Int) 0 0 0 [] s.2.1 (H : Int) (W : Int) x hs (fcs s.1 h)) R (H * W) (A1K s W h i) (fun a x ha hx => by
           refine (Goes.succ fun n => by rw [Aa9.l15_eq, if_pos (ltI.2 ha)]).trans ?_;have ew3 : A1K s W h i a = (List.range C).flatMap fun b => [((T + a) * W + L + b, ((A0j s h i).2.2.2.getD (a * C + b) 0 * sgn s.2.1 i) % s.2.1)] := by
             rw [A1K, B.cols, B.top, B.fc_, B.left]; simp only [Int.toNat_natCast]; exact A1q _ _
           rw [ew3];refine (Goes.writes (R := ((MatV × Unit) × Unit)) (fun n b x => Aa9.l18 n s.1 s.2.1 s.2.2.1 s.2.2.2 k (m : Int) (T : Int) (i : Int) s.2.1 (R : Int) (C : Int) (A0j s h i).2.2.2 (L : Int) (sgn s.2.1 i) (a : Int) (b : Int) 0 0 0 [] s.2.1 (H : Int) (W : Int) x hs (fcs s.1 h)) C (H * W) (fun b => [((T + a) * W + L + b, ((A0j s h i).2.2.2.getD (a * C + b) 0 * sgn s.2.1 i) % s.2.1)]) (fun b x hb hx => Goes.succ fun n => by
             obtain ⟨p1, p2⟩ := A3F B.bT B.bL B.bH B.bW ha hb;have bT := B.bT;have bL := B.bL;have bH := B.bH;have bW := B.bW;obtain ⟨e5, e6⟩ := A0R (show R ≤ 32 by omega) (show C ≤ 32 by omega) ha hb;have hce := B.cells;have hel := A1j hp (A0k B.el (show a * C + b < (A0j s h i).2.2.2.length by omega)) (A3H hp i);rw [Aa9.l18_eq, if_pos (ltI.2 hb), e5, if_pos (by omega), if_neg (by omega), p1, if_pos (by omega), A0y (by omega)];simp only [Int.toNat_natCast];rw [A0v (x := (A0j s h i).2.2.2.getD (a * C + b) 0 * sgn s.2.1 i) (by omega) (by omega), A1y (by omega)];rfl) x hx).trans (Goes.succ fun n => by
               have bT := B.bT;have bH := B.bH;rw [Aa9.l18_eq, if_neg (by simp), A0y (by omega)])) x hx).trans (Goes.succ fun n => by rw [Aa9.l15_eq, if_neg (by simp), A0y (by omega)])) x hx).trans (Goes.succ fun n => by rw [Aa9.l9_eq, if_neg (by simp), A0y (by omega)]; rfl)) (List.replicate (H * W) 0) (by simp)
     refine main _ ((Ev.const _).succ fun n => ?_);rw [Aa9.l4_eq, if_neg (by simp)]
 . rw [Aa9.T, w1, g1, g2, eH, eW];simp only [Option.bind_some];rw [Ac9.val s.2.1 H W (by omega) (by omega), g3];rfl
def A1L (ys : List Int) (k : Int) : Prop := ∀ j, j < ys.length -> ys.getD j 0 = k + j
theorem Ab0.val (xs : List Int) (k0 : Int) (h0 : 0 ≤ k0) (h1 : k0 + xs.length ≤ 4611686018427387904) : ∃ ys, Ab0.F (xs, k0, ()) = some ((k0 + xs.length, ()), (ys, ())) /\ ys.length = xs.length /\ A1L ys k0 := by
 obtain ⟨⟨v, ys⟩, ⟨hv, hl, hm⟩, hg⟩ := Goes.loop (R := (Int × Unit) × (List Int × Unit)) (fun k i (s : Int × List Int) => Ab0.l2 k s.1 (i : Int) s.2) xs.length (fun i s => s.1 = k0 + i /\ s.2.length = xs.length /\ ∀ j, j < i -> s.2.getD j 0 = k0 + j)
   (fun i s hi ⟨h2, h3, h4⟩ => ⟨(s.1 + 1, s.2.set i s.1), ⟨by simp only []; omega, by simp [h3], fun j hj => by
     simp only [List.getD_eq_getElem?_getD, List.getElem?_set];by_cases hij : i = j
     . subst hij; simp [h3, hi, h2]
     . have := h4 j (by omega);simp only [List.getD_eq_getElem?_getD] at this;simp [hij, this]⟩, Goes.succ fun k => by
     rw [Ab0.l2_eq, if_pos (by simp; omega), if_pos (by omega), A0v (by omega) (by omega), A0y (by omega)];simp only [Int.toNat_natCast]⟩) 0 (k0, xs) (Nat.zero_le _) ⟨by simp, rfl, fun j hj => by omega⟩
 simp only [] at hv hl hm;refine ⟨ys, Ab0.of _ _ ((hg _ ((Ev.const _).succ fun k => ?_)).of_eq fun k => rfl), hl, fun j hj => hm j (by omega)⟩;rw [Ab0.l2_eq, if_neg (by simp; omega), hv]
theorem Ah5.val (ys : List Int) (k0 : Int) (h0 : 0 ≤ k0) (h1 : k0 + ys.length ≤ 4611686018427387904) (hm : A1L ys k0) : Ah5.F (ys, k0, ()) = some ((k0 + ys.length, ()), ()) := by
 obtain ⟨v, hv, hg⟩ := Goes.loop (R := (Int × Unit) × Unit) (fun k i (s : Int) => Ah5.l2 k ys s (i : Int)) ys.length (fun i s => s = k0 + i)
   (fun i s hi h2 => ⟨s + 1, by omega, Goes.succ fun k => by
     rw [Ah5.l2_eq, if_pos (ltI.2 hi), if_pos (idxI.2 hi), if_neg (by simp only [Int.toNat_natCast]; rw [hm i hi, h2]; simp), A0v (by omega) (by omega), A0y (by omega)]⟩) 0 k0 (Nat.zero_le _) (by simp)
 refine Ah5.of _ _ ((hg _ ((Ev.const _).succ fun k => ?_)).of_eq fun k => rfl);rw [Ah5.l2_eq, if_neg (by simp), hv]
theorem A2S (xs : List Int) (h1 : xs.length ≤ 4611686018427387903) : ∃ ys v, Ab0.F (xs, 1, ()) = some ((v, ()), (ys, ())) /\ Ah5.F (ys, 1, ()) = some ((v, ()), ()) /\ 0 ≤ v := by
 obtain ⟨ys, h2, h3, h4⟩ := Ab0.val xs 1 (by omega) (by omega);exact ⟨ys, _, h2, by rw [Ah5.val ys 1 (by omega) (by omega) h4, h3], by omega⟩
def mkI (n : Nat) (k : Int) : List Int := (List.range n).map fun (j : Nat) => k + (j : Int)
theorem A2T (n : Nat) (k : Int) : (mkI n k).length = n := by simp [mkI]
theorem A2U (n : Nat) (k : Int) : A1L (mkI n k) k := fun j hj => by
 rw [A2T] at hj;simp [mkI, List.getD_eq_getElem?_getD, hj]
theorem mkI_of {ys : List Int} {k : Int} (h : A1L ys k) : ys = mkI ys.length k := by
 refine List.ext_getElem (by simp [mkI]) fun i h1 h2 => ?_;rw [<- A0x (d := 0) h1, <- A0x (d := 0) h2, h i h1, A2U _ _ i h2]
def mkM (m : MatV) (k : Int) : MatV := (k, k + 1, k + 1 + 1, mkI m.2.2.2.length (k + 1 + 1 + 1))
def szM (m : MatV) : Nat := 3 + m.2.2.2.length
def offM (ms : List MatV) (i : Nat) : Nat := ((ms.take i).map szM).sum
theorem A0i {ms : List MatV} {i : Nat} (h : i < ms.length) : offM ms (i + 1) = offM ms i + szM (ms.getD i (0, 0, 0, [])) := by
 unfold offM;rw [List.take_add_one, List.getElem?_eq_getElem h, Option.toList_some, List.map_append, List.sum_append, A0x h];simp
theorem offM_le {ms : List MatV} {i j : Nat} (h : i ≤ j) : offM ms i ≤ offM ms j := by
 induction h with
 | refl => exact Nat.le_refl _
 | @step m _ ih =>
   by_cases hm : m < ms.length
   . rw [Nat.succ_eq_add_one, A0i hm]; omega
   . have : offM ms (m + 1) = offM ms m := by unfold offM; rw [List.take_of_length_le (by omega), List.take_of_length_le (by omega)]
     rw [Nat.succ_eq_add_one, this]; exact ih
theorem offM_bd {ms : List MatV} (h : SmMs ms) : offM ms ms.length ≤ 1048579 * 1048576 := by
 have key : ∀ i, i ≤ ms.length -> offM ms i ≤ 1048579 * i := by
   intro i;induction i with
   | zero => intro _; simp [offM]
   | succ i ih =>
     intro hi;have h1 := ih (by omega);have h2 : (ms.getD i (0, 0, 0, [])).2.2.2.length ≤ 1048576 := h.2 _ (A0z _ (by omega));rw [A0i (by omega), szM]; omega
 have := key ms.length (Nat.le_refl _);have := h.1;omega
theorem A3C {α : Type} (l : List α) (i : Nat) (x y : α) : (l.set i x).set i y = l.set i y := by rw [List.set_set]
theorem A0h {α : Type} (l : List α) (i : Nat) (x d : α) (h : i < l.length) : (l.set i x).getD i d = x := by simp [List.getD_eq_getElem?_getD, h]
theorem Aj0.val (ms : List MatV) (k0 : Int) (h0 : 0 ≤ k0) (hx : ms.length < 4611686018427387904) (h1 : k0 + offM ms ms.length ≤ 4611686018427387904) :
   ∃ ys, Aj0.F (ms, k0, ()) = some ((k0 + offM ms ms.length, ()), (ys, ())) /\ ys.length = ms.length /\ ∀ j, j < ms.length -> ys.getD j (0, 0, 0, []) = mkM (ms.getD j (0, 0, 0, [])) (k0 + offM ms j) := by
 obtain ⟨⟨v, ys⟩, ⟨hv, hl, hm, -⟩, hg⟩ := Goes.loop (R := (Int × Unit) × (List MatV × Unit)) (fun k i (s : Int × List MatV) => Aj0.l2 k s.1 (i : Int) s.2) ms.length
   (fun i s => s.1 = k0 + offM ms i /\ s.2.length = ms.length /\ (∀ j, j < i -> s.2.getD j (0, 0, 0, []) = mkM (ms.getD j (0, 0, 0, [])) (k0 + offM ms j)) /\ ∀ j, i ≤ j -> s.2.getD j (0, 0, 0, []) = ms.getD j (0, 0, 0, []))
   (fun i s hi ⟨h2, h3, h4, h5⟩ => by
     have hle := offM_le (ms := ms) (show i + 1 ≤ ms.length by omega);rw [A0i hi, szM] at hle;obtain ⟨m, hm⟩ : ∃ m, ms.getD i (0, 0, 0, []) = m := ⟨_, rfl⟩;rw [hm] at hle;obtain ⟨ys, e1, e2, e3⟩ := Ab0.val m.2.2.2 (s.1 + 1 + 1 + 1) (by omega) (by omega);have e4 : ys = mkI m.2.2.2.length (s.1 + 1 + 1 + 1) := by rw [<- e2]; exact mkI_of e3
     have w1 : IntKind.i64.wrap (s.1 + 1) = s.1 + 1 := A0v (by omega) (by omega);have w2 : IntKind.i64.wrap (s.1 + 1 + 1) = s.1 + 1 + 1 := A0v (by omega) (by omega);have w3 : IntKind.i64.wrap (s.1 + 1 + 1 + 1) = s.1 + 1 + 1 + 1 := A0v (by omega) (by omega);have hsi : s.2.getD i (0, 0, 0, []) = m := by rw [h5 i (Nat.le_refl _), hm]
     have hil : i < s.2.length := by omega
     refine ⟨(s.1 + 1 + 1 + 1 + m.2.2.2.length, s.2.set i (mkM m s.1)), ⟨by simp only []; rw [A0i hi, hm, szM]; omega, by simp [h3], fun j hj => ?_, fun j hj => ?_⟩, Goes.succ fun k => ?_⟩
     . by_cases hij : i = j
       . subst hij; simp only []; rw [A0h _ _ _ _ hil, hm, h2]
       . have := h4 j (by omega);simp only [List.getD_eq_getElem?_getD, List.getElem?_set] at this ⊢;rw [if_neg hij]; exact this
     . have := h5 j (by omega);simp only [List.getD_eq_getElem?_getD, List.getElem?_set] at this ⊢;rw [if_neg (by omega)]; exact this
     . rw [Aj0.l2_eq, if_pos (by simp; omega), if_pos (by omega)];simp only [Int.toNat_natCast, hsi, A3C, A0h _ _ _ _ hil, List.length_set, w1, w2, w3];rw [if_pos (by omega), if_pos (by omega), if_pos (by omega), e1];simp only [Option.bind_some];rw [A0y (by omega), e4];rfl) 0 (k0, ms) (Nat.zero_le _) ⟨by simp [offM], rfl, fun j hj => by omega, fun _ _ => rfl⟩
 simp only [] at hv hl hm;refine ⟨ys, Aj0.of _ _ ((hg _ ((Ev.const _).succ fun k => ?_)).of_eq fun k => rfl), hl, hm⟩;rw [Aj0.l2_eq, if_neg (by simp; omega), hv]
def offs (xs : List (List Int)) (i : Nat) : Nat := ((xs.take i).map List.length).sum
theorem A0m {xs : List (List Int)} {i : Nat} (h : i < xs.length) : offs xs (i + 1) = offs xs i + (xs.getD i []).length := by
 unfold offs;rw [List.take_add_one, List.getElem?_eq_getElem h, Option.toList_some, List.map_append, List.sum_append, A0x h];simp
theorem offs_le {xs : List (List Int)} {i j : Nat} (h : i ≤ j) : offs xs i ≤ offs xs j := by
 induction h with
 | refl => exact Nat.le_refl _
 | @step m _ ih =>
   by_cases hm : m < xs.length
   . rw [Nat.succ_eq_add_one, A0m hm]; omega
   . have : offs xs (m + 1) = offs xs m := by unfold offs; rw [List.take_of_length_le (by omega), List.take_of_length_le (by omega)]
     rw [Nat.succ_eq_add_one, this]; exact ih
theorem Ai9.val (xs : List (List Int)) (k0 : Int) (h0 : 0 ≤ k0) (hx : xs.length < 4611686018427387904) (h1 : k0 + offs xs xs.length ≤ 4611686018427387904) :
   ∃ ys, Ai9.F (xs, k0, ()) = some ((k0 + offs xs xs.length, ()), (ys, ())) /\ ys.length = xs.length /\ ∀ j, j < xs.length -> (ys.getD j []).length = (xs.getD j []).length /\ A1L (ys.getD j []) (k0 + offs xs j) := by
 obtain ⟨⟨v, ys⟩, ⟨hv, hl, hm, -⟩, hg⟩ := Goes.loop (R := (Int × Unit) × (List (List Int) × Unit)) (fun k i (s : Int × List (List Int)) => Ai9.l2 k s.1 (i : Int) s.2) xs.length
   (fun i s => s.1 = k0 + offs xs i /\ s.2.length = xs.length /\ (∀ j, j < i -> (s.2.getD j []).length = (xs.getD j []).length /\ A1L (s.2.getD j []) (k0 + offs xs j)) /\ ∀ j, i ≤ j -> s.2.getD j [] = xs.getD j [])
   (fun i s hi ⟨h2, h3, h4, h5⟩ => by
     have hle := offs_le (xs := xs) (show i + 1 ≤ xs.length by omega);rw [A0m hi] at hle;obtain ⟨ys, e1, e2, e3⟩ := Ab0.val (s.2.getD i []) s.1 (by omega) (by rw [h5 i (Nat.le_refl _), h2]; omega);rw [h5 i (Nat.le_refl _)] at e1 e2;refine ⟨(s.1 + (xs.getD i []).length, s.2.set i ys), ⟨by simp only []; rw [A0m hi]; omega, by simp [h3], fun j hj => ?_, fun j hj => ?_⟩, Goes.succ fun k => ?_⟩
     . simp only [List.getD_eq_getElem?_getD, List.getElem?_set];by_cases hij : i = j
       . subst hij;simp only [h3, hi, if_true, Option.getD_some];exact ⟨by rw [e2, List.getD_eq_getElem?_getD], by rw [<- h2]; exact e3⟩
       . have := h4 j (by omega);simp only [List.getD_eq_getElem?_getD] at this;simpa [hij] using this
     . have := h5 j (by omega);simp only [List.getD_eq_getElem?_getD, List.getElem?_set] at this ⊢;rw [if_neg (by omega)]; exact this
     . rw [Ai9.l2_eq, if_pos (by simp; omega), if_pos (by omega)];simp only [Int.toNat_natCast, h5 i (Nat.le_refl _), e1, Option.bind_some];rw [A0y (by omega)]) 0 (k0, xs) (Nat.zero_le _) ⟨by simp [offs], rfl, fun j hj => by omega, fun _ _ => rfl⟩
 simp only [] at hv hl hm;refine ⟨ys, Ai9.of _ _ ((hg _ ((Ev.const _).succ fun k => ?_)).of_eq fun k => rfl), hl, hm⟩;rw [Ai9.l2_eq, if_neg (by simp; omega), hv]
theorem offs_bd {xs : List (List Int)} (h : SmL xs) : offs xs xs.length ≤ 1048576 * 1048576 := by
 have key : ∀ i, i ≤ xs.length -> offs xs i ≤ 1048576 * i := by
   intro i;induction i with
   | zero => intro _; simp [offs]
   | succ i ih =>
     intro hi;have h1 := ih (by omega);have h2 : (xs.getD i []).length ≤ 1048576 := h.2 _ (A0z _ (by omega));rw [A0m (by omega)]; omega
 have := key xs.length (Nat.le_refl _);have := h.1;omega
theorem Al6.some (c : List (List Int)) (k0 : Int) (h : SmL c) (h0 : 0 ≤ k0) (h1 : k0 ≤ 1152921504606846976) : ∃ v ys, Al6.F (c, k0, ()) = some ((v, ()), (ys, ())) /\ k0 ≤ v /\ v ≤ k0 + 1099511627776 := by
 have b := offs_bd h;have hl := h.1;obtain ⟨ys, e, _⟩ := Ai9.val c k0 h0 (by omega) (by omega);rw [Al6.eq, Al6.T, e];exact ⟨k0 + ((offs c c.length : Nat) : Int), _, rfl, by omega, by omega⟩
theorem Al7.some (s : ShfV) (k0 : Int) (h : SmSh s) (h0 : 0 ≤ k0) (h1 : k0 ≤ 576460752303423488) : ∃ v ys, Al7.F (s, k0, ()) = some ((v, ()), (ys, ())) /\ k0 ≤ v /\ v ≤ k0 + 8796093022208 := by
 obtain ⟨c, p, st, ms⟩ := s;obtain ⟨hc, hst, hms⟩ := h;have hst : st.length ≤ 1048576 := hst;have hml := hms.1;have b := offM_bd hms;obtain ⟨v1, y1, e1, a1, b1⟩ := Al6.some c k0 hc h0 (by omega);obtain ⟨y2, e2, _⟩ := Ab0.val st v1 (by omega) (by omega);obtain ⟨y3, e3, _⟩ := Aj0.val ms (v1 + st.length) (by omega) (by have : ms.length ≤ 1048576 := hml; omega) (by have : offM ms ms.length ≤ 1048579 * 1048576 := b; omega);rw [Al7.eq, Al7.T, e1];simp only [Option.bind_some, e2, e3];have : offM ms ms.length ≤ 1048579 * 1048576 := b;exact ⟨_, _, rfl, by omega, by omega⟩
def A1h (s : ShfV) (i : Nat) : Int := A0D s (i : Int) - (A1G (cobM s (i : Int)) : Int) - (A1G (cobM s ((i : Int) - 1)) : Int)
noncomputable def A1w (t : ShfV) : List Int × Int := @ite _ (A2c t) (Classical.propDecidable _) ((List.range 4).map (A1h (A0C t)), 0) ([], 1)
theorem A3j (t : ShfV) : (A1w t).1.length ≤ 4 := by
 unfold A1w;split <;> simp
theorem Ae2.val (t : ShfV) (h : SmSh t) : Ae2.F (t, ()) = some (((A1w t).1, (A1w t).2, ()), ()) := by
 obtain ⟨v, a1, a1'⟩ := Ah8.val t h;have a1 : Ah8.F ((t.1, (t.2.1, (t.2.2.1, t.2.2.2))), ()) = _ := a1;have hT : ∀ r, Ev (fun n => Ae2.T n t.1 t.2.1 t.2.2.1 t.2.2.2) r -> Ae2.F (t, ()) = some r := fun r hr => Ae2.of _ _ _ _ hr;refine hT _ ?_;cases v with
 | false =>
   refine (Ev.const _).of_eq fun k => ?_;rw [Ae2.T, a1, A1w, if_neg fun hh => absurd (a1'.2 hh) (by simp)]; rfl
 | true =>
   have hc := a1'.1 rfl;have hs := hc.2.1;have hb : Ac7.F ((t.1, (t.2.1, (t.2.2.1, t.2.2.2))), ()) = _ := Ac7.val t h.1 h.2.1 h.2.2.1 hc.1.2.1;have g := Goes.push (R := (List Int × Int × Unit) × Unit) (fun k i x => Ae2.l6 k (i : Int) (A0C t).1 (A0C t).2.1 (A0C t).2.2.1 (A0C t).2.2.2 x) 4 (A1h (A0C t)) fun i x hi hx => Goes.succ fun k => by
     have r1 := A0n (A1T hs ((i : Int) - 1));have r2 := A0n (A1T hs (i : Int));have b := A0H hs (i : Int);have e1 : Aa3.F (((A0C t).1, ((A0C t).2.1, ((A0C t).2.2.1, (A0C t).2.2.2))), (i : Int), ()) = _ := Aa3.val' (A0C t) hs (i : Int) (by omega);have e2 : Aa8.F (((A0C t).1, ((A0C t).2.1, ((A0C t).2.2.1, (A0C t).2.2.2))), (i : Int) - 1, ()) = _ := Aa8.val (A0C t) hs ((i : Int) - 1) (by omega);have e3 : Aa8.F (((A0C t).1, ((A0C t).2.1, ((A0C t).2.2.1, (A0C t).2.2.2))), (i : Int), ()) = _ := Aa8.val (A0C t) hs (i : Int) (by omega);rw [Ae2.l6_eq, if_pos (by simp only [decide_eq_true_eq]; omega), A0v (x := (i : Int) - 1) (by omega) (by omega), e1, e2];simp only [Option.bind_some, r1.1, e3, r2.1];have ed : IntKind.i64.wrap (IntKind.i64.wrap (A0D (A0C t) (i : Int) - (A1G (cobM (A0C t) ((i : Int) - 1)) : Int)) - (A1G (cobM (A0C t) (i : Int)) : Int)) = A1h (A0C t) i := by
       rw [A0v (x := A0D (A0C t) (i : Int) - (A1G (cobM (A0C t) ((i : Int) - 1)) : Int)) (by omega) (by omega), A0v (by omega) (by omega), A1h]; omega
     rw [if_pos (A2A hx (by omega)), A0y (by omega), ed]
   refine Ev.of_eq (g _ ((Ev.const _).succ fun k => ?_)) fun k => ?_
   . rw [Ae2.l6_eq, if_neg (by decide), A1w, if_pos hc]
   . rw [Ae2.T, a1];simp only [Option.bind_some];rw [if_neg (by simp), hb]; rfl
theorem Ag8.val (s : ShfV) (hs : SmSh s) (h : A1f s) : Ag8.F (s, ()) = some (((List.range 4).map (A1h s), 0, ()), ()) := by
 obtain ⟨v, a1, a1'⟩ := Ae0.val s hs;obtain rfl : v = true := a1'.2 h;have a1 : Ae0.F ((s.1, (s.2.1, (s.2.2.1, s.2.2.2))), ()) = _ := a1;have hT : ∀ r, Ev (fun n => Ag8.T n s.1 s.2.1 s.2.2.1 s.2.2.2) r -> Ag8.F (s, ()) = some r := fun r hr => Ag8.of _ _ _ _ hr;refine hT _ ?_;have hdim : ∀ i : Nat, i < 4 -> An5.F ((s.1, (s.2.1, (s.2.2.1, s.2.2.2))), (i : Int), ()) = some ((A1h s i, ()), ()) := fun i hi => by
   have r1 := A0n (A1T h.1 ((i : Int) - 1));have r2 := A0n (A1T h.1 (i : Int));have b := A0H h.1 (i : Int);have e2 : Aa9.F ((s.1, (s.2.1, (s.2.2.1, s.2.2.2))), (i : Int) - 1, ()) = _ := Aa9.val s h.1 ((i : Int) - 1) (by omega);have e3 : Aa9.F ((s.1, (s.2.1, (s.2.2.1, s.2.2.2))), (i : Int), ()) = _ := Aa9.val s h.1 (i : Int) (by omega);rw [An5.eq, An5.T, A0v (x := (i : Int) - 1) (by omega) (by omega), e3];simp only [Option.bind_some, e2, r1.2.1, r2.2.1];have ec : (cobM s (i : Int)).2.2.1 = A0D s (i : Int) := rfl;rw [ec, A0v (x := A0D s (i : Int) - (A1G (cobM s (i : Int)) : Int)) (by omega) (by omega), A0v (by omega) (by omega), A1h]
 have g := Goes.push (R := (List Int × Int × Unit) × Unit) (fun k i x => Ag8.l5 k (i : Int) s.1 s.2.1 s.2.2.1 s.2.2.2 x) 4 (A1h s) fun i x hi hx => Goes.succ fun k => by
   rw [Ag8.l5_eq, if_pos (by simp only [decide_eq_true_eq]; omega), hdim i hi];simp only [Option.bind_some];rw [if_pos (A2A hx (by omega)), A0y (by omega)]
 refine Ev.of_eq (g _ ((Ev.const _).succ fun k => ?_)) fun k => ?_
 . rw [Ag8.l5_eq, if_neg (by decide)]
 . rw [Ag8.T, a1];simp only [Option.bind_some];rw [if_neg (by simp)]; rfl
theorem Aj3.val (t : ShfV) (h : SmSh t) : Aj3.F (t, ()) = some (((A1w t).1, (A1w t).2, ()), ()) := by
 obtain ⟨v, a1, a1'⟩ := Ai2.val t h;have a1 : Ai2.F ((t.1, (t.2.1, (t.2.2.1, t.2.2.2))), ()) = _ := a1;have hT : Aj3.F (t, ()) = Aj3.T t.1 t.2.1 t.2.2.1 t.2.2.2 := Aj3.eq _ _ _ _;rw [hT, Aj3.T, a1];simp only [Option.bind_some];cases v with
 | false => rw [if_pos (by simp), A1w, if_neg fun hh => absurd (a1'.2 hh) (by simp)]
 | true =>
   have hc := a1'.1 rfl;have hb : Ab9.F ((t.1, (t.2.1, (t.2.2.1, t.2.2.2))), ()) = _ := Ab9.val t hc.1.1 h.2.1 h.2.2.1 hc.1.2.1;rw [if_neg (by simp), hb];simp only [Option.bind_some, Ag8.val (A0C t) (A0f h hc.1.2.1) hc.2, A1w, if_pos hc]
theorem Aj7.pure (d : Ins Aj7.sig.ps) (h : wfIns Aj7.sig.ps d) : ∃ mu, Aj7.F d = some ((true, ()), mu) := by
 obtain ⟨s, ⟨⟩⟩ := d;obtain ⟨hs, _⟩ := h;obtain ⟨w1, w2, w3, w4, w5⟩ := shf_wf hs;obtain ⟨r1, e1, k1⟩ := Aj8.val s 1048576 (by omega) (by omega) w1 w2 w3 w4 w5;refine ⟨(), ?_⟩;have hT : Aj7.F (s, ()) = Aj7.T s.1 s.2.1 s.2.2.1 s.2.2.2 := Aj7.eq _ _ _ _;rw [hT, Aj7.T];have e1 : Aj8.F ((s.1, (s.2.1, (s.2.2.1, s.2.2.2))), 1048576, ()) = _ := e1;rw [e1];simp only [Option.bind_some];rcases k1 with rfl | ⟨a1, b1, c1⟩
 . rw [if_pos (by simp)]
 rw [if_neg (by simp; omega)];have t1 : Ah6.F ((s.1, (s.2.1, (s.2.2.1, s.2.2.2))), ()) = _ := Ah6.val s c1;obtain ⟨f1, g1, g1'⟩ := Al4.same s s c1;obtain rfl : f1 = true := g1'.2 rfl;obtain ⟨m1, y1, p1, p1', p1''⟩ := Al7.some s 1 c1 (by omega) (by omega);have hl := A3j s;obtain ⟨y3, m3, p3, p4, p5⟩ := A2S (A1w s).1 (by omega);have n2 : ¬ m1 < 0 := by omega
 have n3 : ¬ m3 < 0 := by omega
 simp [t1, Aj3.val s c1, Ae2.val s c1, g1, Aa2.refl (A1w s).1 (by omega), p1, p3, p4, n2, n3]
end Go.Proofs.YtjimdbbeilfkfaaGreat
