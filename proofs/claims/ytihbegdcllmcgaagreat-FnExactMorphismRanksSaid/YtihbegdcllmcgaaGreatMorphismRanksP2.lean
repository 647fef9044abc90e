/- What the functions answer. -/
import Derived.Test.YtihbegdcllmcgaaGreatMorphismRanksP1
namespace Go.Proofs.YtihbegdcllmcgaaGreat
open Go Go.Vm
set_option linter.unusedVariables false
set_option linter.unusedSimpArgs false
theorem Al5.some (c : List (List Int)) (k0 : Int) (h : SmL c) (h0 : 0 ≤ k0) (h1 : k0 ≤ 1152921504606846976) : ∃ v ys, Al5.F (c, k0, ()) = some ((v, ()), (ys, ())) /\ k0 ≤ v /\ v ≤ k0 + 1099511627776 := by
 have b := offs_bd h;have hl := h.1;obtain ⟨ys, e, _⟩ := Aj0.val c k0 h0 (by omega) (by omega);rw [Al5.eq, Al5.T, e];exact ⟨k0 + ((offs c c.length : Nat) : Int), _, rfl, by omega, by omega⟩
theorem Aj1.some (s : ShfV) (k0 : Int) (h : SmSh s) (h0 : 0 ≤ k0) (h1 : k0 ≤ 576460752303423488) : ∃ v ys, Aj1.F (s, k0, ()) = some ((v, ()), (ys, ())) /\ k0 ≤ v /\ v ≤ k0 + 8796093022208 := by
 obtain ⟨c, p, st, ms⟩ := s;obtain ⟨hc, hst, hms⟩ := h;have hst : st.length ≤ 1048576 := hst;have hml := hms.1;have b := A2V hms;obtain ⟨v1, y1, e1, a1, b1⟩ := Al5.some c k0 hc h0 (by omega);obtain ⟨y2, e2, _⟩ := Aa7.val st v1 (by omega) (by omega);obtain ⟨y3, e3, _⟩ := Ad1.val ms (v1 + st.length) (by omega) (by have : ms.length ≤ 1048576 := hml; omega) (by have : offM ms ms.length ≤ 1048579 * 1048576 := b; omega);rw [Aj1.eq, Aj1.T, e1];simp only [Option.bind_some, e2, e3];have : offM ms ms.length ≤ 1048579 * 1048576 := b;exact ⟨_, _, rfl, by omega, by omega⟩
theorem Ad1.some (ms : List MatV) (k0 : Int) (h : SmMs ms) (h0 : 0 ≤ k0) (h1 : k0 ≤ 1152921504606846976) : ∃ v ys, Ad1.F (ms, k0, ()) = some ((v, ()), (ys, ())) /\ k0 ≤ v /\ v ≤ k0 + 2199023255552 := by
 have b : offM ms ms.length ≤ 1048579 * 1048576 := A2V h;have hml : ms.length ≤ 1048576 := h.1;obtain ⟨ys, e, _⟩ := Ad1.val ms k0 h0 (by omega) (by omega);exact ⟨_, _, e, by omega, by omega⟩
def A2s (f : List MatV) : List Int := (List.range f.length).map fun i => ((A1d (f.getD i (0, 0, 0, [])) : Nat) : Int)
noncomputable def mrV (a b : ShfV) (f : List MatV) : List Int := if askM a b f = 0 then A2s f else []
theorem A1q {a b : ShfV} {f : List MatV} (h : askM a b f = 0) : f.length ≤ 48 /\ ∀ k, k < f.length -> MatOk (f.getD k (0, 0, 0, [])) := by
 obtain ⟨⟨h1, h2, h3⟩, h4⟩ := A2Q h;have hl := h4.1.1;have := h1.1.2.2.1.1;have := h1.1.1.1;exact ⟨by omega, fun k hk => (h4.1.2 k hk).1⟩
theorem mrV_le (a b : ShfV) (f : List MatV) : (mrV a b f).length ≤ 48 := by
 unfold mrV;split
 . rename_i h; have := (A1q h).1; simp [A2s]; omega
 . simp
theorem Ad8.val (a b : ShfV) (f : List MatV) (ha : SmSh a) (hb : SmSh b) (hf : SmMs f) : Ad8.F (a, b, f, ()) = some ((mrV a b f, askM a b f, ()), ()) := by
 have hT : ∀ r, Ev (fun n => Ad8.T n a.1 a.2.1 a.2.2.1 a.2.2.2 b.1 b.2.1 b.2.2.1 b.2.2.2 f) r -> Ad8.F (a, b, f, ()) = some r := fun r hr => Ad8.of _ _ _ _ _ _ _ _ _ hr;have p1 : Ah8.F ((a.1, (a.2.1, (a.2.2.1, a.2.2.2))), (b.1, (b.2.1, (b.2.2.1, b.2.2.2))), f, ()) = _ := Ah8.val a b f ha hb hf;refine hT _ ?_;by_cases h : askM a b f = 0
 . obtain ⟨hl, hm⟩ := A1q h;have g := Goes.push (R := (List Int × Int × Unit) × Unit) (fun k i s => Ad8.l6 k f (f.length : Int) (i : Int) s) f.length (fun i => ((A1d (f.getD i (0, 0, 0, [])) : Nat) : Int)) fun i s hi hs => Goes.succ fun k => by
     rw [Ad8.l6_eq, if_pos (ltI.2 hi), if_pos (idxI.2 hi)];simp only [Int.toNat_natCast, (A1e (hm i hi)).1, Option.bind_some];rw [if_pos (A1u hs (by omega)), A0y (by omega)]
   refine Ev.of_eq (g _ ((Ev.const _).succ fun k => ?_)) fun k => ?_
   . rw [Ad8.l6_eq, if_neg (by simp), mrV, if_pos h, h]; rfl
   . rw [Ad8.T, p1];simp only [Option.bind_some];rw [if_neg (by simp [h])]; rfl
 . refine (Ev.const _).of_eq fun k => ?_;rw [Ad8.T, p1];simp only [Option.bind_some];rw [if_pos (by simpa using h), mrV, if_neg h]
theorem Ae6.val (a b : ShfV) (f : List MatV) (ha : SmSh a) (hb : SmSh b) (hf : SmMs f) : Ae6.F (a, b, f, ()) = some ((mrV a b f, askM a b f, ()), ()) := by
 have hT : ∀ r, Ev (fun n => Ae6.T n a.1 a.2.1 a.2.2.1 a.2.2.2 b.1 b.2.1 b.2.2.1 b.2.2.2 f) r -> Ae6.F (a, b, f, ()) = some r := fun r hr => Ae6.of _ _ _ _ _ _ _ _ _ hr;have p1 : Ai3.F ((a.1, (a.2.1, (a.2.2.1, a.2.2.2))), (b.1, (b.2.1, (b.2.2.1, b.2.2.2))), f, ()) = _ := Ai3.val a b f ha hb hf;refine hT _ ?_;by_cases h : askM a b f = 0
 . obtain ⟨hl, hm⟩ := A1q h;have g := Goes.push (R := (List Int × Int × Unit) × Unit) (fun k i s => Ae6.l6 k f (i : Int) s) f.length (fun i => ((A1d (f.getD i (0, 0, 0, [])) : Nat) : Int)) fun i s hi hs => Goes.succ fun k => by
     rw [Ae6.l6_eq, if_pos (ltI.2 hi), if_pos (idxI.2 hi)];simp only [Int.toNat_natCast, (A1e (hm i hi)).2.1, Option.bind_some];rw [if_pos (A1u hs (by omega)), A0y (by omega)]
   refine Ev.of_eq (g _ ((Ev.const _).succ fun k => ?_)) fun k => ?_
   . rw [Ae6.l6_eq, if_neg (by simp), mrV, if_pos h, h]; rfl
   . rw [Ae6.T, p1];simp only [Option.bind_some];rw [if_neg (by simp [h])]; rfl
 . refine (Ev.const _).of_eq fun k => ?_;rw [Ae6.T, p1];simp only [Option.bind_some];rw [if_pos (by simpa using h), mrV, if_neg h]
theorem wf_ms {ms : List MatV} (h : wfT (.sl (.pair (.int .i64) (.pair (.int .i64) (.pair (.int .i64) (.sl (.int .i64)))))) ms) : ms.length ≤ maxLen /\ ∀ x ∈ ms, x.2.2.2.length ≤ maxLen := ⟨h.1, fun x hx => (h.2 x hx).2.2.2.1⟩
theorem Aj8.pure (d : Ins Aj8.sig.ps) (h : wfIns Aj8.sig.ps d) : ∃ mu, Aj8.F d = some ((true, ()), mu) := by
 obtain ⟨d0, d1, d2, ⟨⟩⟩ := d;obtain ⟨hw0, hw1, hw2, _⟩ := h;obtain ⟨w0a, w0b, w0c, w0d, w0e⟩ := A2t hw0;obtain ⟨w1a, w1b, w1c, w1d, w1e⟩ := A2t hw1;obtain ⟨w2a, w2b⟩ := wf_ms hw2;refine ⟨(), ?_⟩;have hT : Aj8.F (d0, d1, d2, ()) = Aj8.T d0.1 d0.2.1 d0.2.2.1 d0.2.2.2 d1.1 d1.2.1 d1.2.2.1 d1.2.2.2 d2 := Aj8.eq _ _ _ _ _ _ _ _ _;rw [hT, Aj8.T];obtain ⟨r0, e0, k0⟩ := Ah1.val d0 1048576 (by omega) (by omega) w0a w0b w0c w0d w0e;have e0 : Ah1.F ((d0.1, (d0.2.1, (d0.2.2.1, d0.2.2.2))), 1048576, ()) = _ := e0;rw [e0];simp only [Option.bind_some];rcases k0 with rfl | ⟨a0, b0, c0⟩
 . rw [if_pos (by simp)]
 rw [if_neg (by simp; omega)];obtain ⟨r1, e1, k1⟩ := Ah1.val d1 r0 a0 (by omega) w1a w1b w1c w1d w1e;have e1 : Ah1.F ((d1.1, (d1.2.1, (d1.2.2.1, d1.2.2.2))), r0, ()) = _ := e1;rw [e1];simp only [Option.bind_some];rcases k1 with rfl | ⟨a1, b1, c1⟩
 . rw [if_pos (by simp)]
 rw [if_neg (by simp; omega)];obtain ⟨r2, e2, k2⟩ := Ad3.val d2 r1 a1 (by omega) w2a w2b;rw [e2];simp only [Option.bind_some];rcases k2 with rfl | ⟨a2, b2, c2⟩
 . rw [if_pos (by simp)]
 rw [if_neg (by simp; omega)];have t0 : Ad4.F ((d0.1, (d0.2.1, (d0.2.2.1, d0.2.2.2))), ()) = _ := Ad4.val d0 c0;obtain ⟨f0, g0, g0'⟩ := Ai9.same d0 d0 c0;obtain rfl : f0 = true := g0'.2 rfl;obtain ⟨v0, s0, m0, ma0, mb0⟩ := Aj1.some d0 1 c0 (by omega) (by omega);have t1 : Ad4.F ((d1.1, (d1.2.1, (d1.2.2.1, d1.2.2.2))), ()) = _ := Ad4.val d1 c1;obtain ⟨f1, g1, g1'⟩ := Ai9.same d1 d1 c1;obtain rfl : f1 = true := g1'.2 rfl;obtain ⟨v1, s1, m1, ma1, mb1⟩ := Aj1.some d1 v0 c1 (by omega) (by omega);have t2 := Ac3.val d2 c2;obtain ⟨f2, g2, g2'⟩ := Ad0.same d2 d2 c2;obtain rfl : f2 = true := g2'.2 rfl;obtain ⟨v2, s2, m2, ma2, mb2⟩ := Ad1.some d2 v1 c2 (by omega) (by omega);have hs := mrV_le d0 d1 d2;have gr := Aa1.refl (mrV d0 d1 d2) (by omega);obtain ⟨ys, v, n1, n2, n3⟩ := A2D (mrV d0 d1 d2) (by omega);have q1 : ¬ v2 < 0 := by omega
 have q2 : ¬ v < 0 := by omega
 simp [t0, g0, m0, t1, g1, m1, t2, g2, m2, Ae6.val d0 d1 d2 c0 c1 c2, Ad8.val d0 d1 d2 c0 c1 c2, gr, n1, n2, q1, q2]
end Go.Proofs.YtihbegdcllmcgaaGreat
