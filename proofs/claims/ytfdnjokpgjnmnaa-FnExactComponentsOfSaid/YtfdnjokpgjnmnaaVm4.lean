/- What a machine on values does is what the program does. -/
import Derived.Carry
import Derived.ChangeArms
import Derived.ChangeOld
import Derived.ChangeShapes
import Derived.ChangeSlices
import Derived.Laws.AppendOwn
import Derived.Lib.AppendZeros
import Derived.SizedLaws
import Derived.Test.YtfdnjokpgjnmnaaVm3
set_option linter.unusedSimpArgs false
set_option linter.unusedVariables false
section
namespace Go.Vm
variable {H : Type} {enc' : TypeId × Value -> H} {P : Program}
def wfT : (t : Ty) -> t.den -> Prop
 | .int k, x => (Lit.int k x).wf = true
 | .bool, _ => True
 | .pair a b, x => wfT a x.1 /\ wfT b x.2
 | .sl t, xs => List.length xs ≤ maxLen /\ ∀ x ∈ xs, wfT t x
 | .any, _ => True
def a4Q (P : Program) (tab : Tab) : Ty -> Nat -> List Field -> Bool
 | .pair a b, off, f :: g :: fs => Nat.beq f.offset off && Nat.beq (P.cellsOf f.type) a.sz && (match tab f.type with
   | some i => tyB i.t a
   | none => false) && a4Q P tab b (off + a.sz) (g :: fs)
 | t, off, [f] => Nat.beq f.offset off && Nat.beq (P.cellsOf f.type) t.sz && (match tab f.type with
   | some i => tyB i.t t
   | none => false)
 | _, _, _ => false
def anyB : Ty -> Bool
 | .any => true
 | _ => false
def a7g (P : Program) (tab : Tab) (p : Nat × TInfo) : Bool := Nat.beq (P.cellsOf p.1) p.2.t.sz && (!anyB p.2.t || !p.2.agg) && (match p.2.agg, P.underlying p.1 with
 | true, some (.struct fields) => a4Q P tab p.2.t 0 fields.toList
 | true, _ => false
 | false, _ => true)
def b3P (P : Program) (l : List (Nat × TInfo)) : Bool := allB (a7g P (a2X l)) l
theorem repL_of {w : World} {t : Ty} : ∀ (n : Nat) (css : Nat -> List Value), (∀ i, i < n -> ∃ x S, Rep w t .sh x (css i) [] S /\ (∀ b ∈ S, b < w.heap.size) /\ wfT t x) →
   ∃ xs S, RepL (Rep w t .sh) xs ((List.range n).flatMap css) [] S /\ (∀ b ∈ S, b < w.heap.size) /\ xs.length = n /\ ∀ x ∈ xs, wfT t x := by
 intro n;induction n with
 | zero => intro css _; exact ⟨[], [], ⟨by simp, rfl, rfl⟩, by simp, rfl, by simp⟩
 | succ n ih =>
   intro css h;obtain ⟨xs, S, h1, h2, h3, h4⟩ := ih css fun i hi => h i (by omega);obtain ⟨x, S', k1, k2, k3⟩ := h n (by omega);refine ⟨xs ++ [x], S ++ S', ?_, fun b hb => ?_, by simp [h3], fun y hy => ?_⟩
   . rw [List.range_succ, List.flatMap_append];refine (a0d xs [x] _ _ _).2 ⟨_, _, [], [], S, S', rfl, rfl, rfl, h1, ?_⟩;simp only [List.flatMap_cons, List.flatMap_nil, List.append_nil];exact ⟨css n, [], [], [], S', [], by simp, rfl, by simp, k1, ⟨rfl, rfl, rfl⟩⟩
   . simp only [List.mem_append] at hb; exact hb.elim (h2 b) (k2 b)
   . simp only [List.mem_append, List.mem_singleton] at hy;rcases hy with hy | rfl
     . exact h4 y hy
     . exact k3
theorem b3r {l : List (Nat × TInfo)} (ht : TabOK P (a2X l)) (ho : b3P P l = true) {w : World} {base : Nat} {spare : Nat -> Bool} {held : Bool} : ∀ (fuel T : Nat) (i : TInfo) (cs : List Value) (d : DataW H × List MemPlace), a2X l T = some i →
   DataW.trod enc' P w base spare held fuel T cs = some d -> ∃ x S, Rep w i.t .sh x cs [] S /\ (∀ b ∈ S, b < w.heap.size) /\ wfT i.t x := by
 have row : ∀ T i, a2X l T = some i -> a7g P (a2X l) (T, i) = true := fun T i hi => a0R ho _ (a9I hi);intro fuel;induction fuel with
 | zero => intro T i cs d _ h; simp [DataW.trod] at h
 | succ fuel ih =>
   intro T i cs d hi h;have hrow := row T i hi;simp only [a7g, Bool.and_eq_true] at hrow;obtain ⟨⟨hcells, hany⟩, hrow⟩ := hrow;have hcells := Nat.eq_of_beq_eq_true hcells;obtain ⟨ag, t, e, fs⟩ := i;cases ag with
   | true =>
     simp only [] at hrow;split at hrow
     case h_2 => cases hrow
     case h_3 => rename_i hx; cases hx
     rename_i fields _ hu;obtain ⟨xs, n, hn, rfl, hl, hlen, hf⟩ := DataW.trod_struct hu h;obtain rfl : fuel = n := by omega
     have key : ∀ (t : Ty) (off : Nat) (fs : List Field), a4Q P (a2X l) t off fs = true -> (∀ f ∈ fs, ∃ y, DataW.trod enc' P w base spare held fuel f.type ((cs.drop f.offset).take (P.cellsOf f.type)) = some y) -> ∃ x S, Rep w t .sh x ((cs.drop off).take t.sz) [] S /\ (∀ b ∈ S, b < w.heap.size) /\ wfT t x := by
       have one : ∀ (t : Ty) (off : Nat) (f : Field), (Nat.beq f.offset off && Nat.beq (P.cellsOf f.type) t.sz && (match a2X l f.type with | some i => tyB i.t t | none => false)) = true -> (∃ y, DataW.trod enc' P w base spare held fuel f.type ((cs.drop f.offset).take (P.cellsOf f.type)) = some y) →
           ∃ x S, Rep w t .sh x ((cs.drop off).take t.sz) [] S /\ (∀ b ∈ S, b < w.heap.size) /\ wfT t x := by
         intro t off f h ⟨y, hy⟩;simp only [Bool.and_eq_true] at h;obtain ⟨⟨h1, h2⟩, h3⟩ := h;split at h3
         . rename_i j hj;have htj := b2o h3;subst htj;rw [Nat.eq_of_beq_eq_true h1, Nat.eq_of_beq_eq_true h2] at hy;exact ih f.type j _ y hj hy
         . cases h3
       intro t;induction t with
       | pair a b iha ihb =>
         intro off fs h hy
         match fs, h with
         | [f], h => exact one (.pair a b) off f (by simpa only [a4Q] using h) (hy f (by simp))
         | f :: g :: fs, h =>
           simp only [a4Q, Bool.and_eq_true] at h;obtain ⟨x, S, h1, h2, h3⟩ := one a off f (by simp only [Bool.and_eq_true]; exact h.1) (hy f (by simp));obtain ⟨y, S', k1, k2, k3⟩ := ihb (off + a.sz) (g :: fs) h.2 fun f' hf' => hy f' (by simp [hf']);refine ⟨(x, y), S ++ S', ⟨_, _, [], [], S, S', ?_, rfl, rfl, h1, k1⟩, fun b hb => ?_, h3, k3⟩
           . rw [Ty.sz, List.take_add, List.drop_drop]
           . simp only [List.mem_append] at hb; exact hb.elim (h2 b) (k2 b)
       | int k =>
         intro off fs h hy
         match fs, h with
         | [f], h => exact one _ off f (by simpa only [a4Q] using h) (hy f (by simp))
       | bool =>
         intro off fs h hy
         match fs, h with
         | [f], h => exact one _ off f (by simpa only [a4Q] using h) (hy f (by simp))
       | any =>
         intro off fs h hy
         match fs, h with
         | [f], h => exact one _ off f (by simpa only [a4Q] using h) (hy f (by simp))
       | sl t _ =>
         intro off fs h hy
         match fs, h with
         | [f], h => exact one _ off f (by simpa only [a4Q] using h) (hy f (by simp))
     obtain ⟨x, S, h1, h2, h3⟩ := key t 0 fields.toList hrow fun f hf' => by
       obtain ⟨j, hj⟩ := List.mem_iff_getElem?.1 hf';have hj' : fields[j]? = some f := by simpa using hj
       rw [hf j f hj'];have : j < xs.length := by
         rw [hlen];rcases Nat.lt_or_ge j fields.size with h | h
         . exact h
         . rw [Array.getElem?_eq_none h] at hj'; cases hj'
       exact ⟨xs[j], by simp [this]⟩
     refine ⟨x, S, ?_, h2, h3⟩;rw [List.drop_zero, List.take_of_length_le (by rw [hl, hcells]; exact Nat.le_refl _)] at h1;exact h1
   | false =>
     cases t with
     | int k =>
       obtain ⟨n, rfl, rfl, hwf⟩ := DataW.trod_int (ht.int T k e fs hi) h;exact ⟨n, [], ⟨rfl, rfl, rfl⟩, by simp, hwf⟩
     | bool =>
       obtain ⟨b, rfl, rfl⟩ := DataW.trod_bool (ht.bool T _ hi rfl rfl) h;exact ⟨b, [], ⟨rfl, rfl, rfl⟩, by simp, trivial⟩
     | any =>
       obtain ⟨ps, rs, v, hu⟩ := ht.fn T e fs hi;have : ∃ c, cs = [c] /\ c.oneCell' = true /\ ∀ ds, c ≠ .agg ds := by
         unfold DataW.trod at h;rw [hu] at h;split at h <;> first | exact ⟨_, rfl, rfl, fun ds e => by cases e⟩ | simp_all
       obtain ⟨c, rfl, h1, h2⟩ := this;exact ⟨(), [], ⟨⟨c, rfl, h1, h2⟩, rfl, rfl⟩, by simp, trivial⟩
     | pair a b =>
       have := ht.plain T _ hi rfl;simp only [Ty.sz] at this;have h1 := a3i a;have h2 := a3i b;omega
     | sl t =>
       obtain ⟨hu, j, hj, rfl⟩ := ht.slice T t e fs hi;have hce : P.cellsOf e = j.t.sz := by
         have := row e j hj;simp only [a7g, Bool.and_eq_true] at this;exact Nat.eq_of_beq_eq_true this.1.1
       rcases DataW.trod_slice hu h with ⟨rfl, _⟩ | ⟨a, len, cap, elems, rest, n, hn, rfl, _, hb, hlc, hcm, hel, hget, _, _⟩
       . exact ⟨[], [], ⟨none, 0, rfl, Nat.le_refl _, .inl ⟨rfl, rfl, rfl, fun h => by cases h⟩⟩, by simp, by simp [wfT], by simp⟩
       . obtain rfl : fuel = n := by omega
         rw [hce] at hget;have each : ∀ i, i < len -> ∃ cs, w.cells? base (a.add (i * j.t.sz)) j.t.sz = some cs /\ ∃ x S, Rep w j.t .sh x cs [] S /\ (∀ b ∈ S, b < w.heap.size) /\ wfT j.t x := by
           intro i hi;have hg := hget i hi;have : i < elems.length := by omega
           rw [List.getElem?_eq_getElem this, Option.bind_eq_some_iff] at hg;obtain ⟨cs, h1, h2⟩ := hg;exact ⟨cs, h1, ih e j cs _ hj h2⟩
         let css : Nat -> List Value := fun i => (w.cells? base (a.add (i * j.t.sz)) j.t.sz).getD [];have hcss : ∀ i, i < len -> w.cells? base (a.add (i * j.t.sz)) j.t.sz = some (css i) := by
           intro i hi;obtain ⟨cs, h1, _⟩ := each i hi;simp only [css, h1, Option.getD_some]
         obtain ⟨xs, S, k1, k2, k3, k4⟩ := repL_of (w := w) (t := j.t) len css fun i hi => by
           obtain ⟨cs, h1, h2⟩ := each i hi;have := hcss i hi;rw [h1] at this;rw [<- Option.some.inj this]; exact h2
         by_cases hl0 : len = 0
         . subst hl0;have : xs = [] := List.eq_nil_of_length_eq_zero k3;subst this;exact ⟨[], [], ⟨some a, cap, rfl, Nat.zero_le _, .inl ⟨rfl, rfl, rfl, fun h => by cases h⟩⟩, by simp, by simp [wfT], by simp⟩
         . have hblk : a.block < w.heap.size := by
             have := World.cells?_block (hcss 0 (by omega)) (a3i j.t)
             rwa [a0N] at this
           refine ⟨xs, a.block :: S, ⟨some a, cap, by rw [k3], by omega, .inr (.inr ⟨rfl, ?_, a, _, S, rfl, fun q v hq => ?_, k1, rfl, rfl⟩)⟩, fun b hb => ?_, ?_, k4⟩
           . intro e; rw [e] at k3; simp at k3; omega
           ·
             have hcl : ∀ i, i < len -> (css i).length = j.t.sz := fun i hi => (World.cells?_some (hcss i hi)).2.1;have flat : ∀ n, n ≤ len -> ∀ q v, ((List.range n).flatMap css)[q]? = some v -> w.cell? (a.add q) = some v := by
               intro n;induction n with
               | zero => intro _ q v h; simp at h
               | succ n ihn =>
                 intro hn q v h;rw [List.range_succ, List.flatMap_append, List.getElem?_append] at h;have hlenn : ((List.range n).flatMap css).length = n * j.t.sz := by
                   have : ∀ m, m ≤ len -> ((List.range m).flatMap css).length = m * j.t.sz := by
                     intro m;induction m with
                     | zero => intro _; simp
                     | succ m ihm =>
                       intro hm;rw [List.range_succ, List.flatMap_append, List.length_append, ihm (by omega)];simp [hcl m (by omega), Nat.add_mul]
                   exact this n (by omega)
                 split at h
                 . exact ihn (by omega) q v h
                 . rename_i hge;rw [hlenn] at hge h;simp only [List.flatMap_cons, List.flatMap_nil, List.append_nil] at h;have hlt : q - n * j.t.sz < j.t.sz := by
                     have hc := hcl n (by omega);rcases Nat.lt_or_ge (q - n * j.t.sz) (css n).length with h' | h'
                     . rw [hc] at h'; exact h'
                     . rw [List.getElem?_eq_none h'] at h; cases h
                   have := (World.cells?_some (hcss n (by omega))).2.2 (q - n * j.t.sz) hlt;rw [a2Q, show n * j.t.sz + (q - n * j.t.sz) = q by omega] at this;rw [this]; exact h
             exact flat len (Nat.le_refl _) q v hq
           . simp only [List.mem_cons] at hb;rcases hb with rfl | hb
             . exact hblk
             . exact k2 b hb
           . show xs.length ≤ maxLen;omega
end Go.Vm
end
section
namespace Go.Vm
open Go.RowKit (Below)
variable {H : Type} {enc' : TypeId × Value -> H} {P : Program}
def parB (tab : Tab) : List PS -> List TypeId -> Bool
 | [], [] => true
 | .val agg t :: ps, T :: Ts => (match tab T with
   | some i => (match Bool.decEq i.agg agg with
     | .isTrue _ => true
     | .isFalse _ => false) && tyB i.t t
   | none => false) && parB tab ps Ts
 | _, _ => false
def wfIns : (ps : List PS) -> Ins ps -> Prop
 | [], _ => True
 | .val _ t :: ps, d => wfT t d.1 /\ wfIns ps d.2
 | _ :: _, _ => False
theorem b2j {v : Value} (h : ∀ cs, v ≠ .agg cs) : v.cells.toList = [v] := by
 cases v <;> first
   | rfl
   | exact absurd rfl (h _)
theorem b3v {l : List (Nat × TInfo)} (ht : TabOK P (a2X l)) (ho : b3P P l = true) {w : World} {T : TypeId} {i : TInfo} (hi : a2X l T = some i) {v : Value} {d : DataW H} {p : List MemPlace}
   (h : DataW.Trod enc' P w 0 (fun _ => true) true T v d p) (hok : Value.okWide P w .any 0 T v ∨ ∃ b, Value.okWide P w .any b T v) : ∃ x vs S, Rep w i.t .sh x vs [] S /\ a0F i.agg vs v /\ (∀ b ∈ S, b < w.heap.size) /\ wfT i.t x := by
 obtain ⟨fuel, hf⟩ := h;obtain ⟨x, S, h1, h2, h3⟩ := b3r ht ho fuel T i _ _ hi hf;refine ⟨x, _, S, h1, ?_, h2, h3⟩;obtain ⟨b, hok⟩ : ∃ b, Value.okWide P w .any b T v := hok.elim (fun h => ⟨0, h⟩) id;obtain ⟨ag, t, e, fs⟩ := i;cases ag with
 | true =>
   obtain ⟨dd, hd, hag⟩ := ht.agg T _ hi;have : ∃ cs, v = .agg cs := by
     unfold Value.okWide at hok;rw [hd] at hok;cases dd <;> simp only [] at hok hag <;> first
       | exact ⟨_, hok.choose_spec.1⟩
       | cases hag
   obtain ⟨cs, rfl⟩ := this;simp [a0F, Value.cells]
 | false =>
   have : ∀ cs, v ≠ .agg cs := by
     intro cs e;subst e;cases t with
     | int k => have := ht.int T k _ fs hi; simp [Value.okWide, this, Cell.okWide, Cell.ok] at hok
     | bool => have := ht.bool T _ hi rfl rfl; simp [Value.okWide, this, Cell.okWide, Cell.ok] at hok
     | sl t => obtain ⟨this, _⟩ := ht.slice T t _ fs hi; simp [Value.okWide, this, Cell.okWide, Cell.ok] at hok
     | any =>
       obtain ⟨ps, rs, v, this⟩ := ht.fn T _ fs hi;simp [Value.okWide, this, Cell.okWide, Cell.ok] at hok
     | pair a b =>
       have := ht.plain T _ hi rfl;simp only [Ty.sz] at this;have h1 := a3i a;have h2 := a3i b;omega
   simp only [a0F, Bool.false_eq_true, if_false];exact b2j this
theorem b1t {l : List (Nat × TInfo)} (ht : TabOK P (a2X l)) (ho : b3P P l = true) {w : World} : ∀ (ps : List PS) (Ts : List TypeId) (vs : List Value) (ds : List (DataW H)) (p : List MemPlace), parB (a2X l) ps Ts = true →
   DataW.TrodAll enc' P w 0 (fun _ => true) true Ts vs ds p -> (∀ (j : Nat) t v, Ts[j]? = some t -> vs[j]? = some v -> ∃ b, Value.okWide P w .any b t v) →
   ∃ d S, a1N P w ps d vs [] S S /\ (∀ b ∈ S, b < w.heap.size) /\ wfIns ps d := by
 intro ps;induction ps with
 | nil =>
   intro Ts vs ds p hp h hok;cases Ts with
   | cons T Ts => simp [parB] at hp
   | nil =>
     obtain ⟨rfl, rfl, rfl⟩ := ChangeShapes.trodAll_nil h;exact ⟨(), [], ⟨rfl, rfl, rfl, rfl⟩, by simp, trivial⟩
 | cons q ps ih =>
   intro Ts vs ds p hp h hok;cases Ts with
   | nil => cases q <;> simp [parB] at hp
   | cons T Ts =>
     cases q with
     | val agg t =>
       simp only [parB, Bool.and_eq_true] at hp;obtain ⟨hp1, hp2⟩ := hp;split at hp1
       case h_2 => cases hp1
       rename_i i hi;simp only [Bool.and_eq_true] at hp1;obtain ⟨hag, hty⟩ := hp1;have hag : i.agg = agg := by
         split at hag
         . assumption
         . cases hag
       have hty := b2o hty;obtain ⟨v, vs', d1, ds', p1, q1, rfl, rfl, rfl, h1, h2⟩ := ChangeShapes.trodAll_cons h;obtain ⟨x, us, S, k1, k2, k3, k4⟩ := b3v ht ho hi h1 (.inr (hok 0 T v rfl rfl));obtain ⟨d, S', g1, g2, g3⟩ := ih Ts vs' ds' q1 hp2 h2 fun j t v hj hv => hok (j + 1) t v hj hv;subst hag hty;refine ⟨(x, d), S ++ S', ⟨v, vs', [], [], S, S', S, S', rfl, rfl, rfl, rfl, ⟨rfl, rfl, us, k1, k2⟩, g1⟩, fun b hb => ?_, k4, g3⟩;simp only [List.mem_append] at hb;exact hb.elim (k3 b) (g2 b)
     | _ => simp [parB] at hp
theorem b3j (hl : laidOutB P = true) {W W' : World} (hb : Below W.heap.size W W') : ∀ (Ts : List TypeId) (vs : List Value) (ds : List (DataW H)) (p : List MemPlace), allB (fun T => P.readableRec T && Nat.blt T P.types.size) Ts = true →
   DataW.TrodAll enc' P W 0 (fun _ => true) true Ts vs ds p -> DataW.TrodAll enc' P W' 0 (fun b => decide (b < W.heap.size)) true Ts vs ds p := by
 intro Ts;induction Ts with
 | nil =>
   intro vs ds p _ h;obtain ⟨rfl, rfl, rfl⟩ := ChangeShapes.trodAll_nil h;exact ChangeShapes.trodAll_mk0
 | cons T Ts ih =>
   intro vs ds p hr h;obtain ⟨v, vs', d, ds', p1, q1, rfl, rfl, rfl, h1, h2⟩ := ChangeShapes.trodAll_cons h;have r0 := a0R hr T (by simp);simp only [Bool.and_eq_true] at r0;obtain ⟨r1, r2⟩ := r0;have r3 : allB (fun T => P.readableRec T && Nat.blt T P.types.size) Ts = true := by
     simp only [allB] at hr;split at hr
     . exact hr
     . cases hr
   have hlt : ∀ x ∈ p1, x.block < W.heap.size := by
     obtain ⟨m, hm⟩ := h1;exact DataW.trod_lt m _ _ _ hm
   exact ⟨p1, q1, Go.RowKit.Below.trod hl r1 (Nat.le_of_ble_eq_true r2) h1 hb hlt, ih vs' ds' q1 r3 h2, rfl⟩
theorem law_calls (hl : laidOutB P = true) {l : List (Nat × TInfo)} (ht : TabOK P (a2X l)) (ho : b3P P l = true) {f : FuncId} {ps : List PS} {m : Mode} {F : Ins ps -> Option (Outs [(OutK.val false, Ty.bool, m)] × Muts ps)} (hS : a3x P ⟨f, ⟨ps, [(.val false, .bool, m)]⟩, F⟩)
   (hpure : ∀ d, wfIns ps d -> ∃ mu, F d = some ((true, ()), mu)) {fn : Func} {Ts : List TypeId} (hTs : fn.params.toList = Ts) (hpar : parB (a2X l) ps Ts = true) (hread : allB (fun T => P.readableRec T && Nat.blt T P.types.size) Ts = true)
   {rt : TypeId} (hrt : fn.resultTypes = #[rt]) (hub : P.underlying rt = some .bool) (s : ChangeSpec) (hv : s.vars = []) (hs : ∀ (ds : List (DataW H)), ds.length = Ts.length -> s.fn H ds = { results := [.lit (.bool true)], args := ds })
   (W : World) (base : Nat) (args : Array Value) (ds gs : List (DataW H)) (before : List MemPlace) (hval : ∀ (j : Nat) t v, fn.params[j]? = some t -> args[j]? = some v -> Value.okWide P W .any base t v)
   (hW : DataW.Whole enc' P fn.params.toList s.vars false W args.toList ds gs before) : Calls P f args W fun e W' => ∃ v, e = .returned v /\ s.post enc' P fn false true false false W args v W' := by
 have hW' := hW;obtain ⟨p, q, hA, hV, rfl, -, -⟩ := hW;rw [hv] at hV;obtain ⟨rfl, rfl⟩ := ChangeShapes.trodVars_none hV;have hA' := hA;rw [hTs] at hA;have hlen : ds.length = Ts.length := by
   have aux : ∀ (Ts : List TypeId) (vs : List Value) (ds : List (DataW H)) (p : List MemPlace), DataW.TrodAll enc' P W 0 (fun _ => true) true Ts vs ds p -> ds.length = Ts.length := by
     intro Ts;induction Ts with
     | nil => intro vs ds p h; obtain ⟨_, rfl, _⟩ := ChangeShapes.trodAll_nil h; rfl
     | cons T Ts ih =>
       intro vs ds p h;obtain ⟨v, vs', d, ds', p1, q1, rfl, rfl, rfl, h1, h2⟩ := ChangeShapes.trodAll_cons h;simp [ih _ _ _ h2]
   exact aux _ _ _ _ hA
 obtain ⟨d, S, h1, h2, h3⟩ := b1t ht ho ps Ts args.toList ds p hpar hA fun j t v hj hvj => ⟨base, hval j t v (by
   rw [<- hTs] at hj;simpa using hj) (by simpa using hvj)⟩
 obtain ⟨mu, hF⟩ := hpure d h3;have hcall := hS.2 d _ hF W args.toList [] S S h1 (by simp) (by simp);simp only [Array.toArray_toList] at hcall;refine hcall.mono fun e W' hp => ?_;obtain ⟨us, F', S', M', T', rfl, hout, hmut, -, -, -, hold, hbel⟩ := hp;obtain ⟨v, vs', F1, F2, S1, S2, rfl, -, -, ⟨ws, ⟨rfl, -, -⟩, hsh⟩, ⟨rfl, -, -⟩⟩ := hout;have hsh : [Value.bool true] = [v] := by simpa [a0F] using hsh
 simp only [List.cons.injEq, and_true] at hsh;subst hsh;have bel : Below W.heap.size W W' := ⟨hbel.os, hbel.tape, hbel.output, hbel.size, fun b hb => hold b hb (by simp)⟩;have hfn := hs (ds ++ []) (by simpa using hlen);refine ⟨.bool true, rfl, ds, [], p ++ [], [], p, [], hW', ?_, ?_, ?_, bel.frame _, fun h => by cases h⟩
 . rw [hfn, hrt];exact ChangeShapes.trodAll_mk1 (Go.RowKit.shut_bool hub _)
 . rw [hfn, List.append_nil, hTs];exact b3j hl bel Ts args.toList ds p hread hA
 . rw [hfn, hv];rfl
end Go.Vm
end
section
namespace Go.Vm
variable {P : Program}
theorem growOK_of {g : FuncId} {E : TypeId} {t : Ty} {z : Value} (hE : ∃ fn, P.funcs[g]? = some fn /\ fn.body.isNone = false /\ (fn.name == "runtime.NumGoroutine") = false) (hzs : z.cells.size = t.sz)
   (h0 : ∀ w, Calls P g #[.slice none 0 0, .int .i64 ((0 : Nat) : Int)] w fun e w' => e = .returned (.slice none 0 0) /\ w' = w)
   (h1 : ∀ w (n : Nat), 0 < n -> n ≤ 1099511627776 -> Calls P g #[.slice none 0 0, .int .i64 (n : Int)] w fun e w' => ∃ G, n ≤ G /\ G ≤ 9223372036854775807 /\ e = .returned (.slice (some ⟨w.heap.size, 0, none⟩) 0 G) /\ w' = w.drew.alloc (.cells (Builtin.zeroCells z.cells n ++ Builtin.zeroCells z.cells (G - n)) E)) : b1h P (g, t) := by
 refine ⟨hE, fun w n hn => ?_⟩;by_cases hz : n = 0
 . subst hz;refine (h0 w).mono fun e w' ⟨he, hw⟩ => ?_;subst he hw;exact ⟨[.slice none 0 0], [], [], rfl, ⟨_, [], [], [], [], [], rfl, rfl, rfl, ⟨[_], ⟨none, 0, rfl, Nat.le_refl _, .inl ⟨rfl, rfl, rfl, fun _ => rfl⟩⟩, rfl⟩, ⟨rfl, rfl, rfl⟩⟩, by simp, by simp, by simp, fun _ _ => rfl, ⟨rfl, rfl, rfl, Nat.le_refl _, Nat.le_refl _⟩⟩
 . refine (h1 w n (by omega) (by simpa [bigN] using hn)).mono fun e w' ⟨G, hG, hG63, he, hw⟩ => ?_;subst he hw;obtain ⟨Z, hZ⟩ : ∃ Z, Z = Builtin.zeroCells z.cells n ++ Builtin.zeroCells z.cells (G - n) := ⟨_, rfl⟩;have hZs : Z.size = G * t.sz := by
     rw [hZ]; simp only [Array.size_append, Go.size_zeroCells, hzs];rw [<- Nat.add_mul]; congr 1; omega
   rw [<- hZ];have hheap : (w.drew.alloc (.cells Z E)).heap = w.heap.push (.cells Z E) := rfl;refine ⟨[.slice (some ⟨w.heap.size, 0, none⟩) 0 G], [w.heap.size], [], rfl, ⟨_, [], [w.heap.size], [], [], [], rfl, rfl, rfl, ⟨[_], ⟨some ⟨w.heap.size, 0, none⟩, G, rfl, Nat.zero_le _, .inr (.inl ⟨rfl, w.heap.size, Z, E, [], Z.toList, [], rfl, ?_, rfl, ⟨?_, ?_⟩, ⟨rfl, rfl, rfl⟩, rfl⟩)⟩, rfl⟩, ⟨rfl, rfl, rfl⟩⟩, by simp, by simp, by simp, fun b hb => ?_, ⟨rfl, rfl, rfl, ?_, Nat.le_succ _⟩⟩
   . rw [hheap]; simp
   . exact hZs
   . unfold maxLen; omega
   . rw [hheap, Array.getElem?_push]; rw [if_neg (by omega)]
   . rw [hheap]; simp
end Go.Vm
end
