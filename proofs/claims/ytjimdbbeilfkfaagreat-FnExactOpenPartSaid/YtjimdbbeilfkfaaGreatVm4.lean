/- What a machine on values does is what the program does. -/
import Derived.Carry
import Derived.ChangeArms
import Derived.ChangeOld
import Derived.ChangeShapes
import Derived.ChangeSlices
import Derived.Laws.AppendOwn
import Derived.Lib.AppendZeros
import Derived.Lib.SlKept
import Derived.Shelf.SlSortCmp.Kit1
import Derived.Shelf.SlSortCmp.NoneTotal
import Derived.SizedLaws
import Derived.Test.YtjimdbbeilfkfaaGreatVm3
set_option linter.unusedSimpArgs false
set_option linter.unusedVariables false
section
namespace Go.Vm
variable {H : Type} {enc' : TypeId × Value -> H} {P : Program}
def wfT : (t : Ty) -> t.den -> Prop
 | .int k, x => (Lit.int k x).wf = true
 | .bool, _ => True
 | .pair a b, x => wfT a x.1 /\ wfT b x.2
 | .sl t, xs => List.length xs ≤ maxLen /\ ∀ x ∈ xs, wfT t x
 | .any, _ => True
def a4Q (P : Program) (tab : Tab) : Ty -> Nat -> List Field -> Bool
 | .pair a b, off, f :: g :: fs => Nat.beq f.offset off && Nat.beq (P.cellsOf f.type) a.sz && (match tab f.type with
   | some i => tyB i.t a
   | none => false) && a4Q P tab b (off + a.sz) (g :: fs)
 | t, off, [f] => Nat.beq f.offset off && Nat.beq (P.cellsOf f.type) t.sz && (match tab f.type with
   | some i => tyB i.t t
   | none => false)
 | _, _, _ => false
def anyB : Ty -> Bool
 | .any => true
 | _ => false
def a7g (P : Program) (tab : Tab) (p : Nat × TInfo) : Bool := Nat.beq (P.cellsOf p.1) p.2.t.sz && (!anyB p.2.t || !p.2.agg) && (match p.2.agg, P.underlying p.1 with
 | true, some (.struct fields) => a4Q P tab p.2.t 0 fields.toList
 | true, _ => false
 | false, _ => true)
def b3P (P : Program) (l : List (Nat × TInfo)) : Bool := allB (a7g P (a2X l)) l
theorem repL_of {w : World} {t : Ty} : ∀ (n : Nat) (css : Nat -> List Value), (∀ i, i < n -> ∃ x S, Rep w t .sh x (css i) [] S /\ (∀ b ∈ S, b < w.heap.size) /\ wfT t x) →
   ∃ xs S, RepL (Rep w t .sh) xs ((List.range n).flatMap css) [] S /\ (∀ b ∈ S, b < w.heap.size) /\ xs.length = n /\ ∀ x ∈ xs, wfT t x := by
 intro n;induction n with
 | zero => intro css _; exact ⟨[], [], ⟨by simp, rfl, rfl⟩, by simp, rfl, by simp⟩
 | succ n ih =>
   intro css h;obtain ⟨xs, S, h1, h2, h3, h4⟩ := ih css fun i hi => h i (by omega);obtain ⟨x, S', k1, k2, k3⟩ := h n (by omega);refine ⟨xs ++ [x], S ++ S', ?_, fun b hb => ?_, by simp [h3], fun y hy => ?_⟩
   . rw [List.range_succ, List.flatMap_append];refine (a0d xs [x] _ _ _).2 ⟨_, _, [], [], S, S', rfl, rfl, rfl, h1, ?_⟩;simp only [List.flatMap_cons, List.flatMap_nil, List.append_nil];exact ⟨css n, [], [], [], S', [], by simp, rfl, by simp, k1, ⟨rfl, rfl, rfl⟩⟩
   . simp only [List.mem_append] at hb; exact hb.elim (h2 b) (k2 b)
   . simp only [List.mem_append, List.mem_singleton] at hy;rcases hy with hy | rfl
     . exact h4 y hy
     . exact k3
theorem b3r {l : List (Nat × TInfo)} (ht : TabOK P (a2X l)) (ho : b3P P l = true) {w : World} {base : Nat} {spare : Nat -> Bool} {held : Bool} : ∀ (fuel T : Nat) (i : TInfo) (cs : List Value) (d : DataW H × List MemPlace), a2X l T = some i →
   DataW.trod enc' P w base spare held fuel T cs = some d -> ∃ x S, Rep w i.t .sh x cs [] S /\ (∀ b ∈ S, b < w.heap.size) /\ wfT i.t x := by
 have row : ∀ T i, a2X l T = some i -> a7g P (a2X l) (T, i) = true := fun T i hi => a0R ho _ (a9I hi);intro fuel;induction fuel with
 | zero => intro T i cs d _ h; simp [DataW.trod] at h
 | succ fuel ih =>
   intro T i cs d hi h;have hrow := row T i hi;simp only [a7g, Bool.and_eq_true] at hrow;obtain ⟨⟨hcells, hany⟩, hrow⟩ := hrow;have hcells := Nat.eq_of_beq_eq_true hcells;obtain ⟨ag, t, e, fs⟩ := i;cases ag with
   | true =>
     simp only [] at hrow;split at hrow
     case h_2 => cases hrow
     case h_3 => rename_i hx; cases hx
     rename_i fields _ hu;obtain ⟨xs, n, hn, rfl, hl, hlen, hf⟩ := DataW.trod_struct hu h;obtain rfl : fuel = n := by omega
     have key : ∀ (t : Ty) (off : Nat) (fs : List Field), a4Q P (a2X l) t off fs = true -> (∀ f ∈ fs, ∃ y, DataW.trod enc' P w base spare held fuel f.type ((cs.drop f.offset).take (P.cellsOf f.type)) = some y) -> ∃ x S, Rep w t .sh x ((cs.drop off).take t.sz) [] S /\ (∀ b ∈ S, b < w.heap.size) /\ wfT t x := by
       have one : ∀ (t : Ty) (off : Nat) (f : Field), (Nat.beq f.offset off && Nat.beq (P.cellsOf f.type) t.sz && (match a2X l f.type with | some i => tyB i.t t | none => false)) = true -> (∃ y, DataW.trod enc' P w base spare held fuel f.type ((cs.drop f.offset).take (P.cellsOf f.type)) = some y) →
           ∃ x S, Rep w t .sh x ((cs.drop off).take t.sz) [] S /\ (∀ b ∈ S, b < w.heap.size) /\ wfT t x := by
         intro t off f h ⟨y, hy⟩;simp only [Bool.and_eq_true] at h;obtain ⟨⟨h1, h2⟩, h3⟩ := h;split at h3
         . rename_i j hj;have htj := b2o h3;subst htj;rw [Nat.eq_of_beq_eq_true h1, Nat.eq_of_beq_eq_true h2] at hy;exact ih f.type j _ y hj hy
         . cases h3
       intro t;induction t with
       | pair a b iha ihb =>
         intro off fs h hy
         match fs, h with
         | [f], h => exact one (.pair a b) off f (by simpa only [a4Q] using h) (hy f (by simp))
         | f :: g :: fs, h =>
           simp only [a4Q, Bool.and_eq_true] at h;obtain ⟨x, S, h1, h2, h3⟩ := one a off f (by simp only [Bool.and_eq_true]; exact h.1) (hy f (by simp));obtain ⟨y, S', k1, k2, k3⟩ := ihb (off + a.sz) (g :: fs) h.2 fun f' hf' => hy f' (by simp [hf']);refine ⟨(x, y), S ++ S', ⟨_, _, [], [], S, S', ?_, rfl, rfl, h1, k1⟩, fun b hb => ?_, h3, k3⟩
           . rw [Ty.sz, List.take_add, List.drop_drop]
           . simp only [List.mem_append] at hb; exact hb.elim (h2 b) (k2 b)
       | int k =>
         intro off fs h hy
         match fs, h with
         | [f], h => exact one _ off f (by simpa only [a4Q] using h) (hy f (by simp))
       | bool =>
         intro off fs h hy
         match fs, h with
         | [f], h => exact one _ off f (by simpa only [a4Q] using h) (hy f (by simp))
       | any =>
         intro off fs h hy
         match fs, h with
         | [f], h => exact one _ off f (by simpa only [a4Q] using h) (hy f (by simp))
       | sl t _ =>
         intro off fs h hy
         match fs, h with
         | [f], h => exact one _ off f (by simpa only [a4Q] using h) (hy f (by simp))
     obtain ⟨x, S, h1, h2, h3⟩ := key t 0 fields.toList hrow fun f hf' => by
       obtain ⟨j, hj⟩ := List.mem_iff_getElem?.1 hf';have hj' : fields[j]? = some f := by simpa using hj
       rw [hf j f hj'];have : j < xs.length := by
         rw [hlen];rcases Nat.lt_or_ge j fields.size with h | h
         . exact h
         . rw [Array.getElem?_eq_none h] at hj'; cases hj'
       exact ⟨xs[j], by simp [this]⟩
     refine ⟨x, S, ?_, h2, h3⟩;rw [List.drop_zero, List.take_of_length_le (by rw [hl, hcells]; exact Nat.le_refl _)] at h1;exact h1
   | false =>
     cases t with
     | int k =>
       obtain ⟨n, rfl, rfl, hwf⟩ := DataW.trod_int (ht.int T k e fs hi) h;exact ⟨n, [], ⟨rfl, rfl, rfl⟩, by simp, hwf⟩
     | bool =>
       obtain ⟨b, rfl, rfl⟩ := DataW.trod_bool (ht.bool T _ hi rfl rfl) h;exact ⟨b, [], ⟨rfl, rfl, rfl⟩, by simp, trivial⟩
     | any =>
       obtain ⟨ps, rs, v, hu⟩ := ht.fn T e fs hi;have : ∃ c, cs = [c] /\ c.oneCell' = true /\ ∀ ds, c ≠ .agg ds := by
         unfold DataW.trod at h;rw [hu] at h;split at h <;> first | exact ⟨_, rfl, rfl, fun ds e => by cases e⟩ | simp_all
       obtain ⟨c, rfl, h1, h2⟩ := this;exact ⟨(), [], ⟨⟨c, rfl, h1, h2⟩, rfl, rfl⟩, by simp, trivial⟩
     | pair a b =>
       have := ht.plain T _ hi rfl;simp only [Ty.sz] at this;have h1 := a3i a;have h2 := a3i b;omega
     | sl t =>
       obtain ⟨hu, j, hj, rfl⟩ := ht.slice T t e fs hi;have hce : P.cellsOf e = j.t.sz := by
         have := row e j hj;simp only [a7g, Bool.and_eq_true] at this;exact Nat.eq_of_beq_eq_true this.1.1
       rcases DataW.trod_slice hu h with ⟨rfl, _⟩ | ⟨a, len, cap, elems, rest, n, hn, rfl, _, hb, hlc, hcm, hel, hget, _, _⟩
       . exact ⟨[], [], ⟨none, 0, rfl, Nat.le_refl _, .inl ⟨rfl, rfl, rfl, fun h => by cases h⟩⟩, by simp, by simp [wfT], by simp⟩
       . obtain rfl : fuel = n := by omega
         rw [hce] at hget;have each : ∀ i, i < len -> ∃ cs, w.cells? base (a.add (i * j.t.sz)) j.t.sz = some cs /\ ∃ x S, Rep w j.t .sh x cs [] S /\ (∀ b ∈ S, b < w.heap.size) /\ wfT j.t x := by
           intro i hi;have hg := hget i hi;have : i < elems.length := by omega
           rw [List.getElem?_eq_getElem this, Option.bind_eq_some_iff] at hg;obtain ⟨cs, h1, h2⟩ := hg;exact ⟨cs, h1, ih e j cs _ hj h2⟩
         let css : Nat -> List Value := fun i => (w.cells? base (a.add (i * j.t.sz)) j.t.sz).getD [];have hcss : ∀ i, i < len -> w.cells? base (a.add (i * j.t.sz)) j.t.sz = some (css i) := by
           intro i hi;obtain ⟨cs, h1, _⟩ := each i hi;simp only [css, h1, Option.getD_some]
         obtain ⟨xs, S, k1, k2, k3, k4⟩ := repL_of (w := w) (t := j.t) len css fun i hi => by
           obtain ⟨cs, h1, h2⟩ := each i hi;have := hcss i hi;rw [h1] at this;rw [<- Option.some.inj this]; exact h2
         by_cases hl0 : len = 0
         . subst hl0;have : xs = [] := List.eq_nil_of_length_eq_zero k3;subst this;exact ⟨[], [], ⟨some a, cap, rfl, Nat.zero_le _, .inl ⟨rfl, rfl, rfl, fun h => by cases h⟩⟩, by simp, by simp [wfT], by simp⟩
         . have hblk : a.block < w.heap.size := by
             have := World.cells?_block (hcss 0 (by omega)) (a3i j.t)
             rwa [a0N] at this
           refine ⟨xs, a.block :: S, ⟨some a, cap, by rw [k3], by omega, .inr (.inr ⟨rfl, ?_, a, _, S, rfl, fun q v hq => ?_, k1, rfl, rfl⟩)⟩, fun b hb => ?_, ?_, k4⟩
           . intro e; rw [e] at k3; simp at k3; omega
           ·
             have hcl : ∀ i, i < len -> (css i).length = j.t.sz := fun i hi => (World.cells?_some (hcss i hi)).2.1;have flat : ∀ n, n ≤ len -> ∀ q v, ((List.range n).flatMap css)[q]? = some v -> w.cell? (a.add q) = some v := by
               intro n;induction n with
               | zero => intro _ q v h; simp at h
               | succ n ihn =>
                 intro hn q v h;rw [List.range_succ, List.flatMap_append, List.getElem?_append] at h;have hlenn : ((List.range n).flatMap css).length = n * j.t.sz := by
                   have : ∀ m, m ≤ len -> ((List.range m).flatMap css).length = m * j.t.sz := by
                     intro m;induction m with
                     | zero => intro _; simp
                     | succ m ihm =>
                       intro hm;rw [List.range_succ, List.flatMap_append, List.length_append, ihm (by omega)];simp [hcl m (by omega), Nat.add_mul]
                   exact this n (by omega)
                 split at h
                 . exact ihn (by omega) q v h
                 . rename_i hge;rw [hlenn] at hge h;simp only [List.flatMap_cons, List.flatMap_nil, List.append_nil] at h;have hlt : q - n * j.t.sz < j.t.sz := by
                     have hc := hcl n (by omega);rcases Nat.lt_or_ge (q - n * j.t.sz) (css n).length with h' | h'
                     . rw [hc] at h'; exact h'
                     . rw [List.getElem?_eq_none h'] at h; cases h
                   have := (World.cells?_some (hcss n (by omega))).2.2 (q - n * j.t.sz) hlt;rw [a2Q, show n * j.t.sz + (q - n * j.t.sz) = q by omega] at this;rw [this]; exact h
             exact flat len (Nat.le_refl _) q v hq
           . simp only [List.mem_cons] at hb;rcases hb with rfl | hb
             . exact hblk
             . exact k2 b hb
           . show xs.length ≤ maxLen;omega
end Go.Vm
end
section
namespace Go.Vm
open Go.RowKit (Below)
variable {H : Type} {enc' : TypeId × Value -> H} {P : Program}
def parB (tab : Tab) : List PS -> List TypeId -> Bool
 | [], [] => true
 | .val agg t :: ps, T :: Ts => (match tab T with
   | some i => (match Bool.decEq i.agg agg with
     | .isTrue _ => true
     | .isFalse _ => false) && tyB i.t t
   | none => false) && parB tab ps Ts
 | _, _ => false
def wfIns : (ps : List PS) -> Ins ps -> Prop
 | [], _ => True
 | .val _ t :: ps, d => wfT t d.1 /\ wfIns ps d.2
 | _ :: _, _ => False
theorem b2j {v : Value} (h : ∀ cs, v ≠ .agg cs) : v.cells.toList = [v] := by
 cases v <;> first
   | rfl
   | exact absurd rfl (h _)
theorem b3v {l : List (Nat × TInfo)} (ht : TabOK P (a2X l)) (ho : b3P P l = true) {w : World} {T : TypeId} {i : TInfo} (hi : a2X l T = some i) {v : Value} {d : DataW H} {p : List MemPlace}
   (h : DataW.Trod enc' P w 0 (fun _ => true) true T v d p) (hok : Value.okWide P w .any 0 T v ∨ ∃ b, Value.okWide P w .any b T v) : ∃ x vs S, Rep w i.t .sh x vs [] S /\ a0F i.agg vs v /\ (∀ b ∈ S, b < w.heap.size) /\ wfT i.t x := by
 obtain ⟨fuel, hf⟩ := h;obtain ⟨x, S, h1, h2, h3⟩ := b3r ht ho fuel T i _ _ hi hf;refine ⟨x, _, S, h1, ?_, h2, h3⟩;obtain ⟨b, hok⟩ : ∃ b, Value.okWide P w .any b T v := hok.elim (fun h => ⟨0, h⟩) id;obtain ⟨ag, t, e, fs⟩ := i;cases ag with
 | true =>
   obtain ⟨dd, hd, hag⟩ := ht.agg T _ hi;have : ∃ cs, v = .agg cs := by
     unfold Value.okWide at hok;rw [hd] at hok;cases dd <;> simp only [] at hok hag <;> first
       | exact ⟨_, hok.choose_spec.1⟩
       | cases hag
   obtain ⟨cs, rfl⟩ := this;simp [a0F, Value.cells]
 | false =>
   have : ∀ cs, v ≠ .agg cs := by
     intro cs e;subst e;cases t with
     | int k => have := ht.int T k _ fs hi; simp [Value.okWide, this, Cell.okWide, Cell.ok] at hok
     | bool => have := ht.bool T _ hi rfl rfl; simp [Value.okWide, this, Cell.okWide, Cell.ok] at hok
     | sl t => obtain ⟨this, _⟩ := ht.slice T t _ fs hi; simp [Value.okWide, this, Cell.okWide, Cell.ok] at hok
     | any =>
       obtain ⟨ps, rs, v, this⟩ := ht.fn T _ fs hi;simp [Value.okWide, this, Cell.okWide, Cell.ok] at hok
     | pair a b =>
       have := ht.plain T _ hi rfl;simp only [Ty.sz] at this;have h1 := a3i a;have h2 := a3i b;omega
   simp only [a0F, Bool.false_eq_true, if_false];exact b2j this
theorem b1t {l : List (Nat × TInfo)} (ht : TabOK P (a2X l)) (ho : b3P P l = true) {w : World} : ∀ (ps : List PS) (Ts : List TypeId) (vs : List Value) (ds : List (DataW H)) (p : List MemPlace), parB (a2X l) ps Ts = true →
   DataW.TrodAll enc' P w 0 (fun _ => true) true Ts vs ds p -> (∀ (j : Nat) t v, Ts[j]? = some t -> vs[j]? = some v -> ∃ b, Value.okWide P w .any b t v) →
   ∃ d S, a1N P w ps d vs [] S S /\ (∀ b ∈ S, b < w.heap.size) /\ wfIns ps d := by
 intro ps;induction ps with
 | nil =>
   intro Ts vs ds p hp h hok;cases Ts with
   | cons T Ts => simp [parB] at hp
   | nil =>
     obtain ⟨rfl, rfl, rfl⟩ := ChangeShapes.trodAll_nil h;exact ⟨(), [], ⟨rfl, rfl, rfl, rfl⟩, by simp, trivial⟩
 | cons q ps ih =>
   intro Ts vs ds p hp h hok;cases Ts with
   | nil => cases q <;> simp [parB] at hp
   | cons T Ts =>
     cases q with
     | val agg t =>
       simp only [parB, Bool.and_eq_true] at hp;obtain ⟨hp1, hp2⟩ := hp;split at hp1
       case h_2 => cases hp1
       rename_i i hi;simp only [Bool.and_eq_true] at hp1;obtain ⟨hag, hty⟩ := hp1;have hag : i.agg = agg := by
         split at hag
         . assumption
         . cases hag
       have hty := b2o hty;obtain ⟨v, vs', d1, ds', p1, q1, rfl, rfl, rfl, h1, h2⟩ := ChangeShapes.trodAll_cons h;obtain ⟨x, us, S, k1, k2, k3, k4⟩ := b3v ht ho hi h1 (.inr (hok 0 T v rfl rfl));obtain ⟨d, S', g1, g2, g3⟩ := ih Ts vs' ds' q1 hp2 h2 fun j t v hj hv => hok (j + 1) t v hj hv;subst hag hty;refine ⟨(x, d), S ++ S', ⟨v, vs', [], [], S, S', S, S', rfl, rfl, rfl, rfl, ⟨rfl, rfl, us, k1, k2⟩, g1⟩, fun b hb => ?_, k4, g3⟩;simp only [List.mem_append] at hb;exact hb.elim (k3 b) (g2 b)
     | _ => simp [parB] at hp
theorem b3j (hl : laidOutB P = true) {W W' : World} (hb : Below W.heap.size W W') : ∀ (Ts : List TypeId) (vs : List Value) (ds : List (DataW H)) (p : List MemPlace), allB (fun T => P.readableRec T && Nat.blt T P.types.size) Ts = true →
   DataW.TrodAll enc' P W 0 (fun _ => true) true Ts vs ds p -> DataW.TrodAll enc' P W' 0 (fun b => decide (b < W.heap.size)) true Ts vs ds p := by
 intro Ts;induction Ts with
 | nil =>
   intro vs ds p _ h;obtain ⟨rfl, rfl, rfl⟩ := ChangeShapes.trodAll_nil h;exact ChangeShapes.trodAll_mk0
 | cons T Ts ih =>
   intro vs ds p hr h;obtain ⟨v, vs', d, ds', p1, q1, rfl, rfl, rfl, h1, h2⟩ := ChangeShapes.trodAll_cons h;have r0 := a0R hr T (by simp);simp only [Bool.and_eq_true] at r0;obtain ⟨r1, r2⟩ := r0;have r3 : allB (fun T => P.readableRec T && Nat.blt T P.types.size) Ts = true := by
     simp only [allB] at hr;split at hr
     . exact hr
     . cases hr
   have hlt : ∀ x ∈ p1, x.block < W.heap.size := by
     obtain ⟨m, hm⟩ := h1;exact DataW.trod_lt m _ _ _ hm
   exact ⟨p1, q1, Go.RowKit.Below.trod hl r1 (Nat.le_of_ble_eq_true r2) h1 hb hlt, ih vs' ds' q1 r3 h2, rfl⟩
theorem law_calls (hl : laidOutB P = true) {l : List (Nat × TInfo)} (ht : TabOK P (a2X l)) (ho : b3P P l = true) {f : FuncId} {ps : List PS} {m : Mode} {F : Ins ps -> Option (Outs [(OutK.val false, Ty.bool, m)] × Muts ps)} (hS : a3x P ⟨f, ⟨ps, [(.val false, .bool, m)]⟩, F⟩)
   (hpure : ∀ d, wfIns ps d -> ∃ mu, F d = some ((true, ()), mu)) {fn : Func} {Ts : List TypeId} (hTs : fn.params.toList = Ts) (hpar : parB (a2X l) ps Ts = true) (hread : allB (fun T => P.readableRec T && Nat.blt T P.types.size) Ts = true)
   {rt : TypeId} (hrt : fn.resultTypes = #[rt]) (hub : P.underlying rt = some .bool) (s : ChangeSpec) (hv : s.vars = []) (hs : ∀ (ds : List (DataW H)), ds.length = Ts.length -> s.fn H ds = { results := [.lit (.bool true)], args := ds })
   (W : World) (base : Nat) (args : Array Value) (ds gs : List (DataW H)) (before : List MemPlace) (hval : ∀ (j : Nat) t v, fn.params[j]? = some t -> args[j]? = some v -> Value.okWide P W .any base t v)
   (hW : DataW.Whole enc' P fn.params.toList s.vars false W args.toList ds gs before) : Calls P f args W fun e W' => ∃ v, e = .returned v /\ s.post enc' P fn false true false false W args v W' := by
 have hW' := hW;obtain ⟨p, q, hA, hV, rfl, -, -⟩ := hW;rw [hv] at hV;obtain ⟨rfl, rfl⟩ := ChangeShapes.trodVars_none hV;have hA' := hA;rw [hTs] at hA;have hlen : ds.length = Ts.length := by
   have aux : ∀ (Ts : List TypeId) (vs : List Value) (ds : List (DataW H)) (p : List MemPlace), DataW.TrodAll enc' P W 0 (fun _ => true) true Ts vs ds p -> ds.length = Ts.length := by
     intro Ts;induction Ts with
     | nil => intro vs ds p h; obtain ⟨_, rfl, _⟩ := ChangeShapes.trodAll_nil h; rfl
     | cons T Ts ih =>
       intro vs ds p h;obtain ⟨v, vs', d, ds', p1, q1, rfl, rfl, rfl, h1, h2⟩ := ChangeShapes.trodAll_cons h;simp [ih _ _ _ h2]
   exact aux _ _ _ _ hA
 obtain ⟨d, S, h1, h2, h3⟩ := b1t ht ho ps Ts args.toList ds p hpar hA fun j t v hj hvj => ⟨base, hval j t v (by
   rw [<- hTs] at hj;simpa using hj) (by simpa using hvj)⟩
 obtain ⟨mu, hF⟩ := hpure d h3;have hcall := hS.2 d _ hF W args.toList [] S S h1 (by simp) (by simp);simp only [Array.toArray_toList] at hcall;refine hcall.mono fun e W' hp => ?_;obtain ⟨us, F', S', M', T', rfl, hout, hmut, -, -, -, hold, hbel⟩ := hp;obtain ⟨v, vs', F1, F2, S1, S2, rfl, -, -, ⟨ws, ⟨rfl, -, -⟩, hsh⟩, ⟨rfl, -, -⟩⟩ := hout;have hsh : [Value.bool true] = [v] := by simpa [a0F] using hsh
 simp only [List.cons.injEq, and_true] at hsh;subst hsh;have bel : Below W.heap.size W W' := ⟨hbel.os, hbel.tape, hbel.output, hbel.size, fun b hb => hold b hb (by simp)⟩;have hfn := hs (ds ++ []) (by simpa using hlen);refine ⟨.bool true, rfl, ds, [], p ++ [], [], p, [], hW', ?_, ?_, ?_, bel.frame _, fun h => by cases h⟩
 . rw [hfn, hrt];exact ChangeShapes.trodAll_mk1 (Go.RowKit.shut_bool hub _)
 . rw [hfn, List.append_nil, hTs];exact b3j hl bel Ts args.toList ds p hread hA
 . rw [hfn, hv];rfl
end Go.Vm
end
section
namespace Go.Vm
variable {P : Program}
theorem growOK_of {g : FuncId} {E : TypeId} {t : Ty} {z : Value} (hE : ∃ fn, P.funcs[g]? = some fn /\ fn.body.isNone = false /\ (fn.name == "runtime.NumGoroutine") = false) (hzs : z.cells.size = t.sz)
   (h0 : ∀ w, Calls P g #[.slice none 0 0, .int .i64 ((0 : Nat) : Int)] w fun e w' => e = .returned (.slice none 0 0) /\ w' = w)
   (h1 : ∀ w (n : Nat), 0 < n -> n ≤ 1099511627776 -> Calls P g #[.slice none 0 0, .int .i64 (n : Int)] w fun e w' => ∃ G, n ≤ G /\ G ≤ 9223372036854775807 /\ e = .returned (.slice (some ⟨w.heap.size, 0, none⟩) 0 G) /\ w' = w.drew.alloc (.cells (Builtin.zeroCells z.cells n ++ Builtin.zeroCells z.cells (G - n)) E)) : b1h P (g, t) := by
 refine ⟨hE, fun w n hn => ?_⟩;by_cases hz : n = 0
 . subst hz;refine (h0 w).mono fun e w' ⟨he, hw⟩ => ?_;subst he hw;exact ⟨[.slice none 0 0], [], [], rfl, ⟨_, [], [], [], [], [], rfl, rfl, rfl, ⟨[_], ⟨none, 0, rfl, Nat.le_refl _, .inl ⟨rfl, rfl, rfl, fun _ => rfl⟩⟩, rfl⟩, ⟨rfl, rfl, rfl⟩⟩, by simp, by simp, by simp, fun _ _ => rfl, ⟨rfl, rfl, rfl, Nat.le_refl _, Nat.le_refl _⟩⟩
 . refine (h1 w n (by omega) (by simpa [bigN] using hn)).mono fun e w' ⟨G, hG, hG63, he, hw⟩ => ?_;subst he hw;obtain ⟨Z, hZ⟩ : ∃ Z, Z = Builtin.zeroCells z.cells n ++ Builtin.zeroCells z.cells (G - n) := ⟨_, rfl⟩;have hZs : Z.size = G * t.sz := by
     rw [hZ]; simp only [Array.size_append, Go.size_zeroCells, hzs];rw [<- Nat.add_mul]; congr 1; omega
   rw [<- hZ];have hheap : (w.drew.alloc (.cells Z E)).heap = w.heap.push (.cells Z E) := rfl;refine ⟨[.slice (some ⟨w.heap.size, 0, none⟩) 0 G], [w.heap.size], [], rfl, ⟨_, [], [w.heap.size], [], [], [], rfl, rfl, rfl, ⟨[_], ⟨some ⟨w.heap.size, 0, none⟩, G, rfl, Nat.zero_le _, .inr (.inl ⟨rfl, w.heap.size, Z, E, [], Z.toList, [], rfl, ?_, rfl, ⟨?_, ?_⟩, ⟨rfl, rfl, rfl⟩, rfl⟩)⟩, rfl⟩, ⟨rfl, rfl, rfl⟩⟩, by simp, by simp, by simp, fun b hb => ?_, ⟨rfl, rfl, rfl, ?_, Nat.le_succ _⟩⟩
   . rw [hheap]; simp
   . exact hZs
   . unfold maxLen; omega
   . rw [hheap, Array.getElem?_push]; rw [if_neg (by omega)]
   . rw [hheap]; simp
end Go.Vm
end
section
namespace Go.Vm
open Go.Sort (putRow Holds grow putCells mapBlock onCells)
open Go.Proofs (sortWorld OneCell CmpLays1)
variable {P : Program}
abbrev RowT : Ty := .sl (.int .i64)
structure El where
 x : List Int
 v : Value
 F : List Nat
 S : List Nat
theorem b4j {w : World} : ∀ {xs : List (List Int)} {us : List Value} {F S : List Nat}, RepL (Rep w RowT .deep) xs us F S →
   ∃ l : List El, xs = l.map El.x /\ us = l.map El.v /\ F = l.flatMap El.F /\ S = l.flatMap El.S /\ ∀ e ∈ l, Rep w RowT .deep e.x [e.v] e.F e.S := by
 intro xs;induction xs with
 | nil => rintro us F S ⟨rfl, rfl, rfl⟩; exact ⟨[], rfl, rfl, rfl, rfl, by simp⟩
 | cons x xs ih =>
   rintro us F S ⟨v1, v2, F1, F2, S1, S2, rfl, rfl, rfl, h1, h2⟩;obtain ⟨l, rfl, rfl, rfl, rfl, hl⟩ := ih h2;have hh : ∃ v, v1 = [v] := by obtain ⟨A, c, h, _⟩ := h1; exact ⟨_, h⟩
   obtain ⟨v, rfl⟩ := hh;refine ⟨⟨x, v, F1, S1⟩ :: l, rfl, rfl, rfl, rfl, fun e he => ?_⟩;simp only [List.mem_cons] at he;rcases he with rfl | he
   . exact h1
   . exact hl e he
theorem b4D {w : World} : ∀ (l : List El), (∀ e ∈ l, Rep w RowT .deep e.x [e.v] e.F e.S) -> RepL (Rep w RowT .deep) (l.map El.x) (l.map El.v) (l.flatMap El.F) (l.flatMap El.S)
 | [], _ => ⟨rfl, rfl, rfl⟩
 | e :: l, h => ⟨[e.v], _, e.F, _, e.S, _, rfl, rfl, rfl, h e (by simp), b4D l fun a ha => h a (by simp [ha])⟩
theorem grow_of {W W' : World} (hb : Bel W W') (hs : ∀ b, b < W.heap.size -> W'.heap[b]? = W.heap[b]?) : ∃ q os, W' = grow (W.drewN q) os := by
 refine ⟨W'.drawn - W.drawn, W'.heap.extract W.heap.size W'.heap.size, ?_⟩;obtain ⟨h1, h2, h3, h4, h5⟩ := hb;obtain ⟨hp, tp, dr, o, ou⟩ := W';simp only at h1 h2 h3 h4 h5 hs;subst h1 h2 h3;unfold grow World.drewN;congr 1
 . apply Array.ext_getElem?;intro i;simp only [Array.getElem?_append];split
   . exact hs i (by assumption)
   . rw [Array.getElem?_extract];split
     . congr 1; omega
     . rw [Array.getElem?_eq_none]; omega
 . simp only; omega
section
variable {α : Type} [Inhabited α] {enc : α -> Value} {w : World} {b m : Nat} {dk : Array α} {os : Array Obj}
theorem a9H (hb : b < w.heap.size) : ∀ k, k < w.heap.size -> k ≠ b -> (sortWorld enc w b 0 m dk os).heap[k]? = w.heap[k]? := by
 intro k hk hne;unfold sortWorld grow putRow mapBlock;simp only [Array.getElem?_append, Array.size_modify, Array.getElem?_modify];have h1 : (Sort.ahead w m).heap = w.heap := rfl;rw [h1, if_pos hk, if_neg (Ne.symm hne)]
theorem b2i : w.heap.size ≤ (sortWorld enc w b 0 m dk os).heap.size := by
 unfold sortWorld grow putRow mapBlock;have h1 : (Sort.ahead w m).heap = w.heap := rfl;simp [h1]
theorem b0g : Bel w (sortWorld enc w b 0 m dk os) := ⟨rfl, rfl, rfl, b2i, Nat.le_add_right _ _⟩
theorem b0h {arr : Array Value} {e : TypeId} {us sp : List Value} (hb : w.heap[b]? = some (.cells arr e (0, 0))) (ha : arr.toList = us ++ sp) (hs : dk.size = us.length) :
   ∃ arr', (sortWorld enc w b 0 m dk os).heap[b]? = some (.cells arr' e (0, 0)) /\ arr'.toList = dk.toList.map enc ++ sp := by
 have hlt : b < w.heap.size := by
   rcases Nat.lt_or_ge b w.heap.size with h | h
   . exact h
   . rw [Array.getElem?_eq_none h] at hb; cases hb
 refine ⟨putCells enc 0 dk arr, ?_, ?_⟩
 . unfold sortWorld grow putRow mapBlock;simp only [Array.getElem?_append, Array.size_modify, Array.getElem?_modify];have h1 : (Sort.ahead w m).heap = w.heap := rfl;rw [h1, if_pos hlt, if_pos trivial, hb]; rfl
 . have hsz : arr.size = us.length + sp.length := by rw [<- Array.length_toList, ha, List.length_append]
   apply List.ext_getElem?;intro i;rw [Array.getElem?_toList];simp only [putCells, Array.getElem?_mapIdx];by_cases hi : i < dk.size
   . rw [List.getElem?_append_left (by simpa using hi), Array.getElem?_eq_getElem (by omega)];simp [hi]
   . rw [List.getElem?_append_right (by simp; omega)];have h2 : arr[i]? = sp[i - us.length]? := by rw [<- Array.getElem?_toList, ha, List.getElem?_append_right (by omega)]
     rw [h2];simp only [List.length_map, Array.length_toList, hs];cases sp[i - us.length]? with
     | none => rfl
     | some v => simp; omega
end
abbrev fn2 (t : Ty) : FSig := ⟨[(false, RowT), (false, RowT)], [(.val false, t, .deep)]⟩
section
variable {α : Type} [Inhabited α] {enc : α -> Value} {w : World} {b : Nat} {arr : Array Value} {et : TypeId} {sp : List Value}
structure ElG (w : World) (b : Nat) (e : El) : Prop where
 rep : Rep w RowT .deep e.x [e.v] e.F e.S
 notF : b ∉ e.F
 notS : b ∉ e.S
theorem a9j (hb : w.heap[b]? = some (.cells arr et (0, 0))) {t : Ty} {g : Vals (fn2 t).ins -> Option (Outs (fn2 t).outs)} {f : FuncId} {caps : Array Value} {S2 A2 : List Nat}
   (hfn : ∀ w', a0X w w' S2 -> w.heap.size ≤ w'.heap.size -> ∀ d r vs Sa, g d = some r -> a4c w' (fn2 t).ins d vs Sa -> Calls P f (vs.toArray ++ caps) w' (b2u w' (fn2 t).outs r (Sa ++ A2)))
   (hbS : b ∉ S2) (hSlt : ∀ c ∈ S2, c < w.heap.size) {x y : El} (hx : ElG w b x) (hy : ElG w b y) {r : t.den} (hg : g (x.x, y.x, ()) = some (r, ())) (m : Nat) (dk : Array α) (os : Array Obj) :
   Calls P f (#[x.v, y.v] ++ caps) (sortWorld enc w b 0 m dk os) fun e w' => (∃ v F S, Rep w' t .deep r [v] F S /\ e = .returned v) /\ ∃ q os', w' = grow ((sortWorld enc w b 0 m dk os).drewN q) os' := by
 have hlt : b < w.heap.size := by
   rcases Nat.lt_or_ge b w.heap.size with h | h
   . exact h
   . rw [Array.getElem?_eq_none h] at hb; cases hb
 have hold := fun k hk hne => a9H (enc := enc) (m := m) (dk := dk) (os := os) hlt k hk hne;have row : ∀ z : El, ElG w b z -> ∃ S', Rep (sortWorld enc w b 0 m dk os) RowT .sh z.x [z.v] [] S' := fun z ⟨h1, h2, h3⟩ => by
   obtain ⟨S', h4, -⟩ := a8u _ (a1l _ h1 (w' := sortWorld enc w b 0 m dk os) fun c hc => hold c (a2L _ h1 c (by simpa using hc)) (by rintro rfl; simp only [List.mem_append] at hc; exact hc.elim h2 h3));exact ⟨S', h4⟩
 obtain ⟨S1, h1⟩ := row x hx;obtain ⟨S3, h3⟩ := row y hy;have hc := hfn (sortWorld enc w b 0 m dk os) (fun c hc => hold c (hSlt c hc) (by rintro rfl; exact hbS hc)) b2i (x.x, y.x, ()) (r, ()) [x.v, y.v] (S1 ++ (S3 ++ [])) hg
   ⟨_, _, _, S1, _, rfl, rfl, h1, rfl, ⟨_, _, _, S3, [], rfl, rfl, h3, rfl, rfl, rfl⟩⟩
 refine hc.mono fun e w' hp => ?_;obtain ⟨us, F, S, rfl, hout, -, -, -, hs, hbel⟩ := hp;obtain ⟨v, vs', F1, F2, T1, T2, rfl, -, -, ⟨ws, hr, hsh⟩, ⟨rfl, -, -⟩⟩ := hout;have hsh : ws = [v] := by simpa [a0F] using hsh
 subst hsh;exact ⟨⟨v, F1, T1, hr, rfl⟩, grow_of hbel hs⟩
end
theorem a9v {w : World} {b : Nat} {arr : Array Value} {e : TypeId} {l : List El} {sp : List Value} {c : Nat} (hb : w.heap[b]? = some (.cells arr e (0, 0))) (ha : arr.toList = l.map El.v ++ sp) (hs : arr.size = c) (hm : c ≤ maxLen) (hlen : l.length ≤ c)
   (hl : ∀ e ∈ l, Rep w RowT .deep e.x [e.v] e.F e.S) : Rep w (.sl RowT) .deep (l.map El.x) [.slice (some ⟨b, 0, none⟩) l.length c] (b :: l.flatMap El.F) (l.flatMap El.S) :=
 ⟨_, c, by simp, by simpa using hlen, .inr (.inl ⟨rfl, b, arr, e, l.map El.v, sp, l.flatMap El.F, rfl, hb, ha, ⟨by simpa [Ty.sz] using hs, hm⟩, b4D l hl, rfl⟩)⟩
abbrev encE (l : List El) (i : Fin l.length) : Value := (l.get i).v
section
open Go.Proofs (SW Row1)
variable {α : Type} [Inhabited α] {enc : α -> Value} {w0 W : World} {blk off : Nat} {dk d0 : Array α}
def a9O (P : Program) (g : Nat) (cb : Array Value) (enc : α -> Value) (eq : α -> α -> Bool) (blk off size : Nat) (w : World) : Prop :=
 ∀ (m : Nat) (os : Array Obj) (dk : Array α), dk.size = size -> ∀ x y : α,
   Calls P g (#[enc x, enc y] ++ cb) (sortWorld enc w blk off m dk os) fun e w' => e = .returned (.bool (eq x y)) /\ ∃ q os', w' = grow ((sortWorld enc w blk off m dk os).drewN q) os'
theorem sw_eql {g : Nat} {cb : Array Value} {eq : α -> α -> Bool} {size : Nat} (h : SW enc w0 blk off dk W) (hC : a9O P g cb enc eq blk off size w0) (hs : dk.size = size) (x y : α) (n : Nat) (os : Array Obj) :
   Calls P g (#[enc x, enc y] ++ cb) (grow (W.drewN n) os) fun e w' => e = .returned (.bool (eq x y)) /\ ∃ q os', w' = grow ((grow (W.drewN n) os).drewN q) os' := by
 obtain ⟨m, os0, hw⟩ := h.grown n os;rw [hw];exact hC m os0 dk hs x y
theorem sw_set (h : SW enc w0 blk off dk W) (hblk : blk < w0.heap.size) (i : Nat) (x : α) (hi : i < dk.size) : SW enc w0 blk off (dk.setIfInBounds i x) (W.setCell ⟨blk, off + i, none⟩ (enc x)) := by
 obtain ⟨m, os, rfl⟩ := h;refine ⟨m, os, ?_⟩;unfold sortWorld;rw [<- Go.Sort.putRow_set enc _ blk off dk i x hi, Go.Sort.setCell_eq, Go.Sort.setCell_eq];unfold mapBlock grow;simp only;rw [Go.Sort.modify_append_left _ _ _ _ (by simpa [putRow, mapBlock] using hblk)]
open Go.Lib (lay) in
theorem sw_lay (hblk : blk < w0.heap.size) : ∀ (xs : List α) (dk : Array α) (W : World) (k : Nat), SW enc w0 blk off dk W -> k + xs.length ≤ dk.size -> SW enc w0 blk off (lay dk k xs) (W.setCells blk (off + k) (xs.map enc))
 | [], _, _, _, h, _ => h
 | x :: r, d, W, k, h, hl => by
   have hl' : k + (r.length + 1) ≤ d.size := by simpa using hl
   simp only [List.map_cons, World.setCells, lay];rw [show off + k + 1 = off + (k + 1) by omega];exact sw_lay hblk r _ _ (k + 1) (sw_set h hblk k x (by omega)) (by simp; omega)
end
def a2H (p : List Int) : List (List Int) -> List (List Int)
 | [] => []
 | x :: l => if x = p then a2H x l else x :: a2H x l
def a7P : List (List Int) -> List (List Int)
 | [] => []
 | x :: l => x :: a2H x l
theorem a4H (y : List Int) : ∀ (l : List (List Int)) (p : List Int), a2H p (l ++ [y]) = a2H p l ++ (if y = l.getLastD p then [] else [y])
 | [], p => by simp [a2H]
 | x :: l, p => by
   have := a4H y l x;simp only [List.cons_append, a2H, this, List.getLastD_cons];split <;> simp
theorem b1v (y : List Int) (l : List (List Int)) : a7P (l ++ [y]) = a7P l ++ (if l.getLast? = some y then [] else [y]) := by
 cases l with
 | nil => simp [a7P, a2H]
 | cons x l =>
   simp only [List.cons_append, a7P, a4H];have : (x :: l).getLast? = some (l.getLastD x) := by
     rw [List.getLast?_cons, List.getLastD_eq_getLast?]
   rw [this];by_cases h : y = l.getLastD x
   . rw [if_pos h, if_pos (by rw [h])]
   . rw [if_neg h, if_neg fun h2 => h (Option.some.inj h2).symm]
section
variable {α : Type} [Inhabited α]
open Go.Lib (keptUpTo keptUpTo_succ)
def a5g (cx : α -> List Int) (d : Array α) (j : Nat) : Bool := decide (j = 0 ∨ cx d[j]! ≠ cx d[j - 1]!)
theorem a6f (cx : α -> List Int) (d : Array α) : ∀ m, m ≤ d.size -> (keptUpTo (a5g cx d) d m).map cx = a7P ((d.toList.take m).map cx)
 | 0, _ => rfl
 | m + 1, h => by
   have hlt : m < d.toList.length := by rw [Array.length_toList]; omega
   rw [keptUpTo_succ, List.map_append, a6f cx d m (by omega), List.take_succ_eq_append_getElem hlt, List.map_append, List.map_singleton, b1v];congr 1;have e1 : d.toList[m] = d[m]! := by rw [getElem!_pos d m (by omega)]; simp
   rw [e1];by_cases hm : m = 0
   . subst hm; simp [a5g]
   . have e2 : ((d.toList.take m).map cx).getLast? = some (cx d[m - 1]!) := by
       rw [List.getLast?_eq_getElem?];simp only [List.length_map, List.length_take, Array.length_toList, Nat.min_eq_left (show m ≤ d.size by omega), List.getElem?_map, List.getElem?_take];rw [if_pos (by omega), Array.getElem?_toList, Array.getElem?_eq_getElem (by omega), getElem!_pos d (m - 1) (by omega)]; rfl
     rw [e2];by_cases hk : cx d[m]! = cx d[m - 1]!
     . have hkp : a5g cx d m = false := by simp [a5g, hm, hk]
       rw [hkp, hk]; simp
     . have hkp : a5g cx d m = true := by simp [a5g, hm, hk]
       have hk2 : ¬ some (cx d[m - 1]!) = some (cx d[m]!) := fun h2 => hk (Option.some.inj h2).symm;rw [hkp, if_neg hk2]; simp
theorem b3H (kp : Nat -> Bool) (d : Array α) : (keptUpTo kp d d.size).Sublist d.toList := by
 have h : (keptUpTo kp d d.size).Sublist ((List.range d.size).map (d[·]!)) := (List.filter_sublist).map _
 rwa [Go.Lib.range_map_get] at h
end
end Go.Vm
end
section
namespace Go.Vm
open Go.Sort (SWO PermIn SortedIn)
open Go.Proofs (sortWorld OneCell CmpLays1 ltOf Bears SlLaysF.n6)
open Go.Shelf (Ren)
variable {P : Program} {ρ : Ren}
theorem a3v {f : FuncId} {B : Func} {c : Code} (h : Bears P f B) (hb : B.body = some c) : a5P P f := by
 obtain ⟨nm, hn, hf⟩ := h;exact ⟨_, hf, by show B.body.isNone = false; rw [hb]; rfl, hn⟩
theorem a6d {f : FuncId} (h : a5P P f) : ∀ args w, (callFunc f args).run P w = .ok (.enter f args) w := by
 obtain ⟨fn, h1, h2, h3⟩ := h;cases hb : fn.body with
 | none => rw [hb] at h2; cases h2
 | some c => exact Go.Proofs.enters_of h1 h3 hb
abbrev sortS : Sig := ⟨[.wr false (.sl RowT) .deep, .fnx (fn2 (.int .i64))], []⟩
def b3l (cf : List Int -> List Int -> Int) (xs : List (List Int)) : List (List Int) := xs.mergeSort fun x y => !ltOf cf y x
open Classical in
noncomputable def sortF (cf : List Int -> List Int -> Int) (d : Ins sortS.ps) : Option (Outs sortS.outs × Muts sortS.ps) :=
 if (∀ x ∈ d.1, ∀ y ∈ d.1, d.2.1 (x, y, ()) = some (cf x y, ())) /\ d.1.length < 4611686018427387904 then some ((), (b3l cf d.1, ())) else none
theorem sort_sound (L : SlLaysF.n6 P ρ) {cf : List Int -> List Int -> Int} (hO : SWO (ltOf cf)) (hT : ∀ x y, ltOf cf x y = false -> ltOf cf y x = false -> x = y) : a3x P ⟨ρ.f 6, sortS, sortF cf⟩ := by
 refine ⟨a3v L.f6 rfl, ?_⟩;rintro ⟨xs, g, ⟨⟩⟩ r hF w vs M S A hA hMn hMS;have e0 : b3l cf [] = [] := by simp [b3l]
 simp only [sortF] at hF;split at hF
 next hgn =>
   obtain ⟨hg, hn⟩ := hgn;simp only [Option.some.injEq] at hF;subst hF;obtain ⟨v1, vs1, M1, M2, S1, S2, A1, A2, rfl, rfl, rfl, rfl, ⟨-, rfl, us, hr, hsh⟩, v2, vs2, M3, M4, S3, S4, A3, A4, rfl, rfl, rfl, rfl, ⟨rfl, f, caps, rfl, hfe, hSlt, hAS, hfn⟩, rfl, rfl, rfl, rfl⟩ := hA;have hsh : us = [v1] := by simpa [a0F] using hsh
   subst hsh;have hr0 := hr;obtain ⟨A0, c, hv, hc, hcase⟩ := hr;simp only [List.cons.injEq, and_true] at hv;subst hv;rcases hcase with ⟨rfl, rfl, rfl, hc0⟩ | ⟨-, b, arr, et, us, sp, F', rfl, hb, harr, ⟨hsz, hcm⟩, hrl, rfl⟩ | ⟨ho, -⟩
   . have h0 := Go.Proofs.AnyF.slices_SortFunc_none (P := P) (ρ := ρ) { L with } A0 c (.func (.func f) #[] caps) w;refine h0.mono fun e w' ⟨he, hw⟩ => ?_;subst he hw;exact ⟨[], [], [], [], [], rfl, ⟨rfl, rfl, rfl⟩, ⟨_, _, [], [], [], [], rfl, rfl, rfl, ⟨_, e0.symm ▸ hr0, rfl⟩, ⟨_, _, rfl, rfl, rfl⟩⟩, by simp, by simp, by simp, fun _ _ _ => rfl, Bel.refl _⟩
   . obtain ⟨l, rfl, rfl, rfl, rfl, hl⟩ := b4j hrl;simp only [List.append_nil] at hMn hMS hn;have hbS : b ∉ S3 := fun h => hMS b (by simp) (by simp [h]);have hlF : ∀ e ∈ l, ElG w b e := fun e he => ⟨hl e he, fun h => by
       simp only [List.nodup_cons, List.mem_flatMap, not_exists, not_and] at hMn;exact hMn.1 e he h, fun h => hMS b (by simp) (by simp only [List.mem_append, List.mem_flatMap]; exact .inl ⟨e, he, h⟩)⟩
     simp only [List.length_map] at hn hc ⊢;rcases Nat.eq_zero_or_pos l.length with h0 | hpos
     . have hl0 : l = [] := List.length_eq_zero_iff.1 h0;subst hl0;have h0 := Go.Proofs.AnyF.slices_SortFunc_none (P := P) (ρ := ρ) { L with } (some ⟨b, 0, none⟩) c (.func (.func f) #[] caps) w;refine h0.mono fun e w' ⟨he, hw⟩ => ?_;subst he hw;exact ⟨[], [], [], [b], [], rfl, ⟨rfl, rfl, rfl⟩, ⟨_, _, [b], [], [], [], rfl, rfl, rfl, ⟨_, e0.symm ▸ hr0, rfl⟩, ⟨_, _, rfl, rfl, rfl⟩⟩, by simp, by simp, by simp, fun _ _ _ => rfl, Bel.refl _⟩
     . haveI : Inhabited (Fin l.length) := ⟨⟨0, hpos⟩⟩
       have hblt : b < w.heap.size := by
         rcases Nat.lt_or_ge b w.heap.size with h | h
         . exact h
         . rw [Array.getElem?_eq_none h] at hb; cases hb
       obtain ⟨d, hd⟩ : ∃ d : Array (Fin l.length), d = (List.finRange l.length).toArray := ⟨_, rfl⟩;have hds : d.size = l.length := by rw [hd]; simp
       have hdg : ∀ j (hj : j < l.length), d[j]! = ⟨j, hj⟩ := fun j hj => by
         rw [getElem!_pos d j (by omega)]; subst hd; simp
       have hH : Go.Sort.Holds (encE l) w b 0 d := fun j hj => by
         have hj' : j < l.length := by omega
         have h1 := a0T hb harr j (l.get ⟨j, hj'⟩).v (by simp [hj']);have h2 : (⟨b, 0, none⟩ : Addr).add j = ⟨b, 0 + j, none⟩ := by unfold Addr.add; split <;> simp_all
         rw [h2] at h1;refine ⟨by rw [h1, hdg j hj'], ?_⟩;unfold World.frozen?;simp [hb]
       have hcmp : CmpLays1 P f caps (encE l) (fun i j => cf (l.get i).x (l.get j).x) b 0 d.size w := fun m os dk _ i j => by
         refine (a9j hb hfn hbS hSlt (hlF _ (List.get_mem l i)) (hlF _ (List.get_mem l j)) (hg _ (List.mem_map_of_mem (List.get_mem l i)) _ (List.mem_map_of_mem (List.get_mem l j))) m dk os).mono fun e w' ⟨⟨v, F, S, ⟨hv, _, _⟩, he⟩, h⟩ => ⟨?_, h⟩;simp only [List.cons.injEq, and_true] at hv;rw [he, hv]
       have hO' : SWO (ltOf fun i j : Fin l.length => cf (l.get i).x (l.get j).x) := ⟨fun i => hO.irrefl _, fun i j k => hO.trans _ _ _, fun i j k => hO.ntrans _ _ _⟩;have hmain := Go.Proofs.Any.slices_SortFunc L (encE l) (fun i => by
         obtain ⟨A, c, h, -⟩ := hl (l.get i) (List.get_mem l i);simp only [List.cons.injEq, and_true] at h;show (l.get i).v.oneCell' = true;rw [h]; rfl) (fun i j => cf (l.get i).x (l.get j).x) hO' f caps b 0 c d w (a6d hfe) hcmp hH hblt (by omega)
       rw [hds] at hmain;refine hmain.mono fun e w' ⟨he, d', n, os, hp, hsd, hw⟩ => ?_;subst he;obtain ⟨hpz, -, hperm⟩ := hp;have ex : ∀ (a : Array (Fin l.length)) (m : Nat), m = a.size -> a.extract 0 m = a := by rintro a m rfl; exact Array.extract_size
       have e1 := ex d' l.length (by omega);have e2 := ex d l.length (by omega);rw [e1, e2] at hperm;have hdl : d.toList.map l.get = l := by
         rw [hd];apply List.ext_getElem
         . simp
         . intro i h1 h2; simp
       have hpl : (d'.toList.map l.get).Perm l := by
         have := hperm.map l.get
         rwa [hdl] at this
       obtain ⟨l', hl'⟩ : ∃ l', l' = d'.toList.map l.get := ⟨_, rfl⟩;rw [<- hl'] at hpl;obtain ⟨arr', hb', ha'⟩ := b0h (enc := encE l) (m := n) (dk := d') (os := os) hb harr (by simp; omega);rw [<- hw] at hb';have hv' : d'.toList.map (encE l) = l'.map El.v := by rw [hl', List.map_map]; exact List.map_congr_left fun a _ => rfl
       rw [hv'] at ha';have hll : l'.length = l.length := hpl.length_eq;have hsame : ∀ k, k < w.heap.size -> k ≠ b -> w'.heap[k]? = w.heap[k]? := fun k hk hne => by rw [hw]; exact a9H hblt k hk hne
       have hrep : Rep w' (.sl RowT) .deep (l'.map El.x) [.slice (some ⟨b, 0, none⟩) l'.length c] (b :: l'.flatMap El.F) (l'.flatMap El.S) := by
         refine a9v hb' ha' ?_ hcm (by omega) fun e he => ?_
         . have := congrArg List.length ha';have h2 := congrArg List.length harr;simp only [Array.length_toList, List.length_append, List.length_map, Ty.sz, Nat.mul_one] at this h2 hsz;omega
         . obtain ⟨h1, h2, h3⟩ := hlF e (hpl.mem_iff.1 he);refine a1l _ h1 fun k hk => hsame k (a2L _ h1 k (by simpa using hk)) ?_;rintro rfl;simp only [List.mem_append] at hk;exact hk.elim h2 h3
       have hsort : l'.map El.x = b3l cf (l.map El.x) := by
         refine List.Perm.eq_of_pairwise (le := fun x y => (!ltOf cf y x) = true) ?_ ?_ ?_ ((hpl.map El.x).trans (List.mergeSort_perm _ _).symm)
         . intro x y _ _ h1 h2;simp only [Bool.not_eq_true'] at h1 h2;exact hT x y h2 h1
         . rw [hl', List.map_map, List.pairwise_map, List.pairwise_iff_getElem];intro i j hi hj hij;have hi' : i < d'.size := by simpa using hi
           have hj' : j < d'.size := by simpa using hj
           have := hsd i j (Nat.zero_le _) hij (by omega);rw [getElem!_pos d' j hj', getElem!_pos d' i hi'] at this;simp only [Array.getElem_toList, Function.comp_apply, Bool.not_eq_true'];exact this
         . refine List.pairwise_mergeSort ?_ ?_ _
           . intro x y z h1 h2;simp only [Bool.not_eq_true'] at h1 h2 ⊢;exact hO.ntrans _ _ _ h2 h1
           . intro x y;cases h : ltOf cf y x with
             | false => rfl
             | true =>
               cases h2 : ltOf cf x y with
               | false => rfl
               | true => have := hO.irrefl x; rw [hO.trans _ _ _ h2 h] at this; cases this
       rw [hsort, hll] at hrep;have hFp : (l'.flatMap El.F).Perm (l.flatMap El.F) := hpl.flatMap_right El.F;have hSp : (l'.flatMap El.S).Perm (l.flatMap El.S) := hpl.flatMap_right El.S;refine ⟨[], [], [], b :: l'.flatMap El.F, l'.flatMap El.S, rfl, ⟨rfl, rfl, rfl⟩, ⟨_, _, b :: l'.flatMap El.F, [], l'.flatMap El.S, [], rfl, by simp, by simp, ⟨_, hrep, rfl⟩, ⟨_, _, rfl, rfl, rfl⟩⟩, ?_, ?_, ?_, ?_, ?_⟩
       . exact ((hFp.cons b).nodup_iff).2 hMn
       . intro k hk;simp only [List.nil_append, List.mem_cons, hFp.mem_iff] at hk;exact .inr (by simpa using hk)
       . intro k hk;simp only [List.nil_append, hSp.mem_iff] at hk;refine ⟨fun h => ?_, fun _ => .inl (by simp [hk])⟩;simp only [List.nil_append, List.mem_cons, hFp.mem_iff] at h;exact hMS k (by simpa using h) (by simp [hk])
       . intro k hk hkM;exact hsame k hk (by rintro rfl; exact hkM (by simp))
       . rw [hw]; exact b0g
   . cases ho
 next => cases hF
end Go.Vm
end
section
namespace Go.Vm
open Go.Proofs (sortWorld OneCell SW)
open Go.Sort (Holds)
open Go.Lib (keptUpTo)
variable {P : Program}
abbrev compS : Sig := ⟨[.tk false (.sl RowT) .deep, .fnx (fn2 .bool)], [(.val false, .sl RowT, .deep)]⟩
open Classical in
noncomputable def compF (d : Ins compS.ps) : Option (Outs compS.outs × Muts compS.ps) :=
 if (∀ x ∈ ([] : List Int) :: d.1, ∀ y ∈ ([] : List Int) :: d.1, d.2.1 (x, y, ()) = some (decide (x = y), ())) /\ d.1.length < 4611686018427387904 then some ((a7P d.1, ()), ()) else none
def CompOK (P : Program) (f : FuncId) : Prop := a5P P f /\ (∀ p cap fv w, Calls P f #[.slice p 0 cap, fv] w fun e w' => e = .returned (.slice p 0 cap) /\ w' = w) ∧
 ∀ {α : Type} [Inhabited α] (enc : α -> Value) (hO : OneCell enc) (eq : α -> α -> Bool) (zr : α) (hz : enc zr = .slice none 0 0) (g : Nat) (cb : Array Value) (eg : ∀ args w, (callFunc g args).run P w = .ok (.enter g args) w)
   (blk off cap : Nat) (d : Array α) (w : World) (hcmp : a9O P g cb enc eq blk off d.size w) (hH : Holds enc w blk off d) (hblk : blk < w.heap.size) (hsz : d.size < 4611686018427387904) (hcap : d.size ≤ cap) (kp : Nat -> Bool) (hkp0 : kp 0 = true) (hkp : ∀ j, 0 < j -> kp j = !(eq d[j]! d[j - 1]!)),
   Calls P f #[.slice (some ⟨blk, off, none⟩) d.size cap, .func (.func g) #[] cb] w fun e w' => e = .returned (.slice (some ⟨blk, off, none⟩) (keptUpTo kp d d.size).length cap) /\ SW enc w blk off (keptUpTo kp d d.size ++ List.replicate (d.size - (keptUpTo kp d d.size).length) zr).toArray w'
theorem b0M {α β : Type} (f : α -> List β) {l l' : List α} (h : l'.Sublist l) : (l'.flatMap f).Sublist (l.flatMap f) := by
 induction h with
 | slnil => exact List.Sublist.refl _
 | cons a _ ih => rw [List.flatMap_cons]; exact ih.trans (List.sublist_append_right _ _)
 | cons_cons a _ ih => rw [List.flatMap_cons, List.flatMap_cons]; exact (List.Sublist.refl _).append ih
theorem comp_sound {f0 : FuncId} (hW : CompOK P f0) : a3x P ⟨f0, compS, compF⟩ := by
 obtain ⟨hE, hnone, hwalk⟩ := hW;refine ⟨hE, ?_⟩;rintro ⟨xs, g, ⟨⟩⟩ r hF w vs M S A hA hMn hMS;have e0 : a7P [] = [] := rfl;simp only [compF] at hF;split at hF
 next hgn =>
   obtain ⟨hg, hn⟩ := hgn;simp only [Option.some.injEq] at hF;subst hF;obtain ⟨v1, vs1, M1, M2, S1, S2, A1, A2, rfl, rfl, rfl, rfl, ⟨rfl, us, hr, hsh⟩, v2, vs2, M3, M4, S3, S4, A3, A4, rfl, rfl, rfl, rfl, ⟨rfl, f, caps, rfl, hfe, hSlt, hAS, hfn⟩, rfl, rfl, rfl, rfl⟩ := hA;have hsh : us = [v1] := by simpa [a0F] using hsh
   subst hsh;have hr0 := hr;obtain ⟨A0, c, hv, hc, hcase⟩ := hr;simp only [List.cons.injEq, and_true] at hv;subst hv;rcases hcase with ⟨rfl, rfl, rfl, hc0⟩ | ⟨-, b, arr, et, us, sp, F', rfl, hb, harr, ⟨hsz, hcm⟩, hrl, rfl⟩ | ⟨ho, -⟩
   . refine (hnone A0 c (.func (.func f) #[] caps) w).mono fun e w' ⟨he, hw⟩ => ?_;subst he hw;exact ⟨[_], [], [], [], [], rfl, ⟨_, [], [], [], [], [], rfl, rfl, rfl, ⟨_, e0.symm ▸ hr0, rfl⟩, rfl, rfl, rfl⟩, ⟨_, _, rfl, ⟨_, _, rfl, rfl, rfl⟩⟩, by simp, by simp, by simp, fun _ _ _ => rfl, Bel.refl _⟩
   . obtain ⟨l, rfl, rfl, rfl, rfl, hl⟩ := b4j hrl;simp only [List.append_nil] at hMn hMS hn;have hbS : b ∉ S3 := fun h => hMS b (by simp) (by simp [h]);have hlF : ∀ e ∈ l, ElG w b e /\ e.x ∈ ([] : List Int) :: l.map El.x := fun e he => ⟨⟨hl e he, fun h => by
       simp only [List.nodup_cons, List.mem_flatMap, not_exists, not_and] at hMn;exact hMn.1 e he h, fun h => hMS b (by simp) (by simp only [List.mem_append, List.mem_flatMap]; exact .inl ⟨e, he, h⟩)⟩, by simp only [List.mem_cons, List.mem_map]; exact .inr ⟨e, he, rfl⟩⟩
     simp only [List.length_map] at hn hc ⊢;have hblt : b < w.heap.size := by
       rcases Nat.lt_or_ge b w.heap.size with h | h
       . exact h
       . rw [Array.getElem?_eq_none h] at hb; cases hb
     obtain ⟨Q, hQ⟩ : ∃ Q : El -> Prop, ∀ e, Q e ↔ ElG w b e /\ e.x ∈ ([] : List Int) :: l.map El.x := ⟨_, fun _ => Iff.rfl⟩;have hlQ : ∀ e ∈ l, Q e := fun e he => (hQ e).2 (hlF e he);obtain ⟨zr, hzr⟩ : ∃ z : {e : El // Q e}, z.1 = ⟨[], .slice none 0 0, [], []⟩ := ⟨⟨⟨[], .slice none 0 0, [], []⟩, (hQ _).2 ⟨⟨⟨none, 0, rfl, Nat.le_refl _, .inl ⟨rfl, rfl, rfl, fun _ => rfl⟩⟩, by simp, by simp⟩, by simp⟩⟩, rfl⟩
     haveI : Inhabited {e : El // Q e} := ⟨zr⟩
     obtain ⟨d, hd⟩ : ∃ d : Array {e : El // Q e}, d = (l.attachWith _ hlQ).toArray := ⟨_, rfl⟩;have hdl : d.toList.map (·.1) = l := by rw [hd]; simp
     have hds : d.size = l.length := by rw [hd]; simp
     obtain ⟨enc, henc⟩ : ∃ enc : {e : El // Q e} -> Value, enc = fun a => a.1.v := ⟨_, rfl⟩;have hdv : d.toList.map enc = l.map El.v := by rw [henc, <- hdl, List.map_map]; rfl
     have hdx : d.toList.map (fun a => a.1.x) = l.map El.x := by
       conv => rhs; rw [<- hdl]
       rw [List.map_map]; rfl
     have hH : Go.Sort.Holds enc w b 0 d := fun j hj => by
       have h1 := a0T hb harr j (enc d[j]!) (by rw [<- hdv, getElem!_pos d j hj]; simp [hj]);have h2 : (⟨b, 0, none⟩ : Addr).add j = ⟨b, 0 + j, none⟩ := by unfold Addr.add; split <;> simp_all
       rw [h2] at h1;refine ⟨h1, ?_⟩;unfold World.frozen?;simp [hb]
     have hcmp : a9O P f caps enc (fun x y => decide (x.1.x = y.1.x)) b 0 d.size w := fun m os dk _ i j => by
       have h := a9j (enc := enc) hb hfn hbS hSlt ((hQ _).1 i.2).1 ((hQ _).1 j.2).1 (hg _ ((hQ _).1 i.2).2 _ ((hQ _).1 j.2).2) m dk os;rw [henc] at h ⊢;refine h.mono fun e w' ⟨⟨v, F, S, ⟨hv, _, _⟩, he⟩, h⟩ => ⟨?_, h⟩;simp only [List.cons.injEq, and_true] at hv;rw [he, hv]
     have hmain := hwalk enc (fun i => by
       obtain ⟨A, c, h, -⟩ := ((hQ _).1 i.2).1.rep;simp only [List.cons.injEq, and_true] at h;rw [henc];show i.1.v.oneCell' = true;rw [h]; rfl) (fun x y => decide (x.1.x = y.1.x)) zr (by rw [henc]; show zr.1.v = _; rw [hzr]) f caps (a6d hfe) b 0 c d w hcmp hH hblt (by omega) (by omega) (a5g (fun a => a.1.x) d) (by simp [a5g]) (fun j hj => by
         have : j ≠ 0 := by omega
         simp [a5g, this])
     rw [hds] at hmain;refine hmain.mono fun e w' ⟨he, n, os, hw⟩ => ?_;subst he;obtain ⟨K, hK⟩ : ∃ K, K = keptUpTo (a5g (fun a : {e : El // Q e} => a.1.x) d) d d.size := ⟨_, rfl⟩;have hK' : keptUpTo (a5g (fun a : {e : El // Q e} => a.1.x) d) d l.length = K := by rw [hK, hds]
     rw [hK'] at hw ⊢;have hKs : K.Sublist d.toList := by rw [hK]; exact b3H _ d
     have hKx : K.map (fun a => a.1.x) = a7P (l.map El.x) := by
       rw [hK, a6f (fun a : {e : El // Q e} => a.1.x) d d.size (Nat.le_refl _), <- hdx, List.take_of_length_le (by simp)]
     obtain ⟨l', hl'⟩ : ∃ l', l' = K.map (·.1) := ⟨_, rfl⟩;have hls : l'.Sublist l := by rw [hl', <- hdl]; exact hKs.map _
     have hll : l'.length = K.length := by rw [hl']; simp
     have hlle : l'.length ≤ l.length := hls.length_le;obtain ⟨arr', hb', ha'⟩ := b0h (enc := enc) (m := n) (dk := (K ++ List.replicate (l.length - K.length) zr).toArray) (os := os) hb harr (by simp; omega);rw [<- hw] at hb';have hv' : K.map enc = l'.map El.v := by rw [hl', henc, List.map_map]; rfl
     simp only [List.map_append, hv', List.append_assoc] at ha';have hsame : ∀ k, k < w.heap.size -> k ≠ b -> w'.heap[k]? = w.heap[k]? := fun k hk hne => by rw [hw]; exact a9H hblt k hk hne
     have hrep : Rep w' (.sl RowT) .deep (l'.map El.x) [.slice (some ⟨b, 0, none⟩) l'.length c] (b :: l'.flatMap El.F) (l'.flatMap El.S) := by
       refine a9v hb' ha' ?_ hcm (by omega) fun e he => ?_
       . have := congrArg List.length ha';have h2 := congrArg List.length harr;simp only [Array.length_toList, List.length_append, List.length_map, List.length_replicate, Ty.sz, Nat.mul_one] at this h2 hsz;omega
       . obtain ⟨⟨h1, h2, h3⟩, -⟩ := hlF e (hls.subset he);refine a1l _ h1 fun k hk => hsame k (a2L _ h1 k (by simpa using hk)) ?_;rintro rfl;simp only [List.mem_append] at hk;exact hk.elim h2 h3
     have hx' : l'.map El.x = a7P (l.map El.x) := by rw [<- hKx, hl', List.map_map]; rfl
     rw [hx', hll] at hrep;have hFs := b0M El.F hls;have hSs := b0M El.S hls;refine ⟨[_], b :: l'.flatMap El.F, l'.flatMap El.S, [], [], rfl, ⟨_, [], b :: l'.flatMap El.F, [], l'.flatMap El.S, [], rfl, by simp, by simp, ⟨_, hrep, rfl⟩, rfl, rfl, rfl⟩, ⟨_, _, rfl, ⟨_, _, rfl, rfl, rfl⟩⟩, ?_, ?_, ?_, ?_, ?_⟩
     . simp only [List.append_nil];exact (hFs.cons_cons b).nodup hMn
     . intro k hk;simp only [List.append_nil] at hk;exact .inr (by simpa using (hFs.cons_cons b).subset hk)
     . intro k hk;simp only [List.append_nil] at hk ⊢;refine ⟨fun h => ?_, fun _ => .inl (by simp [hSs.subset hk])⟩;exact hMS k (by simpa using (hFs.cons_cons b).subset h) (by simp [hSs.subset hk])
     . intro k hk hkM;exact hsame k hk (by rintro rfl; exact hkM (by simp))
     . rw [hw]; exact b0g
   . cases ho
 next => cases hF
end Go.Vm
end
section
namespace Go.Vm
open Go.Sort (SWO)
open Go.Proofs (ltOf)
def ordL : List Int -> List Int -> Int
 | [], [] => 0
 | [], _ :: _ => -1
 | _ :: _, [] => 1
 | a :: x, b :: y => if a < b then -1 else if b < a then 1 else ordL x y
def ordS (x y : List Int) : Int := if x.length < y.length then -1 else if y.length < x.length then 1 else ordL x y
theorem b0Y : ∀ x y, ordL x y < 0 ↔ 0 < ordL y x
 | [], [] => by simp [ordL]
 | [], _ :: _ => by simp [ordL]
 | _ :: _, [] => by simp [ordL]
 | a :: x, b :: y => by
   simp only [ordL];have := b0Y x y;split <;> (try split) <;> (try split) <;> omega
theorem a8Y : ∀ x y, ordL x y = 0 -> x = y
 | [], [], _ => rfl
 | [], _ :: _, h => by simp [ordL] at h
 | _ :: _, [], h => by simp [ordL] at h
 | a :: x, b :: y, h => by
   simp only [ordL] at h;split at h
   . omega
   . split at h
     . omega
     . rw [a8Y x y h, show a = b by omega]
theorem a6s : ∀ x y z, ordL x y < 0 -> ordL y z < 0 -> ordL x z < 0
 | [], [], _, h, _ => by simp [ordL] at h
 | [], _ :: _, [], _, h => by simp [ordL] at h
 | [], _ :: _, _ :: _, _, _ => by simp [ordL]
 | _ :: _, [], _, h, _ => by simp [ordL] at h
 | _ :: _, _ :: _, [], _, h => by simp [ordL] at h
 | a :: x, b :: y, c :: z, h1, h2 => by
   simp only [ordL] at *;have := a6s x y z;split at h1
   . split at h2
     . rw [if_pos (by omega)]; omega
     . split at h2
       . omega
       . rw [if_pos (by omega)]; omega
   . split at h1
     . omega
     . split at h2
       . rw [if_pos (by omega)]; omega
       . split at h2
         . omega
         . rw [if_neg (by omega), if_neg (by omega)]; exact this h1 h2
theorem a5I (x y : List Int) : ordS x y < 0 ↔ 0 < ordS y x := by
 have := b0Y x y;unfold ordS;split <;> (try split) <;> (try split) <;> omega
theorem a8Z (x y : List Int) (h : ordS x y = 0) : x = y := by
 unfold ordS at h;split at h
 . omega
 . split at h
   . omega
   . exact a8Y x y h
theorem a6t (x y z : List Int) (h1 : ordS x y < 0) (h2 : ordS y z < 0) : ordS x z < 0 := by
 have := a6s x y z;unfold ordS at *;split at h1
 . rw [if_pos]
   . omega
   . split at h2
     . omega
     . split at h2 <;> omega
 . split at h1
   . omega
   . split at h2
     . rw [if_pos (by omega)]; omega
     . split at h2
       . omega
       . rw [if_neg (by omega), if_neg (by omega)]; exact this h1 h2
theorem ordS_swo : SWO (ltOf ordS) := by
 have hn : ∀ x y : List Int, ltOf ordS x y = true ↔ ordS x y < 0 := fun x y => by simp [ltOf]
 have hf : ∀ x y : List Int, ltOf ordS x y = false ↔ ¬ ordS x y < 0 := fun x y => by simp [ltOf]
 refine ⟨fun x => ?_, fun x y z => ?_, fun x y z => ?_⟩
 . rw [hf]; have := a5I x x; omega
 . rw [hn, hn, hn]; exact a6t x y z
 . rw [hf, hf, hf];intro h1 h2 h3;rcases Int.lt_trichotomy (ordS y x) 0 with h | h | h
   . have := a6t y x z h h3;exact h2 this
   . have := a8Z y x h; subst this; exact h2 h3
   . exact h1 ((a5I x y).2 h)
theorem ordS_tot (x y : List Int) (h1 : ltOf ordS x y = false) (h2 : ltOf ordS y x = false) : x = y := by
 simp only [ltOf, decide_eq_false_iff_not] at h1 h2;have := a5I x y;have := a5I y x;exact a8Z x y (by omega)
end Go.Vm
end
