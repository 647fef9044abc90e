/- What a machine on values does is what the program does. -/
import Derived.Carry
import Derived.ChangeArms
import Derived.ChangeOld
import Derived.ChangeShapes
import Derived.ChangeSlices
import Derived.KernelRfl
import Derived.Laws.AppendOwn
import Derived.Lib.AppendZeros
import Derived.SizedLaws
import Derived.Test.YtnfpapicmhhlnaaGreatVm3
set_option linter.unusedSimpArgs false
set_option linter.unusedVariables false
section
namespace Go.Vm
variable {P : Program}
def a2d : List (Nat × TInfo) -> Tab
 | [], _ => none
 | p :: l, T => match Nat.decEq p.1 T with
   | .isTrue _ => some p.2
   | .isFalse _ => a2d l T
def val1 : Value -> Value -> Bool
 | .int k n, .int k' n' => (match decEq k k' with
   | .isTrue _ => true
   | .isFalse _ => false) && (match Int.decEq n n' with
   | .isTrue _ => true
   | .isFalse _ => false)
 | .bool a, .bool b => a == b
 | .slice none 0 0, .slice none 0 0 => true
 | .nilFunc, .nilFunc => true
 | _, _ => false
def b4N : List Value -> List Value -> Bool
 | [], [] => true
 | x :: xs, y :: ys => val1 x y && b4N xs ys
 | _, _ => false
def zeroB : Option Value -> Value -> Bool
 | some (.agg xs), .agg ys => b4N xs.toList ys.toList
 | some x, y => val1 x y
 | none, _ => false
def aggB : TypeDesc -> Bool
 | .struct _ => true
 | .array _ _ => true
 | _ => false
def a5x (P : Program) : List (Nat × Nat × Bool) -> List Field -> Bool
 | [], [] => true
 | (off, sz, ag) :: l, f :: fs => Nat.beq f.offset off && (match P.info? f.type with
     | some inf => Nat.beq inf.size sz
     | none => false) && Nat.blt 0 sz && (match P.underlying f.type with
     | some d => aggB d == ag
     | none => false) && a5x P l fs
 | _, _ => false
def tyB : Ty -> Ty -> Bool
 | .int k, .int k' => match decEq k k' with
   | .isTrue _ => true
   | .isFalse _ => false
 | .bool, .bool => true
 | .pair a b, .pair c d => tyB a c && tyB b d
 | .sl a, .sl b => tyB a b
 | _, _ => false
def a8e (P : Program) (tab : Tab) (i : TInfo) (d : TypeDesc) : Bool := match i.agg with
 | true => match d with
   | .struct fields => a5x P i.fs fields.toList
   | _ => false
 | false => (match i.fs with
   | [] => true
   | _ => false) && match i.t, d with
   | .sl t, .slice e => Nat.beq e i.elem && (match tab e with
     | some j => tyB j.t t
     | none => false)
   | .int k, .int k' => (match decEq k k' with
     | .isTrue _ => true
     | .isFalse _ => false)
   | .bool, .bool => true
   | .any, .func .. => true
   | _, _ => false
def rowB (P : Program) (tab : Tab) (p : Nat × TInfo) : Bool := match P.info? p.1, P.underlying p.1 with
 | some inf, some d => Nat.beq inf.size p.2.t.sz && Nat.blt 0 inf.bytes && Nat.ble inf.bytes 256 && zeroB inf.zero (a6Y p.2) && (p.2.agg || Nat.beq p.2.t.sz 1) && (aggB d == p.2.agg) && a8e P tab p.2 d
 | _, _ => false
def tabB (P : Program) (l : List (Nat × TInfo)) : Bool := allB (rowB P (a2d l)) l
theorem a9h : ∀ {l : List (Nat × TInfo)} {T : Nat} {i : TInfo}, a2d l T = some i -> (T, i) ∈ l := by
 intro l;induction l with
 | nil => intro T i h; cases h
 | cons p l ih =>
   intro T i h;simp only [a2d] at h;split at h
   . rename_i he _;obtain rfl := Option.some.inj h;subst he;simp
   . simp [ih h]
theorem b3K {x y : Value} (h : val1 x y = true) : x = y := by
 unfold val1 at h;split at h
 . rename_i k n k' n';simp only [Bool.and_eq_true] at h;obtain ⟨h1, h2⟩ := h;split at h1
   . rename_i he _; split at h2
     . rename_i hf _; rw [he, hf]
     . cases h2
   . cases h1
 . rename_i a b; simp only [beq_iff_eq] at h; rw [h]
 . rfl
 . rfl
 . cases h
theorem b4O : ∀ {xs ys : List Value}, b4N xs ys = true -> xs = ys := by
 intro xs;induction xs with
 | nil => intro ys h; cases ys with
   | nil => rfl
   | cons y ys => cases h
 | cons x xs ih =>
   intro ys h;cases ys with
   | nil => cases h
   | cons y ys =>
     simp only [b4N, Bool.and_eq_true] at h;rw [b3K h.1, ih h.2]
theorem b4P {x : Option Value} {y : Value} (h : zeroB x y = true) : x = some y := by
 unfold zeroB at h;split at h
 . rename_i xs ys; rw [show xs = ys from Array.ext' (b4O h)]
 . rw [b3K h]
 . cases h
theorem b3H : ∀ {s t : Ty}, tyB s t = true -> s = t := by
 intro s;induction s with
 | int k =>
   intro t h;cases t with
   | int k' =>
     simp only [tyB] at h;split at h
     . rename_i he _; rw [he]
     . cases h
   | _ => cases h
 | bool => intro t h; cases t <;> first | rfl | cases h
 | any => intro t h; cases t <;> cases h
 | pair a b iha ihb =>
   intro t h;cases t with
   | pair c d =>
     simp only [tyB, Bool.and_eq_true] at h;rw [iha h.1, ihb h.2]
   | _ => cases h
 | sl a ih =>
   intro t h;cases t with
   | sl b => rw [ih h]
   | _ => cases h
theorem b0k : ∀ {l : List (Nat × Nat × Bool)} {fs : List Field}, a5x P l fs = true -> ∀ (f : Nat) (off sz : Nat) (ag : Bool), l[f]? = some (off, sz, ag) →
   ∃ (fd : Field) (d : TypeDesc), fs[f]? = some fd /\ fd.offset = off /\ (∃ inf, P.info? fd.type = some inf /\ inf.size = sz) /\ sz ≠ 0 /\ P.underlying fd.type = some d /\ aggB d = ag := by
 intro l;induction l with
 | nil => intro fs _ f off sz ag h; simp at h
 | cons p l ih =>
   intro fs h f off sz ag hf;obtain ⟨o, s, g⟩ := p;cases fs with
   | nil => cases h
   | cons fd fs =>
     simp only [a5x, Bool.and_eq_true] at h;obtain ⟨⟨⟨⟨h1, h2⟩, h3⟩, h4⟩, h5⟩ := h;cases f with
     | succ f => exact ih h5 f off sz ag (by simpa using hf)
     | zero =>
       simp only [List.getElem?_cons_zero, Option.some.injEq, Prod.mk.injEq] at hf;obtain ⟨rfl, rfl, rfl⟩ := hf;split at h2
       . rename_i inf hinf;split at h4
         . rename_i d hd;refine ⟨fd, d, rfl, Nat.eq_of_beq_eq_true h1, ⟨inf, hinf, Nat.eq_of_beq_eq_true h2⟩, ?_, hd, by simpa using h4⟩;have := Nat.le_of_ble_eq_true h3;omega
         . cases h4
       . cases h2
theorem b0A : ∀ {l : List (Nat × Nat × Bool)} {fs : List Field}, a5x P l fs = true -> fs.length = l.length := by
 intro l;induction l with
 | nil => intro fs h; cases fs with
   | nil => rfl
   | cons f fs => cases h
 | cons p l ih =>
   intro fs h;obtain ⟨o, s, g⟩ := p;cases fs with
   | nil => cases h
   | cons fd fs =>
     simp only [a5x, Bool.and_eq_true] at h;simp [ih h.2]
theorem tab_ok {l : List (Nat × TInfo)} (h : tabB P l = true) : TabOK P (a2d l) := by
 have base : ∀ T i, a2d l T = some i -> ∃ inf d, P.info? T = some inf /\ P.underlying T = some d /\ inf.size = i.t.sz /\ 0 < inf.bytes /\ inf.bytes ≤ 256 /\ inf.zero = some (a6Y i) /\ (i.agg = false -> i.t.sz = 1) /\ aggB d = i.agg /\ a8e P (a2d l) i d = true := by
   intro T i hi;have := a0G h (T, i) (a9h hi);unfold rowB at this;split at this
   . rename_i inf d h1 h2;simp only [Bool.and_eq_true] at this;obtain ⟨⟨⟨⟨⟨⟨k1, k2⟩, k3⟩, k4⟩, k5⟩, k6⟩, k7⟩ := this;refine ⟨inf, d, h1, h2, Nat.eq_of_beq_eq_true k1, Nat.le_of_ble_eq_true k2, Nat.le_of_ble_eq_true k3, b4P k4, fun ha => ?_, by simpa using k6, k7⟩;rw [ha] at k5;exact Nat.eq_of_beq_eq_true (by simpa using k5)
   . cases this
 refine ⟨fun T i hi => ?_, fun T i hi ha => ?_, fun T i hi => ?_, fun T t e fs hi => ?_, fun T i f off sz ag hi hf => ?_, fun T i hi hne => ?_, fun T i hi ht ha => ?_, fun T k e fs hi => ?_, fun T e fs hi => ?_⟩
 . obtain ⟨inf, d, h1, _, h3, h4, h5, h6, _⟩ := base T i hi;exact ⟨inf, h1, h3, h4, h5, h6⟩
 . obtain ⟨inf, d, _, _, _, _, _, _, h7, _⟩ := base T i hi;exact h7 ha
 . obtain ⟨inf, d, _, h2, _, _, _, _, _, h8, _⟩ := base T i hi;exact ⟨d, h2, by rw [<- h8]; cases d <;> rfl⟩
 . obtain ⟨inf, d, _, h2, _, _, _, _, _, h8, h9⟩ := base T _ hi;simp only [a8e, Bool.and_eq_true] at h9;obtain ⟨-, h9⟩ := h9;cases d with
   | slice e' =>
     simp only [Bool.and_eq_true] at h9;obtain ⟨k1, k2⟩ := h9;have he := Nat.eq_of_beq_eq_true k1;subst he;split at k2
     . rename_i j hj; exact ⟨h2, j, hj, b3H k2⟩
     . cases k2
   | _ => cases h9
 . obtain ⟨inf, d, _, h2, _, _, _, _, _, h8, h9⟩ := base T i hi;unfold a8e at h9;split at h9
   . split at h9
     . rename_i fields;obtain ⟨fd, d', k1, k2, k3, k4, k5, k6⟩ := b0k h9 f off sz ag hf;exact ⟨fields, fd, d', h2, by simpa using k1, k2, k3, k4, k5, by rw [<- k6]; cases d' <;> rfl⟩
     . cases h9
   . simp only [Bool.and_eq_true] at h9;have := h9.1;split at this
     . rename_i he; rw [he] at hf; simp at hf
     . cases this
 . obtain ⟨inf, d, _, h2, _, _, _, _, _, h8, h9⟩ := base T i hi;unfold a8e at h9;split at h9
   . split at h9
     . rename_i fields; exact ⟨fields, h2, by simpa using b0A h9⟩
     . cases h9
   . simp only [Bool.and_eq_true] at h9;have := h9.1;cases hfs : i.fs with
     | nil => exact absurd hfs hne
     | cons f fs => simp [hfs] at this
 . obtain ⟨inf, d, _, h2, _, _, _, _, _, h8, h9⟩ := base T i hi;unfold a8e at h9;rw [ha, ht] at h9;simp only [Bool.and_eq_true] at h9;have := h9.2;cases d <;> first | exact h2 | cases this
 . obtain ⟨inf, d, _, h2, _, _, _, _, _, h8, h9⟩ := base T _ hi;simp only [a8e, Bool.and_eq_true] at h9;have := h9.2;cases d with
   | int k' =>
     simp only [] at this;split at this
     . rename_i he _; rw [h2, <- he]
     . cases this
   | _ => cases this
 . obtain ⟨inf, d, _, h2, _, _, _, _, _, h8, h9⟩ := base T _ hi;simp only [a8e, Bool.and_eq_true] at h9;have := h9.2;cases d with
   | func ps rs v => exact ⟨ps, rs, v, h2⟩
   | _ => cases this
end Go.Vm
end
section
namespace Go.Vm
variable {P : Program}
def a5C (P : Program) (t : Ty) (off : Nat) (f : Field) : Bool := (match String.decEq f.name "_" with
 | .isTrue _ => false
 | .isFalse _ => true) && Nat.beq f.offset off && (match t, P.underlying f.type with
 | .int _, some (.int _) => true
 | .bool, some .bool => true
 | _, _ => false)
def a4T (P : Program) : Ty -> Nat -> List Field -> Bool
 | .pair a b, off, f :: fs => a5C P a off f && a4T P b (off + 1) fs
 | t, off, [f] => a5C P t off f
 | _, _, _ => false
def b4U (P : Program) (tab : Tab) (T : TypeId) : Bool := match tab T, P.underlying T with
 | some i, some (.struct fields) => a4T P i.t 0 fields.toList && !P.stoodInHeld T && !P.eqGuardType P.depth T
 | _, _ => false
theorem a7T {t : Ty} {off : Nat} {f : Field} (h : a5C P t off f = true) {w : World} {x y : t.den} {vs us : List Value} (hx : Rep w t .sh x vs [] []) (hy : Rep w t .sh y us [] []) {xs ys : Array Value} (hxs : ∀ v, vs[0]? = some v -> xs[off]? = some v) (hys : ∀ v, us[0]? = some v -> ys[off]? = some v) (d : Nat) :
   f.name ≠ "_" /\ vs.length = 1 /\ us.length = 1 /\ ∃ a b, (part f.type xs f.offset).run P w = .ok a w /\ (part f.type ys f.offset).run P w = .ok b w /\ (Op.equalIn (d + 1) f.type a b).run P w = .ok (eqT t x y) w := by
 simp only [a5C, Bool.and_eq_true] at h;obtain ⟨⟨h1, h2⟩, h3⟩ := h;have hn : f.name ≠ "_" := by
   split at h1
   . cases h1
   . assumption
 have ho := Nat.eq_of_beq_eq_true h2;refine ⟨hn, ?_⟩;cases t with
 | int k =>
   try simp only [] at h3
   split at h3
   . rename_i k' k2 hk hu;cases hk;obtain ⟨rfl, -, -⟩ := hx;obtain ⟨rfl, -, -⟩ := hy;have hagg : (isAgg f.type).run P w = .ok false w := by unfold isAgg; rw [Sem.run_bind, run_underlying hu w]; rfl
     refine ⟨rfl, rfl, .int k x, .int k y, ?_, ?_, ?_⟩
     . simp [part, hagg, ho, hxs _ rfl]
     . simp [part, hagg, ho, hys _ rfl]
     . simp only [Op.equalIn, Sem.run_bind, run_underlying hu, Result.andThen_ok, if_true];rfl
   . rename_i hk _; cases hk
   . cases h3
 | bool =>
   try simp only [] at h3
   split at h3
   . rename_i hk _; cases hk
   . rename_i hk hu;obtain ⟨rfl, -, -⟩ := hx;obtain ⟨rfl, -, -⟩ := hy;have hagg : (isAgg f.type).run P w = .ok false w := by unfold isAgg; rw [Sem.run_bind, run_underlying hu w]; rfl
     refine ⟨rfl, rfl, .bool x, .bool y, ?_, ?_, a3A hu d x y w⟩
     . simp [part, hagg, ho, hxs _ rfl]
     . simp [part, hagg, ho, hys _ rfl]
   . cases h3
 | pair a b => simp at h3
 | any => simp at h3
 | sl t => simp at h3
theorem a8g (d : Nat) : ∀ (t : Ty) (off : Nat) (fs : List Field), a4T P t off fs = true -> ∀ (w : World) (x y : t.den) (vs us : List Value), Rep w t .sh x vs [] [] -> Rep w t .sh y us [] [] -> ∀ (xs ys : Array Value),
   (∀ (j : Nat) (v : Value), vs[j]? = some v -> xs[off + j]? = some v) -> (∀ (j : Nat) (v : Value), us[j]? = some v -> ys[off + j]? = some v) -> (Op.eqFields (d + 1) xs ys fs).run P w = .ok (eqT t x y) w := by
 have last : ∀ (t : Ty) (off : Nat) (f : Field), a5C P t off f = true -> ∀ (w : World) (x y : t.den) (vs us : List Value), Rep w t .sh x vs [] [] -> Rep w t .sh y us [] [] -> ∀ (xs ys : Array Value),
   (∀ (j : Nat) (v : Value), vs[j]? = some v -> xs[off + j]? = some v) -> (∀ (j : Nat) (v : Value), us[j]? = some v -> ys[off + j]? = some v) -> (Op.eqFields (d + 1) xs ys [f]).run P w = .ok (eqT t x y) w := by
   intro t off f h w x y vs us hx hy xs ys hxs hys;obtain ⟨hn, _, _, a, b, h1, h2, h3⟩ := a7T h hx hy (hxs 0) (hys 0) d;simp only [Op.eqFields, if_pos hn, Sem.run_bind, h1, h2, h3, Result.andThen_ok];cases eqT t x y <;> simp
 intro t;induction t with
 | int k =>
   intro off fs h
   match fs, h with
   | [f], h => exact last _ off f h
 | bool =>
   intro off fs h
   match fs, h with
   | [f], h => exact last _ off f h
 | any =>
   intro off fs h
   match fs, h with
   | [f], h => exact last _ off f h
 | sl t _ =>
   intro off fs h
   match fs, h with
   | [f], h => exact last _ off f h
 | pair a b iha ihb =>
   intro off fs h w x y vs us hx hy xs ys hxs hys
   match fs, h with
   | f :: fs, h =>
     simp only [a4T, Bool.and_eq_true] at h;obtain ⟨v1, v2, F1, F2, S1, S2, rfl, hF, hS, h1, h2⟩ := hx;obtain ⟨u1, u2, G1, G2, T1, T2, rfl, hG, hT, k1, k2⟩ := hy;obtain ⟨rfl, rfl⟩ := List.append_eq_nil_iff.1 hF.symm;obtain ⟨rfl, rfl⟩ := List.append_eq_nil_iff.1 hS.symm;obtain ⟨rfl, rfl⟩ := List.append_eq_nil_iff.1 hG.symm;obtain ⟨rfl, rfl⟩ := List.append_eq_nil_iff.1 hT.symm;have hlen : v1.length = 1 /\ u1.length = 1 := by
       have e1 := a0l h1;have e2 := a0l k1;have : a.sz = 1 := by
         have := h.1;simp only [a5C, Bool.and_eq_true] at this;cases a <;> first | rfl | (have h3 := this.2; simp at h3)
       omega
     obtain ⟨hn, _, _, p, q, g1, g2, g3⟩ := a7T h.1 h1 k1 (xs := xs) (ys := ys) (fun v hv => hxs 0 v (by rw [List.getElem?_append_left (by omega)]; exact hv)) (fun v hv => hys 0 v (by rw [List.getElem?_append_left (by omega)]; exact hv)) d;have hrec := ihb (off + 1) fs h.2 w x.2 y.2 v2 u2 h2 k2 xs ys (fun j v hv => by
       have := hxs (1 + j) v (by rw [List.getElem?_append_right (by omega), hlen.1, Nat.add_sub_cancel_left]; exact hv)
       rwa [show off + 1 + j = off + (1 + j) by omega]) (fun j v hv => by
       have := hys (1 + j) v (by rw [List.getElem?_append_right (by omega), hlen.2, Nat.add_sub_cancel_left]; exact hv)
       rwa [show off + 1 + j = off + (1 + j) by omega])
     simp only [Op.eqFields, if_pos hn, Sem.run_bind, g1, g2, g3, Result.andThen_ok, eqT];cases eqT a x.1 y.1
     . simp
     . simpa using hrec
theorem eq_ok {tab : Tab} {T : TypeId} (h : b4U P tab T = true) : EqOK P tab T := by
 intro i hi ha hno;unfold b4U at h;split at h
 . rename_i i' fields hi' hu;rw [hi] at hi';obtain rfl := Option.some.inj hi';simp only [Bool.and_eq_true, Bool.not_eq_true'] at h;obtain ⟨⟨h1, h2⟩, h3⟩ := h;refine ⟨h3, fun w x y vs us hx hy => ?_⟩;have hf : P.fieldsOf T = fields := by simp [Program.fieldsOf, hu]
   have := run_equalIn_struct (P := P) w 9999 T vs.toArray us.toArray (by rw [hf]; exact hu) h2;rw [show (10000 : Nat) = 9999 + 1 from rfl, this, hf];exact a8g 9998 i.t 0 fields.toList h1 w x y vs us hx hy _ _ (fun j v hv => by simpa using hv) (fun j v hv => by simpa using hv)
 . cases h
end Go.Vm
end
section
namespace Go.Vm
variable {P : Program} {R : Type}
def sub : List Nat -> Code -> Code
 | [], c => c
 | 0 :: p, .seq a _ => sub p a
 | 1 :: p, .seq _ b => sub p b
 | 0 :: p, .cond _ a _ => sub p a
 | 1 :: p, .cond _ _ b => sub p b
 | 0 :: p, .block _ b => sub p b
 | 0 :: p, .loop b => sub p b
 | _, c => c
open Classical in
noncomputable def anyK (M : Nat -> Option R) : Option R := if h : ∃ k r, M k = some r then M (Classical.choose h) else none
theorem b2J {M : Nat -> Option R} {r : R} (h : anyK M = some r) : ∃ k, M k = some r := by
 unfold anyK at h;split at h
 . exact ⟨_, h⟩
 . cases h
theorem b2I {M : Nat -> Option R} (hm : ∀ k k' r, k ≤ k' -> M k = some r -> M k' = some r) {k : Nat} {r : R} (h : M k = some r) : anyK M = some r := by
 unfold anyK;have hex : ∃ k r, M k = some r := ⟨k, r, h⟩;rw [dif_pos hex];obtain ⟨r', hr'⟩ := Classical.choose_spec hex;rw [hr'];have h1 := hm _ (max k (Classical.choose hex)) _ (Nat.le_max_left _ _) h;have h2 := hm _ (max k (Classical.choose hex)) _ (Nat.le_max_right _ _) hr';rw [h1] at h2;exact h2.symm
theorem b1O (x : Option R) : anyK (fun _ => x) = x := by
 cases x with
 | none =>
   unfold anyK;rw [dif_neg];rintro ⟨_, _, h⟩; cases h
 | some r => exact b2I (M := fun _ => some r) (fun _ _ _ _ h => h) (k := 0) rfl
noncomputable def a9W (g : Cfg) (fin : St -> Option R) (code : Code) (σ : St) (k : Nat) : Option R := a1I g fin (runT g fin k) big [.code code] σ
theorem b4B {g : Cfg} {fin : St -> Option R} {code : Code} {σ : St} (k k' : Nat) (r : R) (h : k ≤ k') (hr : a9W g fin code σ k = some r) : a9W g fin code σ k' = some r :=
 a6T (runT_le h) _ _ _ _ hr
def Ev (M : Nat -> Option R) (r : R) : Prop := ∃ k0, ∀ k, k0 ≤ k -> M k = some r
theorem Ev.const (r : R) : Ev (fun _ => some r) r := ⟨0, fun _ _ => rfl⟩
theorem Ev.of_eq {M N : Nat -> Option R} {r : R} (h : Ev N r) (e : ∀ k, M k = N k) : Ev M r := by
 obtain ⟨k0, h⟩ := h;exact ⟨k0, fun k hk => (e k).trans (h k hk)⟩
theorem Ev.succ {M N : Nat -> Option R} {r : R} (h : Ev N r) (e : ∀ k, M (k + 1) = N k) : Ev M r := by
 obtain ⟨k0, h⟩ := h;refine ⟨k0 + 1, fun k hk => ?_⟩;obtain ⟨k', rfl⟩ : ∃ k', k = k' + 1 := ⟨k - 1, by omega⟩;exact (e k').trans (h k' (by omega))
theorem Ev.any {M : Nat -> Option R} {r : R} (hm : ∀ k k' r, k ≤ k' -> M k = some r -> M k' = some r) (h : Ev M r) : anyK M = some r := by
 obtain ⟨k0, h⟩ := h;exact b2I hm (h k0 (Nat.le_refl _))
theorem Ev.run {g : Cfg} {fin : St -> Option R} {code : Code} {σ : St} {M : Nat -> Option R} {r : R} (e : ∀ k, a9W g fin code σ k = M k) (h : Ev M r) : anyK (a9W g fin code σ) = some r :=
 Ev.any (fun k k' r => b4B k k' r) (h.of_eq e)
theorem b3A {f : FuncId} {fn : Func} {code : Code} (hf : P.funcs[f]? = some fn) (hbody : fn.body = some code) (hname : (fn.name == "runtime.NumGoroutine") = false) {s : Sig} {g : Cfg} (hctx : CtxOK P g.c) (hkp : g.kp = kpOf s.ps 0) {nt : Nat} (hnt : fn.ntmps = nt) (hle : s.ps.length ≤ nt)
   {res : List ResultVar} (hres : fn.results = res.toArray) : a3D P ⟨f, s, fun d => anyK (a9W g (finK g.c s res) code (a6v s.ps d nt))⟩ :=
 b4H hf hbody hname hctx hkp hnt hle hres fun d r h => b2J h
theorem Ev.uniq {M : Nat -> Option R} {r r' : R} (h : Ev M r) (h' : Ev M r') : r = r' := by
 obtain ⟨a, h⟩ := h;obtain ⟨b, h'⟩ := h';have h1 := h (max a b) (Nat.le_max_left _ _);rw [h' (max a b) (Nat.le_max_right _ _)] at h1;exact (Option.some.inj h1).symm
open Classical in
noncomputable def anyE (M : Nat -> Option R) : Option R := if h : ∃ r, Ev M r then some (Classical.choose h) else none
theorem anyE_of {M : Nat -> Option R} {r : R} (h : Ev M r) : anyE M = some r := by
 unfold anyE;have hex : ∃ r, Ev M r := ⟨r, h⟩;rw [dif_pos hex, (Classical.choose_spec hex).uniq h]
theorem b2H {M : Nat -> Option R} {r : R} (h : anyE M = some r) : ∃ k, M k = some r := by
 unfold anyE at h;split at h
 . rename_i hex;obtain ⟨k, hk⟩ := Classical.choose_spec hex;exact ⟨k, by rw [<- h]; exact hk k (Nat.le_refl _)⟩
 . cases h
def recF {α β : Type} (step : (α -> Option β) -> α -> Option β) : Nat -> α -> Option β
 | 0, _ => none
 | q + 1, d => step (recF step q) d
theorem sound_rec {f : FuncId} {s : Sig} {step : (Ins s.ps -> Option (Outs s.outs × Muts s.ps)) -> Ins s.ps -> Option (Outs s.outs × Muts s.ps)} (hE : a5h P f) (h : ∀ self, a3D P ⟨f, s, self⟩ -> a3D P ⟨f, s, step self⟩) :
   a3D P ⟨f, s, fun d => anyE fun q => recF step q d⟩ := by
 have hq : ∀ q, a3D P ⟨f, s, recF step q⟩ := by
   intro q;induction q with
   | zero => exact ⟨hE, fun d r hr => by cases hr⟩
   | succ q ih => exact h _ ih
 refine ⟨hE, fun d r hr => ?_⟩;obtain ⟨q, hr⟩ := b2H hr;exact (hq q).2 d r hr
theorem nilM {α : Type} {p : α -> Prop} : ∀ x ∈ ([] : List α), p x := List.forall_mem_nil _
theorem consM {α : Type} {p : α -> Prop} {a : α} {l : List α} (h : p a /\ ∀ x ∈ l, p x) : ∀ x ∈ a :: l, p x := List.forall_mem_cons.2 h
theorem eq_any {R : Type} {g : Cfg} {fin : St -> Option R} {code : Code} {σ : St} {v : Option R} (h : ∀ k, a9W g fin code σ k = v) : anyK (a9W g fin code σ) = v := (congrArg anyK (funext h)).trans (b1O _)
theorem sound_k {f : FuncId} {fn : Func} {code : Code} {s : Sig} {g : Cfg} {nt : Nat} {res : List ResultVar} (hf : P.funcs[f]? = some fn) (hctx : CtxOK P g.c) (hbody : fn.body = some code := by kernel_rfl) (hname : (fn.name == "runtime.NumGoroutine") = false := by kernel_rfl) (hkp : g.kp = kpOf s.ps 0 := by kernel_rfl) (hnt : fn.ntmps = nt := by kernel_rfl) (hle : Nat.ble s.ps.length nt = true := by kernel_rfl)
   (hres : fn.results = res.toArray := by kernel_rfl) : a3D P ⟨f, s, fun d => anyK (a9W g (finK g.c s res) code (a6v s.ps d nt))⟩ :=
 b3A hf hbody hname hctx hkp hnt (Nat.le_of_ble_eq_true hle) hres
end Go.Vm
end
section
namespace Go.Vm
variable {P : Program}
def a7Z : List (Bool × Ty) -> List PS
 | [] => []
 | p :: l => .val p.1 p.2 :: a7Z l
def b0C (caps : List PS) : (ins : List (Bool × Ty)) -> Vals ins -> Ins caps -> Ins (a7Z ins ++ caps)
 | [], _, y => y
 | _ :: l, d, y => (d.1, b0C caps l d.2 y)
def a7y : List PS -> Bool
 | [] => true
 | .val _ _ :: l => a7y l
 | .rptr _ :: l => a7y l
 | .fnx _ :: l => a7y l
 | .pfn _ :: l => a7y l
 | _ :: _ => false
theorem a7e {w w' : World} (hz : w.heap.size ≤ w'.heap.size) : ∀ (ps : List PS) (y : Ins ps) (vs : List Value) (S A : List Nat), a7y ps = true -> a1R P w ps y vs [] S A -> a0b w w' S -> a1R P w' ps y vs [] S A := by
 intro ps;induction ps with
 | nil => intro y vs S A _ h _; exact h
 | cons p ps ih =>
   rintro y vs S A hok ⟨v, vs', M1, M2, S1, S2, A1, A2, rfl, hM, rfl, rfl, h1, h2⟩ hs;obtain ⟨rfl, rfl⟩ := List.append_eq_nil_iff.1 hM.symm;have hs1 : a0b w w' S1 := a0B hs (by simp +contextual);have hs2 : a0b w w' S2 := a0B hs (by simp +contextual);cases p with
   | val agg t =>
     obtain ⟨_, rfl, us, hr, hsh⟩ := h1;exact ⟨v, vs', [], [], A1, S2, A1, A2, rfl, rfl, rfl, rfl, ⟨rfl, rfl, us, a1m _ hr (by simpa using hs1), hsh⟩, ih _ _ _ _ hok h2 hs2⟩
   | rptr t =>
     obtain ⟨_, ad, us, rfl, hc, hlt, hr, rfl⟩ := h1;refine ⟨_, vs', [], [], ad.block :: A1, S2, A1, A2, rfl, rfl, rfl, rfl, ⟨rfl, ad, us, rfl, fun i u hu => ?_, Nat.lt_of_lt_of_le hlt hz, a1m _ hr (a0B hs1 (by simp +contextual)), rfl⟩, ih _ _ _ _ hok h2 hs2⟩;have hq := a1l (w := w) (w' := w') (a := ad.add i) (by rw [a0O]; exact hs1 _ (by simp));rw [hq]; exact hc i u hu
   | fnx s =>
     obtain ⟨_, hf⟩ := h1;exact ⟨v, vs', [], [], S1, S2, A1, A2, rfl, rfl, rfl, rfl, ⟨rfl, a2n hf hs1 hz⟩, ih _ _ _ _ hok h2 hs2⟩
   | pfn s =>
     obtain ⟨_, ad, u, S0, rfl, hc, hlt, hf, rfl⟩ := h1;refine ⟨_, vs', [], [], ad.block :: S0, S2, A1, A2, rfl, rfl, rfl, rfl, ⟨rfl, ad, u, S0, rfl, ?_, Nat.lt_of_lt_of_le hlt hz, a2n hf (a0B hs1 (by simp +contextual)) hz, rfl⟩, ih _ _ _ _ hok h2 hs2⟩;rw [a1l (w := w) (w' := w') (a := ad) (hs1 _ (by simp))]; exact hc
   | wr agg t m => cases hok
   | wp t m => cases hok
   | tk agg t m => cases hok
theorem a8W {w : World} {caps : List PS} {y : Ins caps} {cv : List Value} {S A : List Nat} (h : a1R P w caps y cv [] S A) : ∀ (ins : List (Bool × Ty)) (d : Vals ins) (vs : List Value) (Sa : List Nat), a4u w ins d vs Sa -> a1R P w (a7Z ins ++ caps) (b0C caps ins d y) (vs ++ cv) [] (Sa ++ S) (Sa ++ A) := by
 intro ins;induction ins with
 | nil => rintro d vs Sa ⟨rfl, rfl⟩; exact h
 | cons p l ih =>
   rintro d vs Sa ⟨v, vs', us, S1, S2, rfl, rfl, hr, hsh, h2⟩;refine ⟨v, vs' ++ cv, [], [], S1, S2 ++ S, S1, S2 ++ A, rfl, rfl, by simp, by simp, ⟨rfl, rfl, us, hr, hsh⟩, ih d.2 vs' S2 h2⟩
theorem sound_fr {f : FuncId} {ps : List PS} {agg : Bool} {t : Ty} {m : Mode} {F : Ins ps -> Option (Outs [(OutK.val agg, t, m)] × Muts ps)} (h : a3D P ⟨f, ⟨ps, [(.val agg, t, m)]⟩, F⟩) : a3D P ⟨f, ⟨ps, [(.fr agg, t, m)]⟩, F⟩ := h
theorem sound_clo {n : FuncId} {s : FSig} {caps : List PS} {F : Ins (a7Z s.ins ++ caps) -> Option (Outs s.outs × Muts (a7Z s.ins ++ caps))} (hok : a7y caps = true) (h : a3D P ⟨n, ⟨a7Z s.ins ++ caps, s.outs⟩, F⟩) :
   a2h P ⟨n, s, caps, fun y d => (F (b0C caps s.ins d y)).map (·.1)⟩ := by
 refine ⟨h.1, fun y w cv S A hc w' hs hz d r vs Sa hG hv => ?_⟩;simp only [Option.map_eq_some_iff] at hG;obtain ⟨⟨r', mu⟩, hF, rfl⟩ := hG;have hargs := a8W (a7e hz caps y cv S A hok hc hs) s.ins d vs Sa hv;have hcall := h.2 _ _ hF w' (vs ++ cv) [] _ _ hargs (by simp) (by simp);rw [show (vs ++ cv).toArray = vs.toArray ++ cv.toArray by simp] at hcall;refine hcall.mono fun e w2 hp => ?_;obtain ⟨us, F', S', M', T, he, hout, hmut, hnd, hFM, hST, hsame, hbase⟩ := hp;refine ⟨us, F', S', he, hout, (List.nodup_append.1 hnd).1, fun b hb => ?_, fun b hb => ?_, fun b hb => hsame b hb (by simp), hbase⟩
 . exact (hFM b (by simp [hb])).resolve_right (by simp)
 . obtain ⟨h1, h2⟩ := hST b (by simp [hb]);refine ⟨fun hbF => h1 (by simp [hbF]), fun hlt => (h2 hlt).resolve_right (by simp)⟩
end Go.Vm
end
section
namespace Go.Vm
variable {H : Type} {enc' : TypeId × Value -> H} {P : Program}
def wfT : (t : Ty) -> t.den -> Prop
 | .int k, x => (Lit.int k x).wf = true
 | .bool, _ => True
 | .pair a b, x => wfT a x.1 /\ wfT b x.2
 | .sl t, xs => List.length xs ≤ maxLen /\ ∀ x ∈ xs, wfT t x
 | .any, _ => True
def a4d (P : Program) (tab : Tab) : Ty -> Nat -> List Field -> Bool
 | .pair a b, off, f :: g :: fs => Nat.beq f.offset off && Nat.beq (P.cellsOf f.type) a.sz && (match tab f.type with
   | some i => tyB i.t a
   | none => false) && a4d P tab b (off + a.sz) (g :: fs)
 | t, off, [f] => Nat.beq f.offset off && Nat.beq (P.cellsOf f.type) t.sz && (match tab f.type with
   | some i => tyB i.t t
   | none => false)
 | _, _, _ => false
def anyB : Ty -> Bool
 | .any => true
 | _ => false
def a8j (P : Program) (tab : Tab) (p : Nat × TInfo) : Bool := Nat.beq (P.cellsOf p.1) p.2.t.sz && (!anyB p.2.t || !p.2.agg) && (match p.2.agg, P.underlying p.1 with
 | true, some (.struct fields) => a4d P tab p.2.t 0 fields.toList
 | true, _ => false
 | false, _ => true)
def b3o (P : Program) (l : List (Nat × TInfo)) : Bool := allB (a8j P (a2d l)) l
theorem repL_of {w : World} {t : Ty} : ∀ (n : Nat) (css : Nat -> List Value), (∀ i, i < n -> ∃ x S, Rep w t .sh x (css i) [] S /\ (∀ b ∈ S, b < w.heap.size) /\ wfT t x) →
   ∃ xs S, RepL (Rep w t .sh) xs ((List.range n).flatMap css) [] S /\ (∀ b ∈ S, b < w.heap.size) /\ xs.length = n /\ ∀ x ∈ xs, wfT t x := by
 intro n;induction n with
 | zero => intro css _; exact ⟨[], [], ⟨by simp, rfl, rfl⟩, by simp, rfl, by simp⟩
 | succ n ih =>
   intro css h;obtain ⟨xs, S, h1, h2, h3, h4⟩ := ih css fun i hi => h i (by omega);obtain ⟨x, S', k1, k2, k3⟩ := h n (by omega);refine ⟨xs ++ [x], S ++ S', ?_, fun b hb => ?_, by simp [h3], fun y hy => ?_⟩
   . rw [List.range_succ, List.flatMap_append];refine (a0h xs [x] _ _ _).2 ⟨_, _, [], [], S, S', rfl, rfl, rfl, h1, ?_⟩;simp only [List.flatMap_cons, List.flatMap_nil, List.append_nil];exact ⟨css n, [], [], [], S', [], by simp, rfl, by simp, k1, ⟨rfl, rfl, rfl⟩⟩
   . simp only [List.mem_append] at hb; exact hb.elim (h2 b) (k2 b)
   . simp only [List.mem_append, List.mem_singleton] at hy;rcases hy with hy | rfl
     . exact h4 y hy
     . exact k3
theorem b4K {l : List (Nat × TInfo)} (ht : TabOK P (a2d l)) (ho : b3o P l = true) {w : World} {base : Nat} {spare : Nat -> Bool} {held : Bool} : ∀ (fuel T : Nat) (i : TInfo) (cs : List Value) (d : DataW H × List MemPlace), a2d l T = some i →
   DataW.trod enc' P w base spare held fuel T cs = some d -> ∃ x S, Rep w i.t .sh x cs [] S /\ (∀ b ∈ S, b < w.heap.size) /\ wfT i.t x := by
 have row : ∀ T i, a2d l T = some i -> a8j P (a2d l) (T, i) = true := fun T i hi => a0G ho _ (a9h hi);intro fuel;induction fuel with
 | zero => intro T i cs d _ h; simp [DataW.trod] at h
 | succ fuel ih =>
   intro T i cs d hi h;have hrow := row T i hi;simp only [a8j, Bool.and_eq_true] at hrow;obtain ⟨⟨hcells, hany⟩, hrow⟩ := hrow;have hcells := Nat.eq_of_beq_eq_true hcells;obtain ⟨ag, t, e, fs⟩ := i;cases ag with
   | true =>
     simp only [] at hrow;split at hrow
     case h_2 => cases hrow
     case h_3 => rename_i hx; cases hx
     rename_i fields _ hu;obtain ⟨xs, n, hn, rfl, hl, hlen, hf⟩ := DataW.trod_struct hu h;obtain rfl : fuel = n := by omega
     have key : ∀ (t : Ty) (off : Nat) (fs : List Field), a4d P (a2d l) t off fs = true -> (∀ f ∈ fs, ∃ y, DataW.trod enc' P w base spare held fuel f.type ((cs.drop f.offset).take (P.cellsOf f.type)) = some y) -> ∃ x S, Rep w t .sh x ((cs.drop off).take t.sz) [] S /\ (∀ b ∈ S, b < w.heap.size) /\ wfT t x := by
       have one : ∀ (t : Ty) (off : Nat) (f : Field), (Nat.beq f.offset off && Nat.beq (P.cellsOf f.type) t.sz && (match a2d l f.type with | some i => tyB i.t t | none => false)) = true -> (∃ y, DataW.trod enc' P w base spare held fuel f.type ((cs.drop f.offset).take (P.cellsOf f.type)) = some y) →
           ∃ x S, Rep w t .sh x ((cs.drop off).take t.sz) [] S /\ (∀ b ∈ S, b < w.heap.size) /\ wfT t x := by
         intro t off f h ⟨y, hy⟩;simp only [Bool.and_eq_true] at h;obtain ⟨⟨h1, h2⟩, h3⟩ := h;split at h3
         . rename_i j hj;have htj := b3H h3;subst htj;rw [Nat.eq_of_beq_eq_true h1, Nat.eq_of_beq_eq_true h2] at hy;exact ih f.type j _ y hj hy
         . cases h3
       intro t;induction t with
       | pair a b iha ihb =>
         intro off fs h hy
         match fs, h with
         | [f], h => exact one (.pair a b) off f (by simpa only [a4d] using h) (hy f (by simp))
         | f :: g :: fs, h =>
           simp only [a4d, Bool.and_eq_true] at h;obtain ⟨x, S, h1, h2, h3⟩ := one a off f (by simp only [Bool.and_eq_true]; exact h.1) (hy f (by simp));obtain ⟨y, S', k1, k2, k3⟩ := ihb (off + a.sz) (g :: fs) h.2 fun f' hf' => hy f' (by simp [hf']);refine ⟨(x, y), S ++ S', ⟨_, _, [], [], S, S', ?_, rfl, rfl, h1, k1⟩, fun b hb => ?_, h3, k3⟩
           . rw [Ty.sz, List.take_add, List.drop_drop]
           . simp only [List.mem_append] at hb; exact hb.elim (h2 b) (k2 b)
       | int k =>
         intro off fs h hy
         match fs, h with
         | [f], h => exact one _ off f (by simpa only [a4d] using h) (hy f (by simp))
       | bool =>
         intro off fs h hy
         match fs, h with
         | [f], h => exact one _ off f (by simpa only [a4d] using h) (hy f (by simp))
       | any =>
         intro off fs h hy
         match fs, h with
         | [f], h => exact one _ off f (by simpa only [a4d] using h) (hy f (by simp))
       | sl t _ =>
         intro off fs h hy
         match fs, h with
         | [f], h => exact one _ off f (by simpa only [a4d] using h) (hy f (by simp))
     obtain ⟨x, S, h1, h2, h3⟩ := key t 0 fields.toList hrow fun f hf' => by
       obtain ⟨j, hj⟩ := List.mem_iff_getElem?.1 hf';have hj' : fields[j]? = some f := by simpa using hj
       rw [hf j f hj'];have : j < xs.length := by
         rw [hlen];rcases Nat.lt_or_ge j fields.size with h | h
         . exact h
         . rw [Array.getElem?_eq_none h] at hj'; cases hj'
       exact ⟨xs[j], by simp [this]⟩
     refine ⟨x, S, ?_, h2, h3⟩;rw [List.drop_zero, List.take_of_length_le (by rw [hl, hcells]; exact Nat.le_refl _)] at h1;exact h1
   | false =>
     cases t with
     | int k =>
       obtain ⟨n, rfl, rfl, hwf⟩ := DataW.trod_int (ht.int T k e fs hi) h;exact ⟨n, [], ⟨rfl, rfl, rfl⟩, by simp, hwf⟩
     | bool =>
       obtain ⟨b, rfl, rfl⟩ := DataW.trod_bool (ht.bool T _ hi rfl rfl) h;exact ⟨b, [], ⟨rfl, rfl, rfl⟩, by simp, trivial⟩
     | any =>
       obtain ⟨ps, rs, v, hu⟩ := ht.fn T e fs hi;have : ∃ c, cs = [c] /\ c.oneCell' = true /\ ∀ ds, c ≠ .agg ds := by
         unfold DataW.trod at h;rw [hu] at h;split at h <;> first | exact ⟨_, rfl, rfl, fun ds e => by cases e⟩ | simp_all
       obtain ⟨c, rfl, h1, h2⟩ := this;exact ⟨(), [], ⟨⟨c, rfl, h1, h2⟩, rfl, rfl⟩, by simp, trivial⟩
     | pair a b =>
       have := ht.plain T _ hi rfl;simp only [Ty.sz] at this;have h1 := a4z a;have h2 := a4z b;omega
     | sl t =>
       obtain ⟨hu, j, hj, rfl⟩ := ht.slice T t e fs hi;have hce : P.cellsOf e = j.t.sz := by
         have := row e j hj;simp only [a8j, Bool.and_eq_true] at this;exact Nat.eq_of_beq_eq_true this.1.1
       rcases DataW.trod_slice hu h with ⟨rfl, _⟩ | ⟨a, len, cap, elems, rest, n, hn, rfl, _, hb, hlc, hcm, hel, hget, _, _⟩
       . exact ⟨[], [], ⟨none, 0, rfl, Nat.le_refl _, .inl ⟨rfl, rfl, rfl, fun h => by cases h⟩⟩, by simp, by simp [wfT], by simp⟩
       . obtain rfl : fuel = n := by omega
         rw [hce] at hget;have each : ∀ i, i < len -> ∃ cs, w.cells? base (a.add (i * j.t.sz)) j.t.sz = some cs /\ ∃ x S, Rep w j.t .sh x cs [] S /\ (∀ b ∈ S, b < w.heap.size) /\ wfT j.t x := by
           intro i hi;have hg := hget i hi;have : i < elems.length := by omega
           rw [List.getElem?_eq_getElem this, Option.bind_eq_some_iff] at hg;obtain ⟨cs, h1, h2⟩ := hg;exact ⟨cs, h1, ih e j cs _ hj h2⟩
         let css : Nat -> List Value := fun i => (w.cells? base (a.add (i * j.t.sz)) j.t.sz).getD [];have hcss : ∀ i, i < len -> w.cells? base (a.add (i * j.t.sz)) j.t.sz = some (css i) := by
           intro i hi;obtain ⟨cs, h1, _⟩ := each i hi;simp only [css, h1, Option.getD_some]
         obtain ⟨xs, S, k1, k2, k3, k4⟩ := repL_of (w := w) (t := j.t) len css fun i hi => by
           obtain ⟨cs, h1, h2⟩ := each i hi;have := hcss i hi;rw [h1] at this;rw [<- Option.some.inj this]; exact h2
         by_cases hl0 : len = 0
         . subst hl0;have : xs = [] := List.eq_nil_of_length_eq_zero k3;subst this;exact ⟨[], [], ⟨some a, cap, rfl, Nat.zero_le _, .inl ⟨rfl, rfl, rfl, fun h => by cases h⟩⟩, by simp, by simp [wfT], by simp⟩
         . have hblk : a.block < w.heap.size := by
             have := World.cells?_block (hcss 0 (by omega)) (a4z j.t)
             rwa [a0O] at this
           refine ⟨xs, a.block :: S, ⟨some a, cap, by rw [k3], by omega, .inr (.inr ⟨rfl, ?_, a, _, S, rfl, fun q v hq => ?_, k1, rfl, rfl⟩)⟩, fun b hb => ?_, ?_, k4⟩
           . intro e; rw [e] at k3; simp at k3; omega
           ·
             have hcl : ∀ i, i < len -> (css i).length = j.t.sz := fun i hi => (World.cells?_some (hcss i hi)).2.1;have flat : ∀ n, n ≤ len -> ∀ q v, ((List.range n).flatMap css)[q]? = some v -> w.cell? (a.add q) = some v := by
               intro n;induction n with
               | zero => intro _ q v h; simp at h
               | succ n ihn =>
                 intro hn q v h;rw [List.range_succ, List.flatMap_append, List.getElem?_append] at h;have hlenn : ((List.range n).flatMap css).length = n * j.t.sz := by
                   have : ∀ m, m ≤ len -> ((List.range m).flatMap css).length = m * j.t.sz := by
                     intro m;induction m with
                     | zero => intro _; simp
                     | succ m ihm =>
                       intro hm;rw [List.range_succ, List.flatMap_append, List.length_append, ihm (by omega)];simp [hcl m (by omega), Nat.add_mul]
                   exact this n (by omega)
                 split at h
                 . exact ihn (by omega) q v h
                 . rename_i hge;rw [hlenn] at hge h;simp only [List.flatMap_cons, List.flatMap_nil, List.append_nil] at h;have hlt : q - n * j.t.sz < j.t.sz := by
                     have hc := hcl n (by omega);rcases Nat.lt_or_ge (q - n * j.t.sz) (css n).length with h' | h'
                     . rw [hc] at h'; exact h'
                     . rw [List.getElem?_eq_none h'] at h; cases h
                   have := (World.cells?_some (hcss n (by omega))).2.2 (q - n * j.t.sz) hlt;rw [a2U, show n * j.t.sz + (q - n * j.t.sz) = q by omega] at this;rw [this]; exact h
             exact flat len (Nat.le_refl _) q v hq
           . simp only [List.mem_cons] at hb;rcases hb with rfl | hb
             . exact hblk
             . exact k2 b hb
           . show xs.length ≤ maxLen;omega
end Go.Vm
end
section
namespace Go.Vm
open Go.RowKit (Below)
variable {H : Type} {enc' : TypeId × Value -> H} {P : Program}
def parB (tab : Tab) : List PS -> List TypeId -> Bool
 | [], [] => true
 | .val agg t :: ps, T :: Ts => (match tab T with
   | some i => (match Bool.decEq i.agg agg with
     | .isTrue _ => true
     | .isFalse _ => false) && tyB i.t t
   | none => false) && parB tab ps Ts
 | _, _ => false
def wfIns : (ps : List PS) -> Ins ps -> Prop
 | [], _ => True
 | .val _ t :: ps, d => wfT t d.1 /\ wfIns ps d.2
 | _ :: _, _ => False
theorem b2R {v : Value} (h : ∀ cs, v ≠ .agg cs) : v.cells.toList = [v] := by
 cases v <;> first
   | rfl
   | exact absurd rfl (h _)
theorem b3Q {l : List (Nat × TInfo)} (ht : TabOK P (a2d l)) (ho : b3o P l = true) {w : World} {T : TypeId} {i : TInfo} (hi : a2d l T = some i) {v : Value} {d : DataW H} {p : List MemPlace}
   (h : DataW.Trod enc' P w 0 (fun _ => true) true T v d p) (hok : Value.okWide P w .any 0 T v ∨ ∃ b, Value.okWide P w .any b T v) : ∃ x vs S, Rep w i.t .sh x vs [] S /\ a0F i.agg vs v /\ (∀ b ∈ S, b < w.heap.size) /\ wfT i.t x := by
 obtain ⟨fuel, hf⟩ := h;obtain ⟨x, S, h1, h2, h3⟩ := b4K ht ho fuel T i _ _ hi hf;refine ⟨x, _, S, h1, ?_, h2, h3⟩;obtain ⟨b, hok⟩ : ∃ b, Value.okWide P w .any b T v := hok.elim (fun h => ⟨0, h⟩) id;obtain ⟨ag, t, e, fs⟩ := i;cases ag with
 | true =>
   obtain ⟨dd, hd, hag⟩ := ht.agg T _ hi;have : ∃ cs, v = .agg cs := by
     unfold Value.okWide at hok;rw [hd] at hok;cases dd <;> simp only [] at hok hag <;> first
       | exact ⟨_, hok.choose_spec.1⟩
       | cases hag
   obtain ⟨cs, rfl⟩ := this;simp [a0F, Value.cells]
 | false =>
   have : ∀ cs, v ≠ .agg cs := by
     intro cs e;subst e;cases t with
     | int k => have := ht.int T k _ fs hi; simp [Value.okWide, this, Cell.okWide, Cell.ok] at hok
     | bool => have := ht.bool T _ hi rfl rfl; simp [Value.okWide, this, Cell.okWide, Cell.ok] at hok
     | sl t => obtain ⟨this, _⟩ := ht.slice T t _ fs hi; simp [Value.okWide, this, Cell.okWide, Cell.ok] at hok
     | any =>
       obtain ⟨ps, rs, v, this⟩ := ht.fn T _ fs hi;simp [Value.okWide, this, Cell.okWide, Cell.ok] at hok
     | pair a b =>
       have := ht.plain T _ hi rfl;simp only [Ty.sz] at this;have h1 := a4z a;have h2 := a4z b;omega
   simp only [a0F, Bool.false_eq_true, if_false];exact b2R this
theorem b2L {l : List (Nat × TInfo)} (ht : TabOK P (a2d l)) (ho : b3o P l = true) {w : World} : ∀ (ps : List PS) (Ts : List TypeId) (vs : List Value) (ds : List (DataW H)) (p : List MemPlace), parB (a2d l) ps Ts = true →
   DataW.TrodAll enc' P w 0 (fun _ => true) true Ts vs ds p -> (∀ (j : Nat) t v, Ts[j]? = some t -> vs[j]? = some v -> ∃ b, Value.okWide P w .any b t v) →
   ∃ d S, a1R P w ps d vs [] S S /\ (∀ b ∈ S, b < w.heap.size) /\ wfIns ps d := by
 intro ps;induction ps with
 | nil =>
   intro Ts vs ds p hp h hok;cases Ts with
   | cons T Ts => simp [parB] at hp
   | nil =>
     obtain ⟨rfl, rfl, rfl⟩ := ChangeShapes.trodAll_nil h;exact ⟨(), [], ⟨rfl, rfl, rfl, rfl⟩, by simp, trivial⟩
 | cons q ps ih =>
   intro Ts vs ds p hp h hok;cases Ts with
   | nil => cases q <;> simp [parB] at hp
   | cons T Ts =>
     cases q with
     | val agg t =>
       simp only [parB, Bool.and_eq_true] at hp;obtain ⟨hp1, hp2⟩ := hp;split at hp1
       case h_2 => cases hp1
       rename_i i hi;simp only [Bool.and_eq_true] at hp1;obtain ⟨hag, hty⟩ := hp1;have hag : i.agg = agg := by
         split at hag
         . assumption
         . cases hag
       have hty := b3H hty;obtain ⟨v, vs', d1, ds', p1, q1, rfl, rfl, rfl, h1, h2⟩ := ChangeShapes.trodAll_cons h;obtain ⟨x, us, S, k1, k2, k3, k4⟩ := b3Q ht ho hi h1 (.inr (hok 0 T v rfl rfl));obtain ⟨d, S', g1, g2, g3⟩ := ih Ts vs' ds' q1 hp2 h2 fun j t v hj hv => hok (j + 1) t v hj hv;subst hag hty;refine ⟨(x, d), S ++ S', ⟨v, vs', [], [], S, S', S, S', rfl, rfl, rfl, rfl, ⟨rfl, rfl, us, k1, k2⟩, g1⟩, fun b hb => ?_, k4, g3⟩;simp only [List.mem_append] at hb;exact hb.elim (k3 b) (g2 b)
     | _ => simp [parB] at hp
theorem b3R (hl : laidOutB P = true) {W W' : World} (hb : Below W.heap.size W W') : ∀ (Ts : List TypeId) (vs : List Value) (ds : List (DataW H)) (p : List MemPlace), allB (fun T => P.readableRec T && Nat.blt T P.types.size) Ts = true →
   DataW.TrodAll enc' P W 0 (fun _ => true) true Ts vs ds p -> DataW.TrodAll enc' P W' 0 (fun b => decide (b < W.heap.size)) true Ts vs ds p := by
 intro Ts;induction Ts with
 | nil =>
   intro vs ds p _ h;obtain ⟨rfl, rfl, rfl⟩ := ChangeShapes.trodAll_nil h;exact ChangeShapes.trodAll_mk0
 | cons T Ts ih =>
   intro vs ds p hr h;obtain ⟨v, vs', d, ds', p1, q1, rfl, rfl, rfl, h1, h2⟩ := ChangeShapes.trodAll_cons h;have r0 := a0G hr T (by simp);simp only [Bool.and_eq_true] at r0;obtain ⟨r1, r2⟩ := r0;have r3 : allB (fun T => P.readableRec T && Nat.blt T P.types.size) Ts = true := by
     simp only [allB] at hr;split at hr
     . exact hr
     . cases hr
   have hlt : ∀ x ∈ p1, x.block < W.heap.size := by
     obtain ⟨m, hm⟩ := h1;exact DataW.trod_lt m _ _ _ hm
   exact ⟨p1, q1, Go.RowKit.Below.trod hl r1 (Nat.le_of_ble_eq_true r2) h1 hb hlt, ih vs' ds' q1 r3 h2, rfl⟩
theorem law_calls (hl : laidOutB P = true) {l : List (Nat × TInfo)} (ht : TabOK P (a2d l)) (ho : b3o P l = true) {f : FuncId} {ps : List PS} {m : Mode} {F : Ins ps -> Option (Outs [(OutK.val false, Ty.bool, m)] × Muts ps)} (hS : a3D P ⟨f, ⟨ps, [(.val false, .bool, m)]⟩, F⟩)
   (hpure : ∀ d, wfIns ps d -> ∃ mu, F d = some ((true, ()), mu)) {fn : Func} {Ts : List TypeId} (hTs : fn.params.toList = Ts) (hpar : parB (a2d l) ps Ts = true) (hread : allB (fun T => P.readableRec T && Nat.blt T P.types.size) Ts = true)
   {rt : TypeId} (hrt : fn.resultTypes = #[rt]) (hub : P.underlying rt = some .bool) (s : ChangeSpec) (hv : s.vars = []) (hs : ∀ (ds : List (DataW H)), ds.length = Ts.length -> s.fn H ds = { results := [.lit (.bool true)], args := ds })
   (W : World) (base : Nat) (args : Array Value) (ds gs : List (DataW H)) (before : List MemPlace) (hval : ∀ (j : Nat) t v, fn.params[j]? = some t -> args[j]? = some v -> Value.okWide P W .any base t v)
   (hW : DataW.Whole enc' P fn.params.toList s.vars false W args.toList ds gs before) : Calls P f args W fun e W' => ∃ v, e = .returned v /\ s.post enc' P fn false true false false W args v W' := by
 have hW' := hW;obtain ⟨p, q, hA, hV, rfl, -, -⟩ := hW;rw [hv] at hV;obtain ⟨rfl, rfl⟩ := ChangeShapes.trodVars_none hV;have hA' := hA;rw [hTs] at hA;have hlen : ds.length = Ts.length := by
   have aux : ∀ (Ts : List TypeId) (vs : List Value) (ds : List (DataW H)) (p : List MemPlace), DataW.TrodAll enc' P W 0 (fun _ => true) true Ts vs ds p -> ds.length = Ts.length := by
     intro Ts;induction Ts with
     | nil => intro vs ds p h; obtain ⟨_, rfl, _⟩ := ChangeShapes.trodAll_nil h; rfl
     | cons T Ts ih =>
       intro vs ds p h;obtain ⟨v, vs', d, ds', p1, q1, rfl, rfl, rfl, h1, h2⟩ := ChangeShapes.trodAll_cons h;simp [ih _ _ _ h2]
   exact aux _ _ _ _ hA
 obtain ⟨d, S, h1, h2, h3⟩ := b2L ht ho ps Ts args.toList ds p hpar hA fun j t v hj hvj => ⟨base, hval j t v (by
   rw [<- hTs] at hj;simpa using hj) (by simpa using hvj)⟩
 obtain ⟨mu, hF⟩ := hpure d h3;have hcall := hS.2 d _ hF W args.toList [] S S h1 (by simp) (by simp);simp only [Array.toArray_toList] at hcall;refine hcall.mono fun e W' hp => ?_;obtain ⟨us, F', S', M', T', rfl, hout, hmut, -, -, -, hold, hbel⟩ := hp;obtain ⟨v, vs', F1, F2, S1, S2, rfl, -, -, ⟨ws, ⟨rfl, -, -⟩, hsh⟩, ⟨rfl, -, -⟩⟩ := hout;have hsh : [Value.bool true] = [v] := by simpa [a0F] using hsh
 simp only [List.cons.injEq, and_true] at hsh;subst hsh;have bel : Below W.heap.size W W' := ⟨hbel.os, hbel.tape, hbel.output, hbel.size, fun b hb => hold b hb (by simp)⟩;have hfn := hs (ds ++ []) (by simpa using hlen);refine ⟨.bool true, rfl, ds, [], p ++ [], [], p, [], hW', ?_, ?_, ?_, bel.frame _, fun h => by cases h⟩
 . rw [hfn, hrt];exact ChangeShapes.trodAll_mk1 (Go.RowKit.shut_bool hub _)
 . rw [hfn, List.append_nil, hTs];exact b3R hl bel Ts args.toList ds p hread hA
 . rw [hfn, hv];rfl
end Go.Vm
end
section
namespace Go.Vm
variable {P : Program}
theorem growOK_of {g : FuncId} {E : TypeId} {t : Ty} {z : Value} (hE : ∃ fn, P.funcs[g]? = some fn /\ fn.body.isNone = false /\ (fn.name == "runtime.NumGoroutine") = false) (hzs : z.cells.size = t.sz)
   (h0 : ∀ w, Calls P g #[.slice none 0 0, .int .i64 ((0 : Nat) : Int)] w fun e w' => e = .returned (.slice none 0 0) /\ w' = w)
   (h1 : ∀ w (n : Nat), 0 < n -> n ≤ 1099511627776 -> Calls P g #[.slice none 0 0, .int .i64 (n : Int)] w fun e w' => ∃ G, n ≤ G /\ G ≤ 9223372036854775807 /\ e = .returned (.slice (some ⟨w.heap.size, 0, none⟩) 0 G) /\ w' = w.drew.alloc (.cells (Builtin.zeroCells z.cells n ++ Builtin.zeroCells z.cells (G - n)) E)) : b2E P (g, t) := by
 refine ⟨hE, fun w n hn => ?_⟩;by_cases hz : n = 0
 . subst hz;refine (h0 w).mono fun e w' ⟨he, hw⟩ => ?_;subst he hw;exact ⟨[.slice none 0 0], [], [], rfl, ⟨_, [], [], [], [], [], rfl, rfl, rfl, ⟨[_], ⟨none, 0, rfl, Nat.le_refl _, .inl ⟨rfl, rfl, rfl, fun _ => rfl⟩⟩, rfl⟩, ⟨rfl, rfl, rfl⟩⟩, by simp, by simp, by simp, fun _ _ => rfl, ⟨rfl, rfl, rfl, Nat.le_refl _, Nat.le_refl _⟩⟩
 . refine (h1 w n (by omega) (by simpa [bigN] using hn)).mono fun e w' ⟨G, hG, hG63, he, hw⟩ => ?_;subst he hw;obtain ⟨Z, hZ⟩ : ∃ Z, Z = Builtin.zeroCells z.cells n ++ Builtin.zeroCells z.cells (G - n) := ⟨_, rfl⟩;have hZs : Z.size = G * t.sz := by
     rw [hZ]; simp only [Array.size_append, Go.size_zeroCells, hzs];rw [<- Nat.add_mul]; congr 1; omega
   rw [<- hZ];have hheap : (w.drew.alloc (.cells Z E)).heap = w.heap.push (.cells Z E) := rfl;refine ⟨[.slice (some ⟨w.heap.size, 0, none⟩) 0 G], [w.heap.size], [], rfl, ⟨_, [], [w.heap.size], [], [], [], rfl, rfl, rfl, ⟨[_], ⟨some ⟨w.heap.size, 0, none⟩, G, rfl, Nat.zero_le _, .inr (.inl ⟨rfl, w.heap.size, Z, E, [], Z.toList, [], rfl, ?_, rfl, ⟨?_, ?_⟩, ⟨rfl, rfl, rfl⟩, rfl⟩)⟩, rfl⟩, ⟨rfl, rfl, rfl⟩⟩, by simp, by simp, by simp, fun b hb => ?_, ⟨rfl, rfl, rfl, ?_, Nat.le_succ _⟩⟩
   . rw [hheap]; simp
   . exact hZs
   . unfold maxLen; omega
   . rw [hheap, Array.getElem?_push]; rw [if_neg (by omega)]
   . rw [hheap]; simp
end Go.Vm
end
