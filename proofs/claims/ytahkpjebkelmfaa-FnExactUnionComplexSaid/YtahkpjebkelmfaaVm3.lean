/- What a machine on values does is what the program does. -/
import Derived.Carry
import Derived.ChangeArms
import Derived.ChangeOld
import Derived.ChangeShapes
import Derived.ChangeSlices
import Derived.KernelRfl
import Derived.Laws.AppendOwn
import Derived.Lib.AppendZeros
import Derived.Lib.SlKept
import Derived.Shelf.SlSortCmp.Kit1
import Derived.SizedLaws
import Derived.Test.YtahkpjebkelmfaaVm2
set_option linter.unusedSimpArgs false
set_option linter.unusedVariables false
section
namespace Go.Vm
mutual
def TV.within (l : List Nat) : TV -> Bool
 | .ref r _ => hasN l r
 | .view r _ _ _ => hasN l r
 | .fn _ caps => TV.withinL l caps
 | .tup _ ts => TV.withinL l ts
 | .pfn t => TV.within l t
 | _ => true
def TV.withinL (l : List Nat) : List TV -> Bool
 | [] => true
 | t :: ts => TV.within l t && TV.withinL l ts
end
def a4n (lt lr : List Nat) : Nat -> List TV -> List TV
 | _, [] => []
 | i, t :: ts => (match hasN lt i && t.within lr with
   | true => t
   | false => .dead) :: a4n lt lr (i + 1) ts
def a4p (rs : List (Nat × Root)) : List Nat -> List (Nat × Root)
 | [] => []
 | r :: l => match rget rs r with
   | some x => (r, x) :: a4p rs l
   | none => a4p rs l
def b2d (l : List Nat × List Nat) (σ : St) : St := ⟨a4n l.1 l.2 0 σ.ts, a4p σ.rs l.2⟩
def a1M : Code -> Option Nat
 | .region id _ _ => some id
 | .seq a b => match a1M a with
   | some i => some i
   | none => a1M b
 | .block _ b => a1M b
 | .loop b => a1M b
 | .cond _ a b => match a1M a with
   | some i => some i
   | none => a1M b
 | _ => none
structure Cfg where
 c : Ctx
 kp : List Nat
 cuts : List Nat
 live : Nat -> List Nat × List Nat
 weak : Nat -> List Nat
def a7F (g : Cfg) (c : Code) (σ : St) : St := match a1M c with
 | some i => b2d (g.live i) (a4e (g.weak i) σ)
 | none => σ
variable {R : Type}
def a2N (kp : List Nat) : List Oper -> Bool
 | [] => true
 | o :: l => (match o.dst with
   | some d => !hasN kp d
   | none => true) && a2N kp l
def a1t (r : Nat) (σ : St) : St := match rget σ.rs r with
 | some _ => σ.del r
 | none => σ
def a1A : List Oper -> St -> St
 | [], σ => σ
 | o :: l, σ => match adds o, o.dst with
   | true, some d => a1A l (a1t (4 * d) (a1t (4 * d + 1) (a1t (4 * d + 2) (a1t (4 * d + 3) σ))))
   | _, _ => a1A l σ
def a5z (c : Ctx) (all : List Oper) (i : Nat) (mvd : List Nat) (o : Oper) (σ : St) (k : List Nat -> St -> Option R) : Option R := match a4N c o σ with
 | true => a0E c o σ (k mvd)
 | false => match mvOp c o σ with
   | some q => match sepB all i q.1 σ with
     | true => k (q.1 ++ mvd) ((a1n [q.2.1] σ).put o.dst q.2.2)
     | false => none
   | none => none
def a3X (c : Ctx) (all : List Oper) : List Oper -> Nat -> List Nat -> St -> (St -> Option R) -> Option R
 | [], _, mvd, σ, k => k (a0G mvd σ)
 | o :: l, i, mvd, σ, k => match freeO all mvd σ o with
   | false => none
   | true => match o.guard with
     | none => a5z c all i mvd o σ fun mvd' σ' => a3X c all l (i + 1) mvd' σ' k
     | some (j, want) => match (nth (all.map some) j none).bind (·.dst) with
       | none => none
       | some t => match b0m (nth σ.ts t .dead) with
         | true => a3X c all l (i + 1) mvd (σ.put o.dst und) k
         | false => match asBool (nth σ.ts t .dead) with
           | none => none
           | some b => if b = true then (match want with
               | true => a5z c all i mvd o ⟨upd σ.ts t (vB true), σ.rs⟩ fun mvd' σ' => a3X c all l (i + 1) mvd' σ' k
               | false => a3X c all l (i + 1) mvd ((⟨upd σ.ts t (vB true), σ.rs⟩ : St).put o.dst und) k)
             else (match want with
               | false => a5z c all i mvd o ⟨upd σ.ts t (vB false), σ.rs⟩ fun mvd' σ' => a3X c all l (i + 1) mvd' σ' k
               | true => a3X c all l (i + 1) mvd ((⟨upd σ.ts t (vB false), σ.rs⟩ : St).put o.dst und) k)
def writes (lv : Nat) (o : Oper) : Bool := match o.op with
 | .store _ _ _ => true
 | .assign _ => !Nat.beq lv 0
 | .call cl => match cl.callee with
   | .builtin .append => true
   | .builtin .copy => true
   | .builtin .clear => true
   | .builtin _ => false
   | _ => Nat.beq lv 2
 | _ => false
def a2J (lv : Nat) : List Oper -> Nat
 | [] => 0
 | o :: l => match writes lv o with
   | true => 0
   | false => a2J lv l + 1
def pickM (all : List Oper) (n : Nat) : Option Nat := match a1W all (a2J 1 all) n with
 | true => some (a2J 1 all)
 | false => match a1W all (a2J 0 all) n with
   | true => some (a2J 0 all)
   | false => match a1W all (a2J 2 all) n with
     | true => some (a2J 2 all)
     | false => none
def a5f (t : Nat) (all : List Oper) (ts : List TV) : Option (Nat × List Oper) := match a3J t all ts with
 | some all' => match a1W all' t ts.length with
   | true => some (t, all')
   | false => none
 | none => none
def pickF (all : List Oper) (ts : List TV) : Option (Nat × List Oper) := match pickM all ts.length with
 | some m => some (m, all)
 | none => match a5f (a2J 1 all) all ts with
   | some q => some q
   | none => match a5f (a2J 0 all) all ts with
     | some q => some q
     | none => a5f (a2J 2 all) all ts
def b3l (c : Ctx) (o : Oper) : Bool := match o.op with
 | .call cl => match cl.callee with
   | .value (.func g) => !a8G g c.callees
   | _ => false
 | _ => false
def b1U (c : Ctx) : List Oper -> Bool
 | [] => false
 | o :: l => b3l c o || b1U c l
def a7z (c : Ctx) : List Oper -> Nat
 | [] => 0
 | o :: l => match b3l c o with
   | true => 0
   | false => a7z c l + 1
def b3g (g : FuncId) : List Callee -> Bool
 | [] => false
 | e :: l => match Nat.decEq e.f g with
   | .isTrue _ => !a3x e.s.outs
   | .isFalse _ => b3g g l
def b0q (t : Nat) : List Oper -> Bool
 | [] => false
 | o :: l => (match o.dst, o.op with
   | some d, .call cl => Nat.beq d t && (match cl.callee with
     | .value (.func _) => true
     | _ => false)
   | _, _ => false) || b0q t l
def a9F (all : List Oper) : List Operand -> Bool
 | [] => false
 | .tmp t :: l => b0q t all || a9F all l
 | _ :: l => a9F all l
def lendOp (c : Ctx) (all : List Oper) (o : Oper) : Bool := match o.op with
 | .call cl => match cl.callee with
   | .value (.func g) => b3g g c.callees && a9F all cl.args.toList
   | _ => false
 | _ => false
def b3d (c : Ctx) (all : List Oper) : List Oper -> Nat -> Option Nat
 | [], _ => none
 | o :: l, i => match lendOp c all o with
   | true => some i
   | false => b3d c all l (i + 1)
def pickL (c : Ctx) (all : List Oper) (ts : List TV) : Option (Nat × List Oper) := match b3d c all all 0 with
 | none => none
 | some t => match Nat.ble t all.length with
   | false => none
   | true => match a1W all t ts.length with
     | true => some (t, all)
     | false => a5f t all ts
def pickG (c : Ctx) (all : List Oper) (ts : List TV) : Option (Nat × List Oper) := match b1U c all with
 | true => match a1W all (a7z c all) ts.length with
   | true => some (a7z c all, all)
   | false => a5f (a7z c all) all ts
 | false => match pickL c all ts with
   | some q => some q
   | none => pickF all ts
def b2f (c : Ctx) (all : List Oper) (σ : St) (k : St -> Option R) : Option R := match pickG c all σ.ts with
 | none => none
 | some q => a3X c q.2 (q.2.take q.1) 0 [] (a1A (q.2.take q.1) σ) fun σ' => opsK c q.2 (q.2.drop q.1) σ' k
noncomputable def both (a b : Option R) : Option R := @ite _ (a = b) (Classical.propDecidable _) a none
theorem a7t {a b : Option R} {r : R} (h : both a b = some r) : a = some r /\ b = some r := by
 unfold both at h;split at h
 . rename_i he; exact ⟨h, he ▸ h⟩
 . cases h
theorem both_mk {a b : Option R} {r : R} (h1 : a = some r) (h2 : b = some r) : both a b = some r := by
 unfold both;rw [h1, h2, if_pos rfl]
def a9U (c : Ctx) (o : Oper) (σ : St) : Option (Bool × Nat) := match o.op, o.guard with
 | .binOp .eql T x y _, none => match nilO y, c.tab T, lenOf σ (a0x σ x) with
   | true, some ⟨false, .sl _, _, _⟩, some n => some (true, n)
   | _, _, _ => none
 | .binOp .neq T x y _, none => match nilO y, c.tab T, lenOf σ (a0x σ x) with
   | true, some ⟨false, .sl _, _, _⟩, some n => some (false, n)
   | _, _, _ => none
 | _, _ => none
noncomputable def opsU (c : Ctx) (all : List Oper) : List Oper -> St -> (St -> Option R) -> Option R
 | [], σ, k => k σ
 | o :: l, σ, k => match a9U c o σ with
   | some p => if 0 < p.2 then opsU c all l (σ.put o.dst (vB (!p.1))) k else both (opsU c all l (σ.put o.dst (vB true)) k) (opsU c all l (σ.put o.dst (vB false)) k)
   | none => opsK c all [o] σ fun σ' => opsU c all l σ' k
noncomputable def a3o (g : Cfg) (ops : Array Oper) (draw : Bool) (σ : St) (k : St -> Option R) : Option R := match a2N g.kp ops.toList with
 | false => none
 | true => match draw with
   | false => opsU g.c ops.toList ops.toList σ k
   | true => b2f g.c ops.toList σ k
noncomputable def a1G (g : Cfg) (fin : St -> Option R) (O : List Item -> St -> Option R) : Nat -> List Item -> St -> Option R
 | 0, _, _ => none
 | _ + 1, [], σ => fin σ
 | s + 1, .inBlock _ :: t, σ => a1G g fin O s t σ
 | _ + 1, .inLoop c :: t, σ => O (.inLoop c :: t) (a7F g c σ)
 | s + 1, .code c :: t, σ => match c with
   | .skip => a1G g fin O s t σ
   | .label _ => a1G g fin O s t σ
   | .region id ops draw => match hasN g.cuts id with
     | true => O (.code (.region id ops draw) :: t) (b2d (g.live id) σ)
     | false => a3o g ops draw σ fun σ' => a1G g fin O s t σ'
   | .seq x y => a1G g fin O s (.code x :: .code y :: t) σ
   | .cond b x y => match asBool (a0x σ b) with
     | some v => if v = true then a1G g fin O s (.code x :: t) σ else a1G g fin O s (.code y :: t) σ
     | none => none
   | .block id x => a1G g fin O s (.code x :: .inBlock id :: t) σ
   | .loop x => O (.inLoop x :: t) (a7F g x σ)
   | .exit id => match exitTo id t with
     | some t' => a1G g fin O s t' σ
     | none => none
   | .ret => fin σ
   | _ => none
 | _ + 1, _ :: _, _ => none
def big : Nat := 4096
noncomputable def runT (g : Cfg) (fin : St -> Option R) : Nat -> List Item -> St -> Option R
 | 0, _, _ => none
 | k + 1, .inLoop c :: t, σ => a1G g fin (runT g fin k) big (.code c :: .inLoop c :: t) σ
 | k + 1, .code (.region _ ops draw) :: t, σ => a3o g ops draw σ fun σ' => a1G g fin (runT g fin k) big t σ'
 | _ + 1, _, _ => none
theorem a7j (o : Oper) (k : St -> Option R) (x : Option (St × List TV)) : a6P o k x = (a6P o some x).bind k := by cases x <;> rfl
theorem a5L (c : Ctx) (o : Oper) (g : FuncId) (az : List TV) (σ : St) (k : St -> Option R) (l : List Callee) : a2p c o g az σ k l = (a2p c o g az σ some l).bind k := by
 induction l with
 | nil => rfl
 | cons e l ih =>
   simp only [a2p];split
   . split
     . split
       . rw [Option.bind_assoc];congr 1;funext r;exact a7j _ _ _
       . rfl
     . exact ih
   . exact ih
theorem a6a (c : Ctx) (asg : Bool) (o : Oper) (x : Operand) (σ : St) (k : St -> Option R) : a5j c asg o x σ k = (a5j c asg o x σ some).bind k := by
 unfold a5j
 repeat' split
 all_goals rfl
theorem b1w (o : Oper) (x y z : Operand) (σ : St) (k : St -> Option R) : a6E o x y z σ k = (a6E o x y z σ some).bind k := by
 unfold a6E
 repeat' split
 all_goals rfl
theorem a4f (c : Ctx) (o : Oper) (σ : St) (k : St -> Option R) : a0E c o σ k = (a0E c o σ some).bind k := by
 unfold a0E;split
 . exact a6a _ _ _ _ _ _
 . exact a6a _ _ _ _ _ _
 . exact b1w _ _ _ _ _ _
 . unfold a5J; repeat' split
   all_goals rfl
 . unfold boxK; repeat' split
   all_goals rfl
 . unfold a5V; repeat' split
   all_goals rfl
 . split
   . unfold b0O; repeat' split
     all_goals first | rfl | (unfold a5F; repeat' split)
     all_goals rfl
   . rfl
 . unfold a2x; repeat' split
   all_goals rfl
 . unfold binC; split
   . unfold a9y; repeat' split
     all_goals rfl
   . split
     . unfold binK; repeat' split
       all_goals rfl
     unfold eqK; repeat' split
     all_goals first | rfl | (unfold eqB; split <;> rfl)
 . unfold unK; repeat' split
   all_goals rfl
 . unfold a1a; repeat' split
   all_goals rfl
 . unfold a1N; repeat' split
   all_goals rfl
 . unfold a1O; repeat' split
   all_goals rfl
 . unfold a2c; repeat' split
   all_goals rfl
 . split
   . unfold litK; repeat' split
     all_goals rfl
   . unfold a0l; repeat' split
     all_goals rfl
 . unfold a2y; repeat' split
   all_goals rfl
 . split
   . unfold a5K; repeat' split
     all_goals rfl
   . unfold a4k; repeat' split
     all_goals rfl
 . unfold a2b; repeat' split
   all_goals rfl
 . split
   . unfold subK; repeat' split
     all_goals rfl
   . unfold a5r; repeat' split
     all_goals rfl
 . split
   . split
     . split
       . unfold lenK; repeat' split
         all_goals rfl
       . rfl
     . rfl
   . split
     . split
       . unfold a7C; repeat' split
         all_goals rfl
       . rfl
     . rfl
   . split
     . unfold mmK; repeat' split
       all_goals rfl
     . rfl
   . split
     . unfold mmK; repeat' split
       all_goals rfl
     . rfl
   . split
     . split
       . split
         . unfold b2l; split
           . split
             . split
               . unfold a7E; split
                 . simp only [Option.bind_some];exact a7j _ _ _
                 . rfl
               . rfl
             . rfl
           . rfl
         . rfl
       . unfold b0b; split
         . exact a5L _ _ _ _ _ _ _
         . split
           . exact a5L _ _ _ _ _ _ _
           . rfl
     . unfold a7E; split
       . rw [Option.bind_assoc];congr 1
       . rfl
     . rfl
   . rfl
 . rfl
def Le {A : Type} (f h : A -> Option R) : Prop := ∀ x r, f x = some r -> h x = some r
theorem a5E {c : Ctx} {o : Oper} {σ : St} {k k' : St -> Option R} (hk : Le k k') {r : R} (h : a0E c o σ k = some r) : a0E c o σ k' = some r := by
 rw [a4f] at h ⊢;cases hs : a0E c o σ some with
 | none => rw [hs] at h; cases h
 | some σ' => rw [hs] at h; exact hk _ _ h
theorem b1u {c : Ctx} {all : List Oper} {k k' : St -> Option R} (hk : Le k k') : ∀ (l : List Oper) (σ : St) {r : R}, opsK c all l σ k = some r -> opsK c all l σ k' = some r := by
 intro l;induction l with
 | nil => intro σ r h; exact hk _ _ h
 | cons o l ih =>
   intro σ r h;simp only [opsK] at h ⊢;split at h
   . exact a5E (fun σ' r' h' => ih σ' h') h
   . split at h
     . cases h
     . split at h
       . exact ih _ h
       . split at h
         . cases h
         rename_i b hb;cases b with
         | true =>
           simp only [if_true] at h ⊢;split at h
           . exact a5E (fun σ' r' h' => ih σ' h') h
           . exact ih _ h
         | false =>
           simp only [Bool.false_eq_true, if_false] at h ⊢;split at h
           . exact a5E (fun σ' r' h' => ih σ' h') h
           . exact ih _ h
theorem a5t {c : Ctx} {all : List Oper} {i : Nat} {mvd : List Nat} {o : Oper} {σ : St} {k k' : List Nat -> St -> Option R} (hk : ∀ m, Le (k m) (k' m)) {r : R} (h : a5z c all i mvd o σ k = some r) : a5z c all i mvd o σ k' = some r := by
 unfold a5z at h ⊢;split at h
 . exact a5E (hk _) h
 . split at h
   . split at h
     . exact hk _ _ _ h
     . cases h
   . cases h
theorem b3j {c : Ctx} {all : List Oper} {k k' : St -> Option R} (hk : Le k k') : ∀ (l : List Oper) (i : Nat) (mvd : List Nat) (σ : St) {r : R}, a3X c all l i mvd σ k = some r -> a3X c all l i mvd σ k' = some r := by
 intro l;induction l with
 | nil => intro i mvd σ r h; exact hk _ _ h
 | cons o l ih =>
   intro i mvd σ r h;simp only [a3X] at h ⊢;split at h
   . cases h
   split at h
   . exact a5t (fun m σ' r' h' => ih _ m σ' h') h
   . split at h
     . cases h
     . split at h
       . exact ih _ _ _ h
       . split at h
         . cases h
         rename_i b hb;cases b with
         | true =>
           simp only [if_true] at h ⊢;split at h
           . exact a5t (fun m σ' r' h' => ih _ m σ' h') h
           . exact ih _ _ _ h
         | false =>
           simp only [Bool.false_eq_true, if_false] at h ⊢;split at h
           . exact a5t (fun m σ' r' h' => ih _ m σ' h') h
           . exact ih _ _ _ h
theorem opsU_le {c : Ctx} {all : List Oper} {k k' : St -> Option R} (hk : Le k k') : ∀ (l : List Oper) (σ : St) {r : R}, opsU c all l σ k = some r -> opsU c all l σ k' = some r := by
 intro l;induction l with
 | nil => intro σ r h; exact hk _ _ h
 | cons o l ih =>
   intro σ r h;simp only [opsU] at h ⊢;split at h
   . split at h
     . rename_i h0; simp only [if_pos h0]; exact ih _ h
     . rename_i h0;simp only [if_neg h0];obtain ⟨h1, h2⟩ := a7t h;exact both_mk (ih _ h1) (ih _ h2)
   . exact b1u (fun σ' r' h' => ih σ' h') _ _ h
theorem a6p {g : Cfg} {ops : Array Oper} {draw : Bool} {σ : St} {k k' : St -> Option R} (hk : Le k k') {r : R} (h : a3o g ops draw σ k = some r) : a3o g ops draw σ k' = some r := by
 unfold a3o at h ⊢;split at h
 . cases h
 cases draw with
 | false => exact opsU_le hk _ _ h
 | true =>
   simp only [b2f] at h ⊢;split at h
   . cases h
   . exact b3j (fun σ' r' h' => b1u hk _ _ h') _ _ _ _ h
def Le2 {A B : Type} (f h : A -> B -> Option R) : Prop := ∀ x y r, f x y = some r -> h x y = some r
theorem a5u {g : Cfg} {fin : St -> Option R} {O O' : List Item -> St -> Option R} (hO : Le2 O O') : ∀ (s : Nat) (t : List Item) (σ : St) (r : R), a1G g fin O s t σ = some r -> a1G g fin O' s t σ = some r := by
 intro s;induction s with
 | zero => intro t σ r h; cases h
 | succ s ih =>
   intro t σ r h;cases t with
   | nil => exact h
   | cons x t =>
     cases x with
     | code c =>
       cases c with
       | skip => exact ih _ _ _ h
       | label l => exact ih _ _ _ h
       | region id ops draw =>
         simp only [a1G] at h ⊢;cases hc : hasN g.cuts id with
         | true => rw [hc] at h; exact hO _ _ _ h
         | false => rw [hc] at h; exact a6p (fun σ' r' h' => ih _ _ _ h') h
       | seq a b => exact ih _ _ _ h
       | cond b x y =>
         simp only [a1G] at h ⊢;split at h
         . rename_i v hv;cases v with
           | true => exact ih _ _ _ h
           | false => exact ih _ _ _ h
         . cases h
       | block id b => exact ih _ _ _ h
       | loop b => exact hO _ _ _ h
       | exit id =>
         simp only [a1G] at h ⊢;split at h
         . exact ih _ _ _ h
         . cases h
       | ret => exact h
       | _ => cases h
     | inBlock id => exact ih _ _ _ h
     | inLoop c => exact hO _ _ _ h
     | _ => cases h
theorem a8o {g : Cfg} {fin : St -> Option R} : ∀ k, Le2 (runT g fin k) (runT g fin (k + 1)) := by
 intro k;induction k with
 | zero => intro t σ r h; cases h
 | succ k ih =>
   intro t σ r h
   match t, h with
   | .inLoop c :: t, h => exact a5u ih _ _ _ _ h
   | .code (.region id ops draw) :: t, h => exact a6p (fun σ' r' h' => a5u ih _ _ _ _ h') h
theorem runT_le {g : Cfg} {fin : St -> Option R} {k k' : Nat} (h : k ≤ k') : Le2 (runT g fin k) (runT g fin k') := by
 induction h with
 | refl => intro t σ r h; exact h
 | step _ ih => intro t σ r h; exact a8o _ _ _ _ (ih _ _ _ h)
end Go.Vm
end
section
namespace Go.Vm
variable {P : Program} {R : Type}
theorem a8h (rs : List (Nat × Root)) : ∀ (l : List Nat) (q : Nat), rget (a4p rs l) q = if q ∈ l then rget rs q else none := by
 intro l;induction l with
 | nil => intro q; simp [a4p, rget]
 | cons r l ih =>
   intro q;simp only [a4p];cases hr : rget rs r with
   | none =>
     simp only [ih, List.mem_cons];by_cases hq : q = r
     . subst hq; simp [hr]
     . simp [hq]
   | some x =>
     simp only [rget];cases hd : Nat.decEq r q with
     | isTrue h => subst h; simp [hr]
     | isFalse h => simp only [ih, List.mem_cons, Ne.symm h, false_or]
mutual
theorem a4y {rs rs' : List (Nat × Root)} {G : Nat -> RG} {w : World} {l : List Nat} (hrs : ∀ q, q ∈ l -> rget rs' q = rget rs q) :
   ∀ (t : TV) (v : Value) (S A : List Nat), t.within l = true -> TRep P rs G w t v S A -> TRep P rs' G w t v S A
 | .dead, _, _, _, _, h => h
 | .val agg cs, v, S, A, _, h => h
 | .rptr s cs, v, S, A, _, h => h
 | .ref q p, v, S, A, hu, h => by
   obtain ⟨rfl, rfl, x, ad, us, hx, hp, hl, rfl⟩ := h;exact ⟨rfl, rfl, x, ad, us, by rw [hrs q (a0s hu)]; exact hx, hp, hl, rfl⟩
 | .view q p n agg, v, S, A, hu, h => by
   obtain ⟨rfl, rfl, x, ad, us, hx, hp, hl, h1, h2⟩ := h;exact ⟨rfl, rfl, x, ad, us, by rw [hrs q (a0s hu)]; exact hx, hp, hl, h1, h2⟩
 | .fn f caps, v, S, A, hu, h => by
   obtain ⟨vs, rfl, h⟩ := h;exact ⟨vs, rfl, a3E hrs caps vs S A (by simpa [TV.within] using hu) h⟩
 | .fnx s g, v, S, A, _, h => h
 | .tup k ts, v, S, A, hu, h => by
   obtain ⟨vs, hv, h⟩ := h;exact ⟨vs, hv, a3E hrs ts vs S A (by simpa [TV.within] using hu) h⟩
 | .pfn t, v, S, A, hu, h => by
   obtain ⟨ad, u, S0, rfl, hc, hlt, h, rfl⟩ := h;exact ⟨ad, u, S0, rfl, hc, hlt, a4y hrs t u S0 A (by simpa [TV.within] using hu) h, rfl⟩
theorem a3E {rs rs' : List (Nat × Root)} {G : Nat -> RG} {w : World} {l : List Nat} (hrs : ∀ q, q ∈ l -> rget rs' q = rget rs q) :
   ∀ (ts : List TV) (vs : List Value) (S A : List Nat), TV.withinL l ts = true -> a1y P rs G w ts vs S A -> a1y P rs' G w ts vs S A
 | [], _, _, _, _, h => h
 | t :: ts, vs, S, A, hu, h => by
   obtain ⟨v, vs', S1, S2, A1, A2, rfl, rfl, rfl, h1, h2⟩ := h;simp only [TV.withinL, Bool.and_eq_true] at hu;exact ⟨v, vs', S1, S2, A1, A2, rfl, rfl, rfl, a4y hrs t v S1 A1 hu.1 h1, a3E hrs ts vs' S2 A2 hu.2 h2⟩
end
theorem b0n (lt lr : List Nat) : ∀ (ts : List TV) (n i : Nat) (t' : TV), (a4n lt lr n ts)[i]? = some t' -> t' = .dead ∨ (ts[i]? = some t' /\ t'.within lr = true) := by
 intro ts;induction ts with
 | nil => intro n i t' h; simp [a4n] at h
 | cons t ts ih =>
   intro n i t' h;cases i with
   | zero =>
     simp only [a4n, List.getElem?_cons_zero, Option.some.injEq] at h;cases hb : (hasN lt n && t.within lr) with
     | true =>
       rw [hb] at h;subst h;simp only [Bool.and_eq_true] at hb;exact .inr ⟨rfl, hb.2⟩
     | false => rw [hb] at h; exact .inl h.symm
   | succ i =>
     simp only [a4n, List.getElem?_cons_succ] at h ⊢;exact ih _ _ _ h
theorem a7O (lt lr : List Nat) : ∀ (ts : List TV) (n : Nat), (a4n lt lr n ts).length = ts.length := by
 intro ts;induction ts with
 | nil => intro n; rfl
 | cons t ts ih => intro n; simp [a4n, ih]
theorem a5M {E : Env} {σ : St} {a : Act} {w : World} {G : Nat -> RG} (h : Rel P E σ a w G) (l : List Nat × List Nat) : Rel P E (b2d l σ) a w G := by
 have hrs : ∀ q, q ∈ l.2 -> rget (a4p σ.rs l.2) q = rget σ.rs q := fun q hq => by rw [a8h, if_pos hq]
 refine ⟨h.defers, ?_, a5C h.r fun q x hx => ?_⟩
 . refine a1x h.temps (by rw [b2d]; exact a7O _ _ _ _) fun i t' ht' => ?_;rcases b0n _ _ _ _ _ _ ht' with rfl | ⟨h1, h2⟩
   . exact .inl rfl
   . exact .inr ⟨t', h1, fun v S A hS hf => ⟨a4y hrs t' v S A h2 hS, hf⟩⟩
 . have hx : rget (a4p σ.rs l.2) q = some x := hx;rw [a8h] at hx;split at hx
   . exact hx
   . cases hx
theorem a4B {E : Env} {σ : St} {a : Act} {w : World} {G : Nat -> RG} (h : Rel P E σ a w G) (g : Cfg) (c : Code) : ∃ G', Rel P E (a7F g c σ) a w G' := by
 unfold a7F;split
 . obtain ⟨G', h'⟩ := a4T _ σ G h;exact ⟨G', a5M h' _⟩
 . exact ⟨G, h⟩
theorem Oper.wp_put {o : Oper} {a : Act} {w : World} {K : Act -> World -> Prop} {Q : Exit -> Act -> World -> Prop} (h : o.wp P a w K Q) : o.wp P a w (fun a' w' => K a' w' /\ ∃ v ds, a'.tmps = (({ a with defers := ds } : Act).put o.dst v).tmps) Q := by
 unfold Oper.wp at *;generalize (execOp a.eval o).run P w = r at *;have e : ∀ v, (a.put o.dst v).tmps = (({ a with defers := a.defers } : Act).put o.dst v).tmps := fun v => rfl;cases r with
 | ok n w' =>
   cases n <;> simp only [Oper.upon] at h ⊢
   case value v => exact ⟨h, v, a.defers, rfl⟩
   case skip => exact ⟨h, undef, a.defers, rfl⟩
   case defer d => exact ⟨h, undef, d :: a.defers, rfl⟩
   case enter f args => exact Calls.mono h (fun e w'' he => by cases e <;> first | exact ⟨he, _, a.defers, rfl⟩ | exact he)
   case row row args => exact Rows.mono h (fun v w'' he => ⟨he, v, a.defers, rfl⟩)
 | halt x w' => cases x <;> simp only [Oper.upon] at h ⊢ <;> exact h
def Keep (kv : List (Nat × Value)) (a : Act) : Prop := ∀ p ∈ kv, a.tmps[p.1]? = some p.2
theorem a4I {kv : List (Nat × Value)} {a a' : Act} (h : Keep kv a) {d : Option Tmp} {v : Value} {ds : List Deferred} (ha : a'.tmps = (({ a with defers := ds } : Act).put d v).tmps) (hd : ∀ e, d = some e -> e ∉ kv.map (·.1)) : Keep kv a' := by
 intro p hp;rw [ha, b3C];cases d with
 | none => exact h p hp
 | some e =>
   have hne : e ≠ p.1 := fun he => hd e rfl (he ▸ List.mem_map.2 ⟨p, hp, rfl⟩);simp only [];rw [Array.getElem?_setIfInBounds_ne hne];exact h p hp
def a9D (P : Program) (E : Env) (kv : List (Nat × Value)) (k : St -> Option R) (r : R) (e : Exit) (a : Act) (w : World) : Prop := e = .normal /\ Keep kv a /\ ∃ σ G, Rel P E σ a w G /\ k σ = some r
theorem a3H {kp : List Nat} : ∀ {l : List Oper}, a2N kp l = true -> ∀ o ∈ l, ∀ d, o.dst = some d -> d ∉ kp := by
 intro l;induction l with
 | nil => intro _ o ho; cases ho
 | cons x l ih =>
   intro h o ho d hd;simp only [a2N, Bool.and_eq_true] at h;simp only [List.mem_cons] at ho;rcases ho with rfl | ho
   . rw [hd] at h;exact a3K (by simpa using h.1)
   . exact ih h.2 o ho d hd
theorem vB_of {σ : St} {t : Nat} {b : Bool} (h : asBool (nth σ.ts t .dead) = some b) : nth σ.ts t .dead = vB b /\ t < σ.ts.length := by
 rw [a0i] at h ⊢;cases ht : σ.ts[t]? with
 | none => rw [ht] at h; cases h
 | some tv =>
   rw [ht] at h;have hl : t < σ.ts.length := by
     rcases Nat.lt_or_ge t σ.ts.length with h | h
     . exact h
     . rw [List.getElem?_eq_none h] at ht; cases ht
   refine ⟨?_, hl⟩;simp only [Option.getD_some] at h ⊢;unfold asBool at h;split at h
   . obtain rfl := Option.some.inj h; rfl
   . cases h
theorem b0S {l : List TV} {i : Nat} {x : TV} (h : nth l i .dead = x) (hl : i < l.length) : upd l i x = l := by
 rw [a5y];rw [a0i, List.getElem?_eq_getElem hl] at h;simp only [Option.getD_some] at h;rw [<- h];exact List.set_getElem_self hl
theorem b0R (rs : List (Nat × Root)) (G : Nat -> RG) (w : World) : TRep P rs G w und undef [] [] := ⟨[], rfl, rfl, rfl, rfl⟩
theorem und_get {E : Env} {σ : St} {a : Act} {w : World} {G : Nat -> RG} (h : Rel P E σ a w G) {t : Nat} (hu : b0m (nth σ.ts t .dead) = true) : a.tmps[t]? = some undef := by
 rw [a0i] at hu;cases ht : σ.ts[t]? with
 | none => rw [ht] at hu; cases hu
 | some tv =>
   rw [ht] at hu;simp only [Option.getD_some] at hu;obtain ⟨v, S, A, hv, hr, -⟩ := h.temps.2 t tv ht;unfold b0m at hu;split at hu
   . obtain ⟨vs, rfl, h1, -⟩ := hr;subst h1;exact hv
   . cases hu
theorem a9v {E : Env} {σ : St} {a : Act} {w : World} {G : Nat -> RG} (h : Rel P E σ a w G) {t : Nat} (hu : b0m (nth σ.ts t .dead) = true) : (match (some t).bind (a.tmps[·]?) with
   | some (.bool b) => some b
   | _ => none) = none := by
 simp only [Option.bind_some, und_get h hu];rfl
theorem b1t {E : Env} {c : Ctx} (hctx : CtxOK P c) {ops : Array Oper} {K : St -> Option R} {r : R} {X : Exit -> Act -> World -> Prop} {kv : List (Nat × Value)} (hkp : a2N (kv.map (·.1)) ops.toList = true) (o : Oper) (i : Nat) (is : List Nat) (σ : St) (a : Act) (w : World) (G : Nat -> RG) (hi : ops[i]? = some o)
   (h : opsK c ops.toList [o] σ K = some r) (hrel : Rel P E σ a w G) (hkeep : Keep kv a) (hK : ∀ σ' a' w' G', K σ' = some r -> Rel P E σ' a' w' G' -> Keep kv a' -> wpOps P ops X is a' w') : wpOps P ops X (i :: is) a w := by
 have hmem : o ∈ ops.toList := by
   have := Array.mem_of_getElem? hi;simpa using this
 have hd := a3H hkp o hmem;have run : ∀ σ', Rel P E σ' a w G -> (a0E c o σ' K) = some r -> o.wp P a w (wpOps P ops X is) X := by
   intro σ' hrel' h;refine Oper.wp_mono (fun a' w' h' => ?_) (Oper.wp_put (a7v hctx hrel' h X));obtain ⟨⟨σ2, G2, h1, h2⟩, v, ds, h3⟩ := h';exact hK σ2 a' w' G2 h2 h1 (a4I hkeep h3 hd)
 simp only [opsK] at h;simp only [wpOps, hi];cases hg : o.guard with
 | none =>
   rw [hg] at h;have hw : Region.wanted o (yielded ops a.tmps) = true := by simp [Region.wanted, hg]
   rw [if_pos hw];exact .inl (run σ hrel h)
 | some gw =>
   obtain ⟨j, want⟩ := gw;rw [hg] at h;simp only [] at h;split at h
   . cases h
   rename_i t ht;have hdst : (ops[j]?).bind (·.dst) = some t := by
     rw [a0i, List.getElem?_map] at ht;cases hoj : ops[j]? with
     | none => simp [hoj] at ht
     | some oj => simpa [hoj] using ht
   have skip : ∀ σ', Rel P E σ' a w G -> K (σ'.put o.dst und) = some r -> wpOps P ops X is (a.put o.dst undef) w := by
     intro σ' hrel' h';exact hK _ _ w G h' (a0B hrel' o.dst (t := und) (b0R _ _ _) (Fine2.nil _ _)) (a4I hkeep (ds := a.defers) rfl hd)
   split at h
   . rename_i hu;have hyield : yielded ops a.tmps j = none := by
       unfold yielded;rw [hdst];exact a9v hrel hu
     have hwanted : Region.wanted o (yielded ops a.tmps) = false := by
       simp only [Region.wanted, hg, hyield];rfl
     rw [hwanted];exact skip σ hrel h
   split at h
   . cases h
   rename_i b hb;obtain ⟨htv, htl⟩ := vB_of hb;have hself := b0S htv htl;obtain ⟨v, S, A, hv, hr, hf⟩ := hrel.temps.2 t (vB b) (by rw [a0i, List.getElem?_eq_getElem htl] at htv; rw [List.getElem?_eq_getElem htl]; simpa using htv);have hvb := a2w hr rfl;subst hvb;have hyield : yielded ops a.tmps j = some b := by
     unfold yielded;rw [hdst];simp [hv]
   have hwanted : Region.wanted o (yielded ops a.tmps) = (b == want) := by
     simp only [Region.wanted, hg, hyield];cases b <;> cases want <;> rfl
   cases b with
   | true =>
     simp only [if_true] at h;rw [hself] at h;cases want with
     | true => rw [hwanted]; exact .inl (run σ hrel h)
     | false => rw [hwanted]; exact skip σ hrel h
   | false =>
     simp only [Bool.false_eq_true, if_false] at h;rw [hself] at h;cases want with
     | false => rw [hwanted]; exact .inl (run σ hrel h)
     | true => rw [hwanted]; exact skip σ hrel h
theorem b2G (w : World) (d : Nat) (t e : TypeId) (a : Option Addr) (l c : Nat) (h : P.underlying t = some (.slice e)) : (Op.equalIn (d + 1) t (.slice a l c) (.slice none 0 0)).run P w = .ok a.isNone w := by
 cases a <;> simp [Op.equalIn, run_underlying h]
theorem a8u (w : World) (t e : TypeId) (a : Option Addr) (l c : Nat) (h : P.underlying t = some (.slice e)) : (Op.equal t (.slice a l c) (.slice none 0 0)).run P w = .ok a.isNone w := b2G w 9999 t e a l c h
theorem b3L (w : World) (t e : TypeId) (a : Option Addr) (l c : Nat) (h : P.underlying t = some (.slice e)) : (binOp .eql t (.slice a l c) (.slice none 0 0)).run P w = .ok (.bool a.isNone) w := by
 simp only [binOp];simp [a8u w t e a l c h]
theorem b3M (w : World) (t e : TypeId) (a : Option Addr) (l c : Nat) (h : P.underlying t = some (.slice e)) : (binOp .neq t (.slice a l c) (.slice none 0 0)).run P w = .ok (.bool (!a.isNone)) w := by
 simp only [binOp];simp [a8u w t e a l c h]
theorem b1s {E : Env} {c : Ctx} (ht : TabOK P c.tab) {o : Oper} {σ : St} {a : Act} {w : World} {G : Nat -> RG} {p : Bool × Nat} (h : Rel P E σ a w G) (hn : a9U c o σ = some p) :
   o.guard = none /\ ∃ b : Bool, (execOp a.eval o).run P w = .ok (.value (.bool b)) w /\ (0 < p.2 -> b = !p.1) := by
 have val : ∀ (x : Operand) (n : Nat), lenOf σ (a0x σ x) = some n -> ∃ A cc, a.eval x = .slice A n cc /\ (0 < n -> A ≠ none) := by
   intro x n hl;obtain ⟨S1, A1, hx, hf⟩ := a0w h x;unfold lenOf at hl;split at hl
   . rename_i t0 m xs he;obtain rfl := Option.some.inj hl;rw [he] at hx;obtain ⟨rfl, vs, hr, hs⟩ := hx;obtain ⟨u, us, F1, F2, T1, T2, rfl, hF, rfl, hc, h2⟩ := a0U hr;obtain ⟨rfl, -, -⟩ := h2;simp only [a0F, Bool.false_eq_true, if_false, List.cons.injEq, and_true] at hs;subst hs;obtain ⟨A, cc, us', Fe, Se, hv, -, -, hne, -⟩ := a3T (t := t0) (m := m) (xs := xs) hc;exact ⟨A, cc, hv, fun h0 => hne (by omega)⟩
   . rename_i q p he;split at hl
     . cases hl
     rename_i root hroot;split at hl
     . rename_i t0 m xs rest hg;obtain rfl := Option.some.inj hl;rw [he] at hx;obtain ⟨rfl, rfl, y, ad0, us, hy, hp, hlc, hn1, hs⟩ := hx;rw [hy] at hroot;obtain rfl := Option.some.inj hroot;obtain ⟨F, S, hrep, -⟩ := a1k (h.r.roots q y hy) (h.r.nodup q) hp hlc;rw [hg] at hrep;obtain ⟨u, us', F1, F2, T1, T2, rfl, -, -, hc, -⟩ := a0U hrep;simp only [a0F, Bool.false_eq_true, if_false, List.take_succ_cons, List.take_zero, List.cons.injEq, and_true] at hs;obtain ⟨A, cc, us', Fe, Se, hv, -, -, hne, -⟩ := a3T (t := t0) (m := m) (xs := xs) hc;exact ⟨A, cc, hs ▸ hv, fun h0 => hne (by omega)⟩
     . cases hl
   . cases hl
 have nil : ∀ y, nilO y = true -> a.eval y = .slice none 0 0 := by
   intro y hy;rw [a3l hy]; rfl
 unfold a9U at hn;split at hn
 . rename_i T x y T' ho hg;split at hn
   . rename_i t e fs n hy hT hl;obtain rfl := Option.some.inj hn;obtain ⟨hu, -⟩ := ht.slice T _ e fs hT;obtain ⟨A, cc, hv, hA⟩ := val x _ hl;refine ⟨hg, A.isNone, ?_, fun h0 => ?_⟩
     . simp only [execOp, ho, hv, nil y hy, Sem.run_bind];simp [eqGuard, b3L w T e A _ cc hu]
     . have := hA h0;cases A with
       | none => exact absurd rfl this
       | some ad => rfl
   . cases hn
 . rename_i T x y T' ho hg;split at hn
   . rename_i t e fs n hy hT hl;obtain rfl := Option.some.inj hn;obtain ⟨hu, -⟩ := ht.slice T _ e fs hT;obtain ⟨A, cc, hv, hA⟩ := val x _ hl;refine ⟨hg, !A.isNone, ?_, fun h0 => ?_⟩
     . simp only [execOp, ho, hv, nil y hy, Sem.run_bind];simp [eqGuard, b3M w T e A _ cc hu]
     . have := hA h0;cases A with
       | none => exact absurd rfl this
       | some ad => rfl
   . cases hn
 . cases hn
theorem b1y {E : Env} {c : Ctx} (hctx : CtxOK P c) {ops : Array Oper} {k : St -> Option R} {r : R} {kv : List (Nat × Value)} (hkp : a2N (kv.map (·.1)) ops.toList = true) : ∀ (l : List Oper) (is : List Nat) (σ : St) (a : Act) (w : World) (G : Nat -> RG), is.map (ops[·]?) = l.map some →
   opsU c ops.toList l σ k = some r -> Rel P E σ a w G -> Keep kv a -> wpOps P ops (a9D P E kv k r) is a w := by
 intro l;induction l with
 | nil =>
   intro is σ a w G his h hrel hkeep;have : is = [] := by simpa using his
   subst this;exact ⟨rfl, hkeep, σ, G, hrel, h⟩
 | cons o l ih =>
   intro is σ a w G his h hrel hkeep;cases is with
   | nil => simp at his
   | cons i is =>
     simp only [List.map_cons, List.cons.injEq] at his;obtain ⟨hi, his⟩ := his;simp only [opsU] at h;split at h
     . rename_i p hp;obtain ⟨hg, b, hrun, hb⟩ := b1s hctx.tab hrel hp;have hmem : o ∈ ops.toList := by
         have := Array.mem_of_getElem? hi;simpa using this
       have hd := a3H hkp o hmem;have hk : opsU c ops.toList l (σ.put o.dst (vB b)) k = some r := by
         split at h
         . rename_i h0; rw [hb h0]; exact h
         . obtain ⟨h1, h2⟩ := a7t h;cases b
           . exact h2
           . exact h1
       have hgood : Good P E o a w (fun σ' => opsU c ops.toList l σ' k) r := a0v hrun (a0B hrel o.dst (a2k _ _ _ _) (Fine2.nil _ _)) hk;simp only [wpOps, hi];have hw : Region.wanted o (yielded ops a.tmps) = true := by simp [Region.wanted, hg]
       rw [if_pos hw];refine .inl (Oper.wp_mono (fun a' w' h' => ?_) (Oper.wp_put (hgood (a9D P E kv k r))));obtain ⟨⟨σ2, G2, h1, h2⟩, v, ds, h3⟩ := h';exact ih is σ2 a' w' G2 his h2 h1 (a4I hkeep h3 hd)
     . exact b1t hctx hkp o i is σ a w G hi h hrel hkeep fun σ' a' w' G' h1 h2 h3 => ih is σ' a' w' G' his h1 h2 h3
end Go.Vm
end
section
namespace Go.Vm
variable {P : Program} {R : Type}
structure Ent where
 w : Bool
 N : List (Nat × Root)
 t : TV
 M : List Nat
def a3Y (all : List Oper) (σ : St) (o : Oper) : Option Bool := match o.guard with
 | none => some true
 | some (j, want) => match (nth (all.map some) j none).bind (·.dst) with
   | none => none
   | some t => match b0m (nth σ.ts t .dead) with
     | true => some false
     | false => match asBool (nth σ.ts t .dead) with
       | none => none
       | some b => some (b == want)
def b2W (c : Ctx) (all : List Oper) (i : Nat) (mvd : List Nat) (o : Oper) (σ : St) (e : Ent) : Prop :=
 a3Y all σ o = some e.w /\ freeO all mvd σ o = true /\ (e.w = true /\ LocM c o σ e.M e.N e.t /\ (∀ r ∈ e.M, sepB all i e.M σ = true) ∨ e.w = false /\ e.N = [] /\ e.M = [] /\ e.t = und)
def next (o : Oper) (e : Ent) (σ : St) : St := (a1n e.N σ).put o.dst e.t
inductive TextRun (c : Ctx) (all : List Oper) : List Oper -> Nat -> List Nat -> St -> List Ent -> List St -> Prop
 | nil (i : Nat) (mvd : List Nat) (σ : St) : TextRun c all [] i mvd σ [] [σ]
 | cons {o : Oper} {l : List Oper} {i : Nat} {mvd : List Nat} {σ : St} {e : Ent} {es : List Ent} {ss : List St} (h : b2W c all i mvd o σ e) (k : TextRun c all l (i + 1) (e.M ++ mvd) (next o e σ) es ss) : TextRun c all (o :: l) i mvd σ (e :: es) (σ :: ss)
theorem a2F {σ : St} {t : Nat} {b : Bool} (h : asBool (nth σ.ts t .dead) = some b) : (⟨upd σ.ts t (vB b), σ.rs⟩ : St) = σ := by
 obtain ⟨h1, h2⟩ := vB_of h;rw [b0S h1 h2]
theorem b2z {c : Ctx} {all : List Oper} {k : St -> Option R} {r : R} : ∀ (l : List Oper) (i : Nat) (mvd : List Nat) (σ : St), (∀ o ∈ l, ∃ d, o.dst = some d) -> a3X c all l i mvd σ k = some r →
   ∃ es ss σn mvn, TextRun c all l i mvd σ es ss /\ ss.getLast? = some σn /\ k (a0G mvn σn) = some r /\ ∀ q, q ∈ mvn ↔ q ∈ mvd ∨ ∃ (j : Nat) (e : Ent), es[j]? = some e /\ q ∈ e.M := by
 intro l;induction l with
 | nil => intro i mvd σ _ h; exact ⟨[], [σ], σ, mvd, .nil i mvd σ, rfl, h, fun q => by simp⟩
 | cons o l ih =>
   intro i mvd σ hd h;have hdl : ∀ o ∈ l, ∃ d, o.dst = some d := fun o ho => hd o (by simp [ho]);have fin : ∀ (e : Ent), b2W c all i mvd o σ e -> a3X c all l (i + 1) (e.M ++ mvd) (next o e σ) k = some r →
       ∃ es ss σn mvn, TextRun c all (o :: l) i mvd σ es ss /\ ss.getLast? = some σn /\ k (a0G mvn σn) = some r /\ ∀ q, q ∈ mvn ↔ q ∈ mvd ∨ ∃ (j : Nat) (e : Ent), es[j]? = some e /\ q ∈ e.M := by
     intro e he h;obtain ⟨es, ss, σn, mvn, h1, h2, h3, h4⟩ := ih _ _ _ hdl h;refine ⟨e :: es, σ :: ss, σn, mvn, .cons he h1, ?_, h3, fun q => ?_⟩
     . cases ss with
       | nil => cases h2
       | cons s ss => rw [List.getLast?_cons_cons]; exact h2
     . rw [h4, List.mem_append];constructor
       . rintro ((h5 | h5) | ⟨j, e', h5, h6⟩)
         . exact .inr ⟨0, e, rfl, h5⟩
         . exact .inl h5
         . exact .inr ⟨j + 1, e', by simpa using h5, h6⟩
       . rintro (h5 | ⟨j, e', h5, h6⟩)
         . exact .inl (.inr h5)
         . cases j with
           | zero =>
             simp only [List.getElem?_cons_zero, Option.some.injEq] at h5;subst h5;exact .inl (.inl h6)
           | succ j => exact .inr ⟨j, e', by simpa using h5, h6⟩
   simp only [a3X] at h;split at h
   . cases h
   rename_i hfree;have run : a3Y all σ o = some true -> (a5z c all i mvd o σ fun mvd' σ' => a3X c all l (i + 1) mvd' σ' k) = some r →
       ∃ es ss σn mvn, TextRun c all (o :: l) i mvd σ es ss /\ ss.getLast? = some σn /\ k (a0G mvn σn) = some r /\ ∀ q, q ∈ mvn ↔ q ∈ mvd ∨ ∃ (j : Nat) (e : Ent), es[j]? = some e /\ q ∈ e.M := by
     intro hw h;unfold a5z at h;split at h
     . rename_i hreg;have h0 := h;rw [a4f] at h;cases hs : a0E c o σ some with
       | none => rw [hs] at h; cases h
       | some σ1 =>
         obtain ⟨N, t, hloc⟩ := b2s (hd o (by simp)) hreg hs;have := hloc.step σ ⟨fun x _ => rfl, fun x _ r _ => rfl⟩ (fun σ' => a3X c all l (i + 1) mvd σ' k);rw [this] at h0;exact fin ⟨true, N, t, []⟩ ⟨hw, hfree, .inl ⟨rfl, hloc.locM, by simp⟩⟩ h0
     . split at h
       . rename_i q hq;split at h
         . rename_i hsep;exact fin ⟨true, [q.2.1], q.2.2, q.1⟩ ⟨hw, hfree, .inl ⟨rfl, b3z hq, fun _ _ => hsep⟩⟩ h
         . cases h
       . cases h
   cases hg : o.guard with
   | none =>
     rw [hg] at h;exact run (by simp [a3Y, hg]) h
   | some gw =>
     obtain ⟨j, want⟩ := gw;rw [hg] at h;simp only [] at h;split at h
     . cases h
     rename_i t ht;split at h
     . rename_i hu;exact fin ⟨false, [], und, []⟩ ⟨by simp only [a3Y, hg, ht, hu], hfree, .inr ⟨rfl, rfl, rfl, rfl⟩⟩ h
     rename_i hu;split at h
     . cases h
     rename_i b hb;have hw : a3Y all σ o = some (b == want) := by simp only [a3Y, hg, ht, hb, hu]
     cases b with
     | true =>
       simp only [if_true] at h;rw [a2F hb] at h;cases want with
       | true => exact run hw h
       | false => exact fin ⟨false, [], und, []⟩ ⟨hw, hfree, .inr ⟨rfl, rfl, rfl, rfl⟩⟩ h
     | false =>
       simp only [Bool.false_eq_true, if_false] at h;rw [a2F hb] at h;cases want with
       | false => exact run hw h
       | true => exact fin ⟨false, [], und, []⟩ ⟨hw, hfree, .inr ⟨rfl, rfl, rfl, rfl⟩⟩ h
theorem TextRun.get {c : Ctx} {all : List Oper} : ∀ {l : List Oper} {i0 : Nat} {mv0 : List Nat} {σ : St} {es : List Ent} {ss : List St}, TextRun c all l i0 mv0 σ es ss -> es.length = l.length /\ ss.length = l.length + 1 /\ ss[0]? = some σ ∧
   ∀ (i : Nat) (o : Oper), l[i]? = some o -> ∃ e s, es[i]? = some e /\ ss[i]? = some s /\ ss[i + 1]? = some (next o e s) /\ ∃ mvd, b2W c all (i0 + i) mvd o s e /\ ∀ q, q ∈ mvd ↔ q ∈ mv0 ∨ ∃ (j : Nat) (e' : Ent), j < i /\ es[j]? = some e' /\ q ∈ e'.M := by
 intro l i0 mv0 σ es ss h;induction h with
 | nil i mvd σ => exact ⟨rfl, rfl, rfl, fun i o h => by simp at h⟩
 | @cons o l i1 mvd σ e es ss h k ih =>
   obtain ⟨h1, h2, h3, h4⟩ := ih;refine ⟨by simp [h1], by simp [h2], rfl, fun i o' ho => ?_⟩;cases i with
   | zero =>
     simp only [List.getElem?_cons_zero, Option.some.injEq] at ho;subst ho;exact ⟨e, σ, rfl, rfl, by simpa using h3, mvd, h, fun q => by simp⟩
   | succ i =>
     simp only [List.getElem?_cons_succ] at ho ⊢;obtain ⟨e', s, g1, g2, g3, mvd', g4, g5⟩ := h4 i o' ho;refine ⟨e', s, g1, g2, g3, mvd', by rw [show i1 + (i + 1) = i1 + 1 + i by omega]; exact g4, fun q => ?_⟩;rw [g5, List.mem_append];constructor
     . rintro ((h5 | h5) | ⟨j, e2, h5, h6, h7⟩)
       . exact .inr ⟨0, e, by omega, rfl, h5⟩
       . exact .inl h5
       . exact .inr ⟨j + 1, e2, by omega, by simpa using h6, h7⟩
     . rintro (h5 | ⟨j, e2, h5, h6, h7⟩)
       . exact .inl (.inr h5)
       . cases j with
         | zero =>
           simp only [List.getElem?_cons_zero, Option.some.injEq] at h6;subst h6;exact .inl (.inl h7)
         | succ j => exact .inr ⟨j, e2, by omega, by simpa using h6, h7⟩
section
variable (ops : List Oper) (m : Nat) (es : List Ent) (σ0 : St)
def a1w (ops : List Oper) (m : Nat) (τ : Nat) : Option Nat := (List.range m).find? fun i => match ops[i]? with
 | some o => match o.dst with
   | some d => Nat.beq d τ
   | none => false
 | none => false
def valD (D : Nat -> Bool) (τ : Nat) : TV := match a1w ops m τ with
 | some i => if D i = true then (match es[i]? with
   | some e => e.t
   | none => .dead) else nth σ0.ts τ .dead
 | none => nth σ0.ts τ .dead
def a9g (D : Nat -> Bool) (r : Nat) : Option Root := match a1w ops m (r / 4) with
 | some i => if D i = true then (match es[i]? with
   | some e => (rget e.N r).or (rget σ0.rs r)
   | none => rget σ0.rs r) else rget σ0.rs r
 | none => rget σ0.rs r
structure Mid (D : Nat -> Bool) (s : St) : Prop where
 len : s.ts.length = σ0.ts.length
 ts : ∀ τ, nth s.ts τ .dead = valD ops m es σ0 D τ
 rs : ∀ r, rget s.rs r = a9g ops m es σ0 D r
end
theorem a0d {ops : List Oper} {m τ i : Nat} (h : a1w ops m τ = some i) : i < m /\ ∃ o, ops[i]? = some o /\ o.dst = some τ := by
 unfold a1w at h;have h1 := List.find?_some h;have h2 := List.mem_of_find?_eq_some h;refine ⟨by simpa using h2, ?_⟩
 try simp only [] at h1
 split at h1
 . rename_i o ho;split at h1
   . rename_i d hd;exact ⟨o, ho, by rw [hd, Nat.eq_of_beq_eq_true h1]⟩
   . cases h1
 . cases h1
theorem a6j {ops : List Oper} {m n : Nat} (hok : OrdOK ops m n) {i : Nat} {o : Oper} {τ : Nat} (hi : i < m) (ho : ops[i]? = some o) (hd : o.dst = some τ) : a1w ops m τ = some i := by
 cases hw : a1w ops m τ with
 | none =>
   unfold a1w at hw;rw [List.find?_eq_none] at hw;have := hw i (by simpa using hi);simp [ho, hd] at this
 | some j =>
   obtain ⟨hj, oj, hoj, hdj⟩ := a0d hw;rcases Nat.lt_trichotomy i j with h | h | h
   . exact absurd (hok.diff j i oj o τ hoj ho h hj hdj hd) id
   . rw [h]
   . exact absurd (hok.diff i j o oj τ ho hoj h hi hd hdj) id
theorem rget_ids {N : List (Nat × Root)} {r : Nat} : rget N r ≠ none ↔ r ∈ N.map (·.1) := by
 induction N with
 | nil => simp [rget]
 | cons p N ih =>
   obtain ⟨i, x⟩ := p;simp only [rget, List.map_cons, List.mem_cons];cases hd : Nat.decEq i r with
   | isTrue h => simp [h]
   | isFalse h =>
     simp only [];rw [ih];constructor
     . exact .inr
     . rintro (e | e)
       . exact absurd e.symm h
       . exact e
theorem a3R {r : Nat} : ∀ (N : List (Nat × Root)) (σ : St), (N.map (·.1)).Nodup -> rget (a1n N σ).rs r = (rget N r).or (rget σ.rs r) := by
 intro N;induction N with
 | nil => intro σ _; simp [a1n, rget]
 | cons p N ih =>
   intro σ hn;obtain ⟨i, x⟩ := p;simp only [List.map_cons, List.nodup_cons] at hn;simp only [a1n, ih _ hn.2, St.new, a0j, rget];cases hd : Nat.decEq i r with
   | isTrue h =>
     subst h;have : rget N i = none := by
       cases hx : rget N i with
       | none => rfl
       | some y => exact absurd (rget_ids.1 (by rw [hx]; simp)) hn.1
     simp [this]
   | isFalse h => simp [Ne.symm h]
theorem b1f {r : Nat} {ts : List TV} (h : ∀ t ∈ ts, t.uses r = false) : kill r ts = ts := by
 unfold kill
 conv => rhs; rw [<- List.map_id ts]
 exact List.map_congr_left fun t ht => by simp [h t ht]
theorem a7S : ∀ (N : List (Nat × Root)) (σ : St), (∀ t ∈ σ.ts, ∀ p ∈ N, t.uses p.1 = false) -> (a1n N σ).ts = σ.ts := by
 intro N;induction N with
 | nil => intro σ _; rfl
 | cons p N ih =>
   intro σ h;have hk : kill p.1 σ.ts = σ.ts := b1f fun t ht => h t ht p (by simp);simp only [a1n];rw [ih]
   . exact hk
   . intro t ht q hq;simp only [St.new] at ht;rw [hk] at ht;exact h t ht q (by simp [hq])
structure Walk (c : Ctx) (ops : List Oper) (m n : Nat) (σ0 : St) (es : List Ent) (ss : List St) : Prop where
 ok : OrdOK ops m n
 nlen : n = σ0.ts.length
 run : ∀ i o, i < m -> ops[i]? = some o -> ∃ e s, es[i]? = some e /\ ss[i]? = some s /\ ss[i + 1]? = some (next o e s) /\ ∃ mvd, b2W c ops i mvd o s e /\ ∀ q, q ∈ mvd ↔ ∃ (j : Nat) (e' : Ent), j < i /\ es[j]? = some e' /\ q ∈ e'.M
 zero : ss[0]? = some σ0
 closed : ∀ t ∈ σ0.ts, ∀ r, t.uses r = true -> rget σ0.rs r ≠ none
 fresh : ∀ i o d, i < m -> ops[i]? = some o -> adds o = true -> o.dst = some d -> ∀ q, q < 4 -> rget σ0.rs (4 * d + q) = none
 mle : m ≤ ops.length
 elen : ∀ (k : Nat) (e : Ent), es[k]? = some e -> k < m
theorem a7m {all : List Oper} {m n : Nat} (h : OrdOK all m n) {i a : Nat} (k : Anc all i a) : a < i := by
 induction k with
 | edge ho he hb => exact h.early _ _ ho _ he hb
 | trans h1 h2 ih1 ih2 => omega
def a4h (ops : List Oper) (D : Nat -> Bool) : Prop := ∀ i a, D i = true -> Anc ops i a -> D a = true
def a1h (D : Nat -> Bool) (i : Nat) : Nat -> Bool := fun j => D j || Nat.beq j i
def a4w (ops : List Oper) (m : Nat) (σ0 : St) (es : List Ent) (j : Nat) : Prop :=
 ∀ e, es[j]? = some e -> ∀ r, e.t.uses r = true -> rget σ0.rs r ≠ none ∨ ∃ j' e', (j' = j ∨ Anc ops j j') /\ es[j']? = some e' /\ r ∈ e'.N.map (·.1)
section
variable {c : Ctx} {ops : List Oper} {m n : Nat} {σ0 : St} {es : List Ent} {ss : List St}
theorem Walk.oper (W : Walk c ops m n σ0 es ss) {i : Nat} (h : i < m) : ∃ o, ops[i]? = some o := by
 have := W.mle;exact ⟨ops[i], by simp [show i < ops.length by omega]⟩
theorem Walk.ids (W : Walk c ops m n σ0 es ss) {i : Nat} {o : Oper} {e : Ent} (hi : i < m) (ho : ops[i]? = some o) (he : es[i]? = some e) : (e.N.map (·.1)).Nodup /\ ∀ r ∈ e.N.map (·.1), rget σ0.rs r = none /\ a1w ops m (r / 4) = some i := by
 obtain ⟨e', s, h1, h2, h3, mvd, ⟨h4, h4b, h5⟩, -⟩ := W.run i o hi ho;rw [he] at h1;obtain rfl := Option.some.inj h1;rcases h5 with ⟨hw, hl, _⟩ | ⟨_, hN, _⟩
 . refine ⟨hl.nodup, fun r hr => ?_⟩;obtain ⟨p, hp, rfl⟩ := List.mem_map.1 hr;obtain ⟨ha, d, hd, hlo, hhi⟩ := hl.ids p hp;have hq := W.fresh i o d hi ho ha hd (p.1 - 4 * d) (by omega);have hlo2 : 4 * d ≤ p.fst := hlo;have hhi2 : p.fst < 4 * d + 4 := hhi;have hx : 4 * d + (p.1 - 4 * d) = p.1 := Nat.add_sub_cancel' hlo2 |> fun h => by rw [Nat.add_comm]; exact Nat.sub_add_cancel hlo2
   rw [hx] at hq;have hdiv : p.1 / 4 = d := by
     apply Nat.div_eq_of_lt_le
     . rw [Nat.mul_comm]; exact hlo2
     . rw [Nat.mul_comm]; exact Nat.lt_of_lt_of_eq hhi2 (by rfl)
   exact ⟨hq, by rw [hdiv]; exact a6j W.ok hi ho hd⟩
 . rw [hN]; exact ⟨by simp, by simp⟩
theorem a9V {ts : List TV} {τ r : Nat} (h : (nth ts τ .dead).uses r = true) : nth ts τ .dead ∈ ts := by
 rw [a0i] at h ⊢;cases hx : ts[τ]? with
 | none => rw [hx] at h; cases h
 | some t => simp only [Option.getD_some]; exact List.mem_of_getElem? hx
theorem a4V (W : Walk c ops m n σ0 es ss) {D : Nat -> Bool} (hU : ∀ j, D j = true -> j < m -> a4w ops m σ0 es j) {τ r : Nat} (h : (valD ops m es σ0 D τ).uses r = true) :
   rget σ0.rs r ≠ none ∨ ∃ j j' e', a1w ops m τ = some j /\ D j = true /\ (j' = j ∨ Anc ops j j') /\ es[j']? = some e' /\ r ∈ e'.N.map (·.1) := by
 unfold valD at h;have base : (nth σ0.ts τ .dead).uses r = true -> rget σ0.rs r ≠ none := fun h => W.closed _ (a9V h) r h;split at h
 . rename_i i hi;split at h
   . rename_i hD;split at h
     . rename_i e he;rcases hU i hD (a0d hi).1 e he r h with h1 | ⟨j', e', h1, h2, h3⟩
       . exact .inl h1
       . exact .inr ⟨i, j', e', hi, hD, h1, h2, h3⟩
     . cases h
   . exact .inl (base h)
 . exact .inl (base h)
theorem b3e (W : Walk c ops m n σ0 es ss) {D : Nat -> Bool} (hc : a4h ops D) (hU : ∀ j, D j = true -> j < m -> a4w ops m σ0 es j) {s : St} (hM : Mid ops m es σ0 D s) {i : Nat} {o : Oper} {e : Ent} (hi : i < m) (ho : ops[i]? = some o) (he : es[i]? = some e) (hD : D i = false) :
   ∀ t ∈ s.ts, ∀ p ∈ e.N, t.uses p.1 = false := by
 obtain ⟨hnd, hids⟩ := W.ids hi ho he;intro t ht p hp;cases hu : t.uses p.1 with
 | false => rfl
 | true =>
   obtain ⟨τ, hτ⟩ := List.mem_iff_getElem?.1 ht;have hv : valD ops m es σ0 D τ = t := by rw [<- hM.ts, a0i, hτ]; rfl
   have hr := hids p.1 (List.mem_map.2 ⟨p, hp, rfl⟩);rcases a4V W hU (by rw [hv]; exact hu) with h1 | ⟨j, j', e', hj, hDj, hjj, he', hr'⟩
   . exact absurd hr.1 h1
   . have hj'm : j' < m := by
       rcases hjj with rfl | h
       . exact (a0d hj).1
       . have := a7m W.ok h; have := (a0d hj).1; omega
     obtain ⟨o', ho'⟩ := W.oper hj'm;have h2 := ((W.ids hj'm ho' he').2 _ hr').2;rw [hr.2] at h2;obtain rfl := Option.some.inj h2;have hDi : D i = true := by
       rcases hjj with rfl | h
       . exact hDj
       . exact hc j i hDj h
     rw [hD] at hDi; cases hDi
theorem b0D (W : Walk c ops m n σ0 es ss) {D : Nat -> Bool} (hc : a4h ops D) (hU : ∀ j, D j = true -> j < m -> a4w ops m σ0 es j) {s : St} (hM : Mid ops m es σ0 D s) {i : Nat} {o : Oper} {e : Ent} (hi : i < m) (ho : ops[i]? = some o) (he : es[i]? = some e) (hD : D i = false) :
   Mid ops m es σ0 (a1h D i) (next o e s) := by
 obtain ⟨hnd, hids⟩ := W.ids hi ho he;obtain ⟨d, hd, hdn⟩ := W.ok.dst i o ho hi;have hw : a1w ops m d = some i := a6j W.ok hi ho hd;have hnk := b3e W hc hU hM hi ho he hD;have hts := a7S e.N s hnk;have hwD : ∀ j, a1h D i j = true ↔ D j = true ∨ j = i := by
   intro j; simp only [a1h, Bool.or_eq_true];exact or_congr Iff.rfl ⟨Nat.eq_of_beq_eq_true, fun h => by subst h; exact Nat.beq_refl _⟩
 refine ⟨?_, fun τ => ?_, fun r => ?_⟩
 . simp only [next, hd, St.put, a5y, List.length_set, hts]; exact hM.len
 . simp only [next, hd, St.put, hts];rw [a0i, a5y, List.getElem?_set];by_cases hτ : d = τ
   . subst hτ;rw [if_pos rfl, if_pos (by rw [hM.len, <- W.nlen]; exact hdn)];simp only [Option.getD_some, valD, hw];rw [if_pos ((hwD i).2 (.inr rfl)), he]
   . rw [if_neg hτ, <- a0i, hM.ts];unfold valD;cases hwτ : a1w ops m τ with
     | none => rfl
     | some j =>
       have hji : j ≠ i := by
         rintro rfl;obtain ⟨_, o2, h2, h3⟩ := a0d hwτ;rw [ho] at h2;obtain rfl := Option.some.inj h2;rw [hd] at h3;exact hτ (Option.some.inj h3)
       have : (a1h D i j = true) = (D j = true) := propext ((hwD j).trans ⟨fun h => h.resolve_right hji, .inl⟩);simp only [this]
 . simp only [next, hd, St.put];rw [a3R _ _ hnd, hM.rs];unfold a9g;have hno : a1w ops m (r / 4) ≠ some i -> rget e.N r = none := by
     intro h;cases hx : rget e.N r with
     | none => rfl
     | some y => exact absurd (hids r (rget_ids.1 (by rw [hx]; simp))).2 h
   cases hwr : a1w ops m (r / 4) with
   | none => simp [hno (by rw [hwr]; simp)]
   | some j =>
     by_cases hji : j = i
     . subst hji;simp only [hD, Bool.false_eq_true, if_false];rw [if_pos ((hwD j).2 (.inr rfl)), he]
     . have : (a1h D i j = true) = (D j = true) := propext ((hwD j).trans ⟨fun h => h.resolve_right hji, .inl⟩);simp only [this, hno (by rw [hwr]; simpa using hji), Option.none_or]
end
end Go.Vm
end
section
namespace Go.Vm
variable {P : Program} {R : Type}
section
variable {c : Ctx} {ops : List Oper} {m n : Nat} {σ0 : St} {es : List Ent} {ss : List St}
theorem a0Z {all : List Oper} {o : Oper} {τ : Nat} (h : Operand.tmp τ ∈ o.op.operands) : τ ∈ a0u all o := by
 unfold a0u;refine List.mem_append_left _ (List.mem_filterMap.2 ⟨.tmp τ, by simpa using h, rfl⟩)
theorem a3I {σ : St} {x : Operand} {r : Nat} (h : (a0x σ x).uses r = true) : ∃ τ, x = .tmp τ := by
 cases x with
 | tmp τ => exact ⟨τ, rfl⟩
 | const v => cases v <;> simp [a0x, a9X, TV.uses] at h
 | global g => simp [a0x, TV.uses] at h
 | func f => simp [a0x, TV.uses, TV.usesL] at h
theorem a3W (W : Walk c ops m n σ0 es ss) {i j τ : Nat} {o : Oper} (hi : i < m) (ho : ops[i]? = some o) (hl : τ ∈ a0u ops o) (hw : a1w ops m τ = some j) : (j < i -> Anc ops i j) /\ (i < j -> Anc ops j i) := by
 obtain ⟨hj, oj, hoj, hdj⟩ := a0d hw;exact ⟨fun h => W.ok.conf i j o oj ho hoj h hi (.inl ⟨τ, hdj, hl⟩), fun h => W.ok.conf j i oj o hoj ho h hj (.inr ⟨τ, hdj, hl⟩)⟩
def upto (j : Nat) : Nat -> Bool := fun i => Nat.blt i j
theorem upto_iff {j i : Nat} : upto j i = true ↔ i < j := ⟨fun h => Nat.le_of_ble_eq_true h, fun h => Nat.ble_eq_true_of_le h⟩
theorem a9J (W : Walk c ops m n σ0 es ss) (j : Nat) : a4h ops (upto j) := fun i a h k => upto_iff.2 (Nat.lt_trans (a7m W.ok k) (upto_iff.1 h))
theorem a5a {D D' : Nat -> Bool} {s : St} (h : Mid ops m es σ0 D s) (hD : ∀ i, i < m -> D i = D' i) : Mid ops m es σ0 D' s := by
 refine ⟨h.len, fun τ => ?_, fun r => ?_⟩
 . rw [h.ts];unfold valD;cases hw : a1w ops m τ with
   | none => rfl
   | some i => simp only [hD i (a0d hw).1]
 . rw [h.rs];unfold a9g;cases hw : a1w ops m (r / 4) with
   | none => rfl
   | some i => simp only [hD i (a0d hw).1]
theorem a3L (W : Walk c ops m n σ0 es ss) : ∀ j, j ≤ m -> (∃ s, ss[j]? = some s /\ Mid ops m es σ0 (upto j) s) /\ ∀ i, i < j -> a4w ops m σ0 es i := by
 intro j;induction j with
 | zero =>
   intro _;refine ⟨⟨σ0, W.zero, rfl, fun τ => ?_, fun r => ?_⟩, fun i hi => by omega⟩
   . unfold valD;cases a1w ops m τ <;> simp [upto]
   . unfold a9g;cases a1w ops m (r / 4) <;> simp [upto]
 | succ j ih =>
   intro hj;obtain ⟨⟨s, hs, hM⟩, hU⟩ := ih (by omega);obtain ⟨o, ho⟩ := W.oper (show j < m by omega);obtain ⟨e, s', he, hs', hn, mvd, hok, -⟩ := W.run j o (by omega) ho;rw [hs] at hs';obtain rfl := Option.some.inj hs';have hUj : ∀ i, upto j i = true -> i < m -> a4w ops m σ0 es i := fun i hi _ => hU i (upto_iff.1 hi);have huse : a4w ops m σ0 es j := by
     intro e' he' r hr;rw [he] at he';obtain rfl := Option.some.inj he';rcases hok.2.2 with ⟨_, hl, _⟩ | ⟨_, _, _, ht⟩
     . rcases hl.uses r hr with ⟨x, hx, hxr⟩ | hN
       . obtain ⟨τ, rfl⟩ := a3I hxr;have hxr : (nth s.ts τ .dead).uses r = true := hxr;rw [hM.ts] at hxr;rcases a4V W hUj hxr with h1 | ⟨i, j', e', hi, hD, hjj, he', hr'⟩
         . exact .inl h1
         . have hij := upto_iff.1 hD;have ha := (a3W W (by omega) ho (a0Z hx) hi).1 hij;refine .inr ⟨j', e', .inr ?_, he', hr'⟩;rcases hjj with rfl | h
           . exact ha
           . exact .trans ha h
       . exact .inr ⟨j, e, .inl rfl, he, hN⟩
     . rw [ht] at hr; cases hr
   refine ⟨⟨_, hn, a5a (b0D W (a9J W j) hUj hM (by omega) ho he (by cases hu : upto j j with | false => rfl | true => exact absurd (upto_iff.1 hu) (Nat.lt_irrefl j))) fun i _ => ?_⟩, fun i hi => ?_⟩
   . have : (a1h (upto j) j i = true) = (upto (j + 1) i = true) := by
       apply propext;simp only [a1h, Bool.or_eq_true, upto_iff];constructor
       . rintro (h | h)
         . omega
         . have := Nat.eq_of_beq_eq_true h; omega
       . intro h;by_cases hij : i = j
         . subst hij; exact .inr (Nat.beq_refl _)
         . exact .inl (by omega)
     cases h1 : a1h (upto j) j i <;> cases h2 : upto (j + 1) i <;> simp_all
   . by_cases hij : i = j
     . subst hij; exact huse
     . exact hU i (by omega)
theorem a3V (W : Walk c ops m n σ0 es ss) : ∀ j, j < m -> a4w ops m σ0 es j := (a3L W m (Nat.le_refl _)).2
theorem a5I (W : Walk c ops m n σ0 es ss) {D : Nat -> Bool} (hc : a4h ops D) {s : St} (hM : Mid ops m es σ0 D s) {i : Nat} {o : Oper} {si : St} (hi : i < m) (ho : ops[i]? = some o) (hsi : ss[i]? = some si) (hD : D i = false) (hA : ∀ a, Anc ops i a -> D a = true) :
   (∀ τ ∈ a0u ops o, nth s.ts τ .dead = nth si.ts τ .dead) /\ Agree o si s := by
 obtain ⟨⟨s', hs', hMi⟩, _⟩ := a3L W i (by omega);rw [hsi] at hs';obtain rfl := Option.some.inj hs';have hval : ∀ τ ∈ a0u ops o, nth s.ts τ .dead = nth si.ts τ .dead := by
   intro τ hτ;rw [hM.ts, hMi.ts];unfold valD;cases hw : a1w ops m τ with
   | none => rfl
   | some j =>
     obtain ⟨ha, hb⟩ := a3W W hi ho hτ hw;have : D j = upto i j := by
       rcases Nat.lt_trichotomy j i with h | h | h
       . rw [hA j (ha h), upto_iff.2 h]
       . subst h; rw [hD]; cases hu : upto j j with
         | false => rfl
         | true => have := upto_iff.1 hu; omega
       . have h1 : D j = false := by
           cases hDj : D j with
           | false => rfl
           | true => have := hc j i hDj (hb h); rw [hD] at this; cases this
         rw [h1];cases hu : upto i j with
         | false => rfl
         | true => have := upto_iff.1 hu; omega
     simp only [this]
 refine ⟨hval, fun x hx => ?_, fun x hx r hr => ?_⟩
 . cases x with
   | tmp τ => exact hval τ (a0Z hx)
   | _ => rfl
 . obtain ⟨τ, rfl⟩ := a3I hr;have hr : (nth si.ts τ .dead).uses r = true := hr;rw [hMi.ts] at hr;rw [hM.rs, hMi.rs];have hU : ∀ j, upto i j = true -> j < m -> a4w ops m σ0 es j := fun j _ hj => a3V W j hj;rcases a4V W hU hr with h1 | ⟨j, j', e', hj, hDj, hjj, he', hr'⟩
   ·
     unfold a9g;cases hw : a1w ops m (r / 4) with
     | none => rfl
     | some k =>
       obtain ⟨hk, ok, hok, _⟩ := a0d hw;obtain ⟨ek, _, hek, _⟩ := W.run k ok hk hok;have hnone : rget ek.N r = none := by
         cases hx : rget ek.N r with
         | none => rfl
         | some y => exact absurd ((W.ids hk hok hek).2 r (rget_ids.1 (by rw [hx]; simp))).1 h1
       simp only [hek, hnone, Option.none_or, ite_self]
   . have hji := upto_iff.1 hDj;have haj := (a3W W hi ho (a0Z hx) hj).1 hji;have haj' : Anc ops i j' := by
       rcases hjj with rfl | h
       . exact haj
       . exact .trans haj h
     have hj'i := a7m W.ok haj';obtain ⟨oj', hoj'⟩ := W.oper (show j' < m by omega);have hw := ((W.ids (by omega) hoj' he').2 r hr').2;unfold a9g;simp only [hw, hA j' haj', upto_iff.2 hj'i]
end
theorem b2w {E : Env} {σ σ' : St} {a : Act} {w : World} {G : Nat -> RG} (h : Rel P E σ a w G) (hts : σ'.ts = σ.ts) (hrs : ∀ r, rget σ'.rs r = rget σ.rs r) : Rel P E σ' a w G := by
 refine ⟨h.defers, ?_, a5C h.r fun q x hx => by rw [<- hrs]; exact hx⟩;rw [hts];refine a1x h.temps rfl fun i t' ht' => .inr ⟨t', ht', fun v S A hS hf => ⟨a2W (fun q x hx => by rw [hrs]; exact hx) (fun _ _ => rfl) t' v S A hS, hf⟩⟩
theorem mid_eq {ops : List Oper} {m : Nat} {es : List Ent} {σ0 s s' : St} {D : Nat -> Bool} (h : Mid ops m es σ0 D s) (h' : Mid ops m es σ0 D s') : s'.ts = s.ts /\ ∀ r, rget s'.rs r = rget s.rs r := by
 refine ⟨List.ext_getElem? fun τ => ?_, fun r => by rw [h.rs, h'.rs]⟩;have h1 := h.ts τ;have h2 := h'.ts τ;rw [a0i] at h1 h2;rcases Nat.lt_or_ge τ σ0.ts.length with hl | hl
 . have l1 : τ < s.ts.length := by rw [h.len]; exact hl
   have l2 : τ < s'.ts.length := by rw [h'.len]; exact hl
   rw [List.getElem?_eq_getElem l1] at h1 ⊢;rw [List.getElem?_eq_getElem l2] at h2 ⊢;simp only [Option.getD_some] at h1 h2;rw [h1, h2]
 . rw [List.getElem?_eq_none (by rw [h'.len]; exact hl), List.getElem?_eq_none (by rw [h.len]; exact hl)]
mutual
theorem a4z {rs : List (Nat × Root)} {G : Nat -> RG} {w : World} : ∀ (t : TV) (v : Value) (S A : List Nat), TRep P rs G w t v S A -> ∀ r, t.uses r = true -> rget rs r ≠ none
 | .dead, _, _, _, _, r, hu => by cases hu
 | .val agg cs, _, _, _, _, r, hu => by cases hu
 | .rptr _ cs, _, _, _, _, r, hu => by cases hu
 | .ref q p, v, S, A, h, r, hu => by
   obtain ⟨_, _, x, _, _, hx, _⟩ := h;have : q = r := Nat.eq_of_beq_eq_true hu;subst this; rw [hx]; simp
 | .view q p n agg, v, S, A, h, r, hu => by
   obtain ⟨_, _, x, _, _, hx, _⟩ := h;have : q = r := Nat.eq_of_beq_eq_true hu;subst this; rw [hx]; simp
 | .fn f caps, v, S, A, h, r, hu => by
   obtain ⟨vs, rfl, h⟩ := h;exact a3D caps vs S A h r (by simpa [TV.uses] using hu)
 | .fnx s g, v, S, A, h, r, hu => by cases hu
 | .tup k ts, v, S, A, h, r, hu => by
   obtain ⟨vs, hv, h⟩ := h;exact a3D ts vs S A h r (by simpa [TV.uses] using hu)
 | .pfn t, v, S, A, h, r, hu => by
   obtain ⟨ad, u, S0, rfl, hc, hlt, h, rfl⟩ := h;exact a4z t u S0 A h r (by simpa [TV.uses] using hu)
theorem a3D {rs : List (Nat × Root)} {G : Nat -> RG} {w : World} : ∀ (ts : List TV) (vs : List Value) (S A : List Nat), a1y P rs G w ts vs S A -> ∀ r, TV.usesL r ts = true -> rget rs r ≠ none
 | [], _, _, _, _, r, hu => by cases hu
 | t :: ts, vs, S, A, h, r, hu => by
   obtain ⟨v, vs', S1, S2, A1, A2, rfl, rfl, rfl, h1, h2⟩ := h;simp only [TV.usesL, Bool.or_eq_true] at hu;exact hu.elim (a4z t v S1 A1 h1 r) (a3D ts vs' S2 A2 h2 r)
end
theorem b1D {E : Env} {σ : St} {a : Act} {w : World} {G : Nat -> RG} (h : Rel P E σ a w G) : ∀ t ∈ σ.ts, ∀ r, t.uses r = true -> rget σ.rs r ≠ none := by
 intro t ht r hu;obtain ⟨i, hi⟩ := List.mem_iff_getElem?.1 ht;obtain ⟨v, S, A, _, hr, _⟩ := h.temps.2 i t hi;exact a4z t v S A hr r hu
end Go.Vm
end
section
namespace Go.Vm
variable {P : Program} {R : Type}
theorem ready_iff {ops : Array Oper} {listed : Array Bool} {i : Nat} : i ∈ Region.ready .any ops listed ↔ ∃ o, ops[i]? = some o /\ listed.getD i true = false /\ ∀ e ∈ o.after, Region.binds .any e = true -> listed.getD e.on false = true := by
 unfold Region.ready;simp only [List.mem_filter, List.mem_range, Bool.and_eq_true, Bool.not_eq_true'];constructor
 . rintro ⟨h1, h2, h3⟩;refine ⟨ops[i], by simp [h1], h2, fun e he hb => ?_⟩;simp only [h1, Array.getElem?_eq_getElem, Option.map_some, Option.getD_some] at h3;have := Array.all_eq_true_iff_forall_mem.1 h3 e he;simpa [hb] using this
 . rintro ⟨o, ho, h2, h3⟩;have hi : i < ops.size := by
     rcases Nat.lt_or_ge i ops.size with h | h
     . exact h
     . rw [Array.getElem?_eq_none h] at ho; cases ho
   refine ⟨hi, h2, ?_⟩;simp only [ho, Option.map_some, Option.getD_some];refine Array.all_eq_true_iff_forall_mem.2 fun e he => ?_;cases hb : Region.binds .any e with
   | true => simp [h3 e he hb]
   | false => simp
def Dof (listed : Array Bool) : Nat -> Bool := fun i => listed.getD i false
theorem a9A {listed : Array Bool} {i : Nat} (hi : i < listed.size) (j : Nat) : Dof (listed.setIfInBounds i true) j = a1h (Dof listed) i j := by
 simp only [Dof, a1h];rw [Array.getD_eq_getD_getElem?, Array.getD_eq_getD_getElem?, Array.getElem?_setIfInBounds];by_cases h : i = j
 . subst h; simp [hi]
 . have hb : Nat.beq j i = false := by
     cases hb : Nat.beq j i with
     | false => rfl
     | true => exact absurd (Nat.eq_of_beq_eq_true hb).symm h
   simp [h, hb]
theorem b2V {E : Env} {c : Ctx} (hctx : CtxOK P c) {ops : Array Oper} {i : Nat} {o : Oper} (hi : ops[i]? = some o) {σ : St} {a : Act} {w : World} {G : Nat -> RG} (hrel : Rel P E σ a w G) {kv : List (Nat × Value)} (hkeep : Keep kv a) (hd : ∀ d, o.dst = some d -> d ∉ kv.map (·.1))
   {b : Bool} (hw : a3Y ops.toList σ o = some b) {Q : Exit -> Act -> World -> Prop} {K : Act -> World -> Prop} {σ' : St}
   (hrun : b = true -> a0E c o σ some = some σ') (hskip : b = false -> σ' = σ.put o.dst und) (hK : ∀ a' w' G', Rel P E σ' a' w' G' -> Keep kv a' -> K a' w') : wpOp P ops Q i K a w := by
 have hwanted : Region.wanted o (yielded ops a.tmps) = b := by
   unfold a3Y at hw;cases hg : o.guard with
   | none => rw [hg] at hw; simp only [Option.some.injEq] at hw; simp [Region.wanted, hg, hw]
   | some gw =>
     obtain ⟨j, want⟩ := gw;rw [hg] at hw;simp only [] at hw;split at hw
     . cases hw
     rename_i t ht;have hdst : (ops[j]?).bind (·.dst) = some t := by
       rw [a0i, List.getElem?_map] at ht;cases hoj : ops[j]? with
       | none => simp [hoj] at ht
       | some oj => simpa [hoj] using ht
     split at hw
     . rename_i hu;have hyield : yielded ops a.tmps j = none := by
         unfold yielded;rw [hdst];exact a9v hrel hu
       simp only [Option.some.injEq] at hw;rw [<- hw];simp only [Region.wanted, hg, hyield];rfl
     split at hw
     . cases hw
     rename_i bb hb;obtain ⟨htv, htl⟩ := vB_of hb;obtain ⟨v, S, A, hv, hr, hf⟩ := hrel.temps.2 t (vB bb) (by rw [a0i, List.getElem?_eq_getElem htl] at htv; rw [List.getElem?_eq_getElem htl]; simpa using htv);have hvb := a2w hr rfl;subst hvb;have hyield : yielded ops a.tmps j = some bb := by
       unfold yielded;rw [hdst];simp [hv]
     simp only [Option.some.injEq] at hw;rw [<- hw];simp only [Region.wanted, hg, hyield];cases bb <;> cases want <;> rfl
 unfold wpOp;simp only [hi, hwanted];cases b with
 | true =>
   simp only [if_true];left;have hs := hrun rfl;refine Oper.wp_mono (fun a' w' h' => ?_) (Oper.wp_put (a7v hctx hrel hs Q));obtain ⟨⟨σ2, G2, h1, h2⟩, v, ds, h3⟩ := h';obtain rfl := Option.some.inj h2;exact hK a' w' G2 h1 (a4I hkeep h3 hd)
 | false =>
   simp only [Bool.false_eq_true, if_false];have := hskip rfl;subst this;exact hK _ w G (a0B hrel o.dst (t := und) (b0R _ _ _) (Fine2.nil _ _)) (a4I hkeep (ds := a.defers) rfl hd)
theorem a9t {all : List Oper} {σ σ' : St} {o : Oper} (h : ∀ τ ∈ a0u all o, nth σ'.ts τ .dead = nth σ.ts τ .dead) : a3Y all σ' o = a3Y all σ o := by
 unfold a3Y;cases hg : o.guard with
 | none => rfl
 | some gw =>
   obtain ⟨j, want⟩ := gw;simp only [];cases ht : (nth (all.map some) j none).bind (·.dst) with
   | none => rfl
   | some t =>
     simp only [];rw [h t];unfold a0u;refine List.mem_append_right _ ?_;simp only [hg, ht];simp
theorem b2a {E : Env} {c : Ctx} (hctx : CtxOK P c) {ops : Array Oper} {m n : Nat} (hok : OrdOK ops.toList m n) {k : St -> Option R} {r : R} {kv : List (Nat × Value)} (hkp : a2N (kv.map (·.1)) ops.toList = true) :
   ∀ (fuel j : Nat) (listed : Array Bool) (σ : St) (a : Act) (w : World) (G : Nat -> RG), m ≤ j -> j ≤ ops.size -> ops.size - j ≤ fuel -> listed.size = ops.size -> (∀ i, i < ops.size -> listed.getD i false = Nat.blt i j) →
     opsK c ops.toList (ops.toList.drop j) σ k = some r -> Rel P E σ a w G -> Keep kv a -> wpAny P .any ops (a9D P E kv k r) fuel listed a w := by
 have hgd : ∀ (listed : Array Bool) (i : Nat), listed.size = ops.size -> i < ops.size -> listed.getD i true = listed.getD i false := by
   intro listed i h1 h2;have : i < listed.size := by omega
   simp [Array.getD_eq_getD_getElem?, this]
 have noReady : ∀ (listed : Array Bool), listed.size = ops.size -> (∀ i, i < ops.size -> listed.getD i false = true) -> Region.ready .any ops listed = [] := by
   intro listed hl hall;rw [List.eq_nil_iff_forall_not_mem];intro i hi;obtain ⟨o, ho, h1, _⟩ := ready_iff.1 hi;have hi' : i < ops.size := by
     rcases Nat.lt_or_ge i ops.size with h | h
     . exact h
     . rw [Array.getElem?_eq_none h] at ho; cases ho
   rw [hgd listed i hl hi', hall i hi'] at h1;cases h1
 intro fuel;induction fuel with
 | zero =>
   intro j listed σ a w G hmj hj hf hl hD h hrel hkeep;have hjn : j = ops.size := by omega
   subst hjn;refine ⟨noReady listed hl fun i hi => by rw [hD i hi]; exact upto_iff.2 hi, rfl, hkeep, σ, G, hrel, ?_⟩;rw [List.drop_of_length_le (by simp)] at h;exact h
 | succ fuel ih =>
   intro j listed σ a w G hmj hj hf hl hD h hrel hkeep;refine ⟨fun hr => ?_, fun i hi => ?_⟩
   ·
     by_cases hjn : j = ops.size
     . subst hjn;rw [List.drop_of_length_le (by simp)] at h;exact ⟨rfl, hkeep, σ, G, hrel, h⟩
     . exfalso;have hjlt : j < ops.size := by omega
       have : j ∈ Region.ready .any ops listed := by
         refine ready_iff.2 ⟨ops[j], by simp [hjlt], ?_, fun e he hb => ?_⟩
         . rw [hgd listed j hl hjlt, hD j hjlt];cases hb : Nat.blt j j with
           | false => rfl
           | true => exact absurd (upto_iff.1 hb) (Nat.lt_irrefl j)
         . have hlt := hok.early j ops[j] (by simp [hjlt]) e he hb;rw [hD e.on (by omega)];exact upto_iff.2 hlt
       rw [hr] at this; cases this
   . obtain ⟨o, ho, h1, h2⟩ := ready_iff.1 hi;have hilt : i < ops.size := by
       rcases Nat.lt_or_ge i ops.size with h | h
       . exact h
       . rw [Array.getElem?_eq_none h] at ho; cases ho
     have hij : ¬ i < j := by
       intro hlt;rw [hgd listed i hl hilt, hD i hilt] at h1;have : Nat.blt i j = true := upto_iff.2 hlt;rw [this] at h1; cases h1
     have hcl : a4h ops.toList (Dof listed) := by
       intro x y hx hxy;have hxs : x < ops.size := by
         rcases Nat.lt_or_ge x ops.size with h | h
         . exact h
         . simp [Dof, Array.getD_eq_getD_getElem?, Array.getElem?_eq_none (show listed.size ≤ x by omega)] at hx
       have hxj : x < j := by
         have : Nat.blt x j = true := by rw [<- hD x hxs]; exact hx
         exact upto_iff.1 this
       have hyx := a7m hok hxy;show listed.getD y false = true;rw [hD y (by omega)];exact upto_iff.2 (by omega)
     have hanc : ∀ x y, x = i -> Anc ops.toList x y -> Dof listed y = true := by
       intro x y hx hxy;induction hxy with
       | @edge x o' e ho' he hb =>
         subst hx;have : o' = o := by
           have h3 : ops[x]? = some o' := by simpa using ho'
           rw [ho] at h3; exact (Option.some.inj h3).symm
         subst this;exact h2 e he hb
       | trans h3 h4 ih3 ih4 => exact hcl _ _ (ih3 hx) h4
     have hie : i = j := by
       by_cases hgt : j < i
       . have hjs : j < ops.size := by omega
         have := hanc i j rfl (hok.tail i j o ops[j] (by simpa using ho) (by simp [hjs]) hgt (by omega));have h3 : Nat.blt j j = true := by rw [<- hD j hjs]; exact this
         exact absurd (upto_iff.1 h3) (Nat.lt_irrefl j)
       . omega
     subst hie;have hdrop : ops.toList.drop i = o :: ops.toList.drop (i + 1) := by
       rw [List.drop_eq_getElem_cons (by simpa using hilt)];congr 1;have : ops[i]? = some ops[i] := by simp [hilt]
       rw [this] at ho;simpa using Option.some.inj ho
     rw [hdrop] at h;have hmem : o ∈ ops.toList := by
       have := Array.mem_of_getElem? ho;simpa using this
     have key : ∃ b σ', a3Y ops.toList σ o = some b /\ (b = true -> a0E c o σ some = some σ') /\ (b = false -> σ' = σ.put o.dst und) /\ opsK c ops.toList (ops.toList.drop (i + 1)) σ' k = some r := by
       simp only [opsK] at h;have run : (a0E c o σ fun σ' => opsK c ops.toList (ops.toList.drop (i + 1)) σ' k) = some r -> ∃ σ', a0E c o σ some = some σ' /\ opsK c ops.toList (ops.toList.drop (i + 1)) σ' k = some r := by
         intro h;rw [a4f] at h;cases hs : a0E c o σ some with
         | none => rw [hs] at h; cases h
         | some σ' => rw [hs] at h; exact ⟨σ', rfl, h⟩
       cases hg : o.guard with
       | none =>
         rw [hg] at h;obtain ⟨σ', h3, h4⟩ := run h;exact ⟨true, σ', by simp [a3Y, hg], fun _ => h3, fun e => (by cases e), h4⟩
       | some gw =>
         obtain ⟨l, want⟩ := gw;rw [hg] at h;simp only [] at h;split at h
         . cases h
         rename_i t ht;split at h
         . rename_i hu;exact ⟨false, _, by simp only [a3Y, hg, ht, hu], fun e => (by cases e), fun _ => rfl, h⟩
         rename_i hu;split at h
         . cases h
         rename_i b hb;have hw : a3Y ops.toList σ o = some (b == want) := by simp only [a3Y, hg, ht, hb, hu]
         cases b with
         | true =>
           simp only [if_true] at h;rw [a2F hb] at h;cases want with
           | true => obtain ⟨σ', h3, h4⟩ := run h; exact ⟨true, σ', hw, fun _ => h3, fun e => (by cases e), h4⟩
           | false => exact ⟨false, _, hw, fun e => (by cases e), fun _ => rfl, h⟩
         | false =>
           simp only [Bool.false_eq_true, if_false] at h;rw [a2F hb] at h;cases want with
           | false => obtain ⟨σ', h3, h4⟩ := run h; exact ⟨true, σ', hw, fun _ => h3, fun e => (by cases e), h4⟩
           | true => exact ⟨false, _, hw, fun e => (by cases e), fun _ => rfl, h⟩
     obtain ⟨b, σ', hw, hrun, hskip, hrest⟩ := key;refine b2V hctx ho hrel hkeep (a3H hkp o hmem) hw hrun hskip fun a' w' G' hrel' hkeep' => ?_;refine ih (i + 1) _ σ' a' w' G' (by omega) (by omega) (by omega) (by simpa using hl) (fun x hx => ?_) hrest hrel' hkeep';have := a9A (listed := listed) (i := i) (by omega) x;simp only [Dof] at this;rw [this];simp only [a1h, Dof, hD x hx];have hx1 : (Nat.blt x i || Nat.beq x i) = true ↔ Nat.blt x (i + 1) = true := by
       simp only [Bool.or_eq_true];constructor
       . rintro (h5 | h5)
         . exact upto_iff.2 (Nat.lt_succ_of_lt (upto_iff.1 h5))
         . rw [Nat.eq_of_beq_eq_true h5]; exact upto_iff.2 (Nat.lt_succ_self i)
       . intro h5;have := upto_iff.1 h5;by_cases hxi : x = i
         . subst hxi; exact .inr (Nat.beq_refl _)
         . exact .inl (upto_iff.2 (by omega))
     cases h6 : (Nat.blt x i || Nat.beq x i) <;> cases h7 : Nat.blt x (i + 1) <;> simp_all
theorem a8x {α : Type} {p q : α -> Bool} : ∀ {l : List α}, (∀ x ∈ l, q x = true -> p x = true) -> (∃ x ∈ l, p x = true /\ q x = false) -> l.countP q < l.countP p := by
 intro l;induction l with
 | nil => rintro _ ⟨x, hx, _⟩; cases hx
 | cons y l ih =>
   intro h1 h2;have hle : l.countP q ≤ l.countP p := List.countP_mono_left fun x hx hq => h1 x (by simp [hx]) hq;rw [List.countP_cons, List.countP_cons];obtain ⟨x, hx, hpx, hqx⟩ := h2;simp only [List.mem_cons] at hx;rcases hx with rfl | hx
   . simp only [hpx, hqx, if_true, Bool.false_eq_true, if_false]; omega
   . have := ih (fun x hx => h1 x (by simp [hx])) ⟨x, hx, hpx, hqx⟩;have h3 := h1 y (by simp);cases hq : q y with
     | true => simp only [h3 hq, if_true]; omega
     | false => cases hp : p y <;> simp only [if_true, Bool.false_eq_true, if_false] <;> omega
def left (n : Nat) (listed : Array Bool) : Nat := (List.range n).countP fun i => !listed.getD i false
theorem a3M (τ : Nat) : ∀ (M : List Nat) (σ : St), nth (a0G M σ).ts τ .dead = if a1Y M (nth σ.ts τ .dead) = true then .dead else nth σ.ts τ .dead := by
 intro M;induction M with
 | nil => intro σ; simp [a0G, a1Y]
 | cons r M ih =>
   intro σ;have e : nth (σ.del r).ts τ .dead = if (nth σ.ts τ .dead).uses r = true then .dead else nth σ.ts τ .dead := b0F r σ.ts τ
   have hd : ∀ M : List Nat, a1Y M .dead = false := by
     intro M;induction M with
     | nil => rfl
     | cons x M ih => simp only [a1Y, ih, Bool.or_false]; rfl
   show nth (a0G M (σ.del r)).ts τ .dead = _;rw [ih, e];cases hu : (nth σ.ts τ .dead).uses r with
   | true => simp [a1Y, hu, hd]
   | false => simp [a1Y, hu]
theorem a3s (q : Nat) : ∀ (M : List Nat) (σ : St), rget (a0G M σ).rs q = if q ∈ M then none else rget σ.rs q := by
 intro M;induction M with
 | nil => intro σ; simp [a0G]
 | cons r M ih =>
   intro σ;show rget (a0G M (σ.del r)).rs q = _;rw [ih];simp only [St.del, a0C, List.mem_cons];by_cases h1 : q ∈ M
   . simp [h1]
   . by_cases h2 : q = r
     . simp [h2]
     . simp [h1, h2]
theorem a4X : ∀ (M : List Nat) (σ : St), (a0G M σ).ts.length = σ.ts.length := by
 intro M;induction M with
 | nil => intro σ; rfl
 | cons r M ih => intro σ; show (a0G M (σ.del r)).ts.length = _; rw [ih]; exact a0m _ _
theorem usesAny_true {l : List Nat} {t : TV} : a1Y l t = true ↔ ∃ r ∈ l, t.uses r = true := by
 induction l with
 | nil => simp [a1Y]
 | cons x l ih => simp [a1Y, ih]
theorem ts_ext {l l' : List TV} (hl : l.length = l'.length) (h : ∀ τ, nth l τ .dead = nth l' τ .dead) : l = l' := by
 refine List.ext_getElem? fun τ => ?_;have h1 := h τ;rw [a0i, a0i] at h1;rcases Nat.lt_or_ge τ l.length with hl1 | hl1
 . rw [List.getElem?_eq_getElem hl1, List.getElem?_eq_getElem (by omega)] at h1 ⊢;simp only [Option.getD_some] at h1;rw [h1]
 . rw [List.getElem?_eq_none hl1, List.getElem?_eq_none (by omega)]
def MvD (es : List Ent) (D : Nat -> Bool) (q : Nat) : Prop := ∃ (k : Nat) (e : Ent), D k = true /\ es[k]? = some e /\ q ∈ e.M
structure DelS (es : List Ent) (D : Nat -> Bool) (s σr : St) : Prop where
 len : σr.ts.length = s.ts.length
 keep : ∀ τ, (∀ q, MvD es D q -> (nth s.ts τ .dead).uses q = false) -> nth σr.ts τ .dead = nth s.ts τ .dead
 gone : ∀ τ q, MvD es D q -> (nth s.ts τ .dead).uses q = true -> nth σr.ts τ .dead = .dead
 rsK : ∀ q, ¬ MvD es D q -> rget σr.rs q = rget s.rs q
 rsG : ∀ q, MvD es D q -> rget σr.rs q = none
theorem a4q {es : List Ent} {D D' : Nat -> Bool} (h : ∀ k, (∃ e, es[k]? = some e) -> D k = D' k) (q : Nat) : MvD es D q ↔ MvD es D' q :=
 ⟨fun ⟨k, e, h1, h2, h3⟩ => ⟨k, e, by rw [<- h k ⟨e, h2⟩]; exact h1, h2, h3⟩, fun ⟨k, e, h1, h2, h3⟩ => ⟨k, e, by rw [h k ⟨e, h2⟩]; exact h1, h2, h3⟩⟩
theorem b0e {es : List Ent} {D D' : Nat -> Bool} {s σr : St} (h : DelS es D s σr) (hD : ∀ k, (∃ e, es[k]? = some e) -> D k = D' k) : DelS es D' s σr :=
 ⟨h.len, fun τ k => h.keep τ fun q hq => k q ((a4q hD q).1 hq), fun τ q hq => h.gone τ q ((a4q hD q).2 hq), fun q hq => h.rsK q fun k => hq ((a4q hD q).1 k), fun q hq => h.rsG q ((a4q hD q).2 hq)⟩
section
variable {c : Ctx} {ops : List Oper} {m n : Nat} {σ0 : St} {es : List Ent} {ss : List St}
theorem Walk.mvs (W : Walk c ops m n σ0 es ss) {k : Nat} {ek : Ent} {q : Nat} (hek : es[k]? = some ek) (hq : q ∈ ek.M) :
   ∃ ok sk, k < m /\ ops[k]? = some ok /\ ss[k]? = some sk /\ LocM c ok sk ek.M ek.N ek.t /\ rget σ0.rs q = none /\ (∃ j, j < k /\ a1w ops m (q / 4) = some j) ∧
     ∀ (j : Nat) (oj : Oper), ops[j]? = some oj -> j ≠ k -> Anc ops k j ∨ ∀ τ ∈ a0u ops oj, (nth sk.ts τ .dead).uses q = false := by
 have hk := W.elen k ek hek;obtain ⟨ok, hok⟩ := W.oper hk;obtain ⟨e', sk, h1, h2, h3, mvk, ⟨_, _, hdis⟩, _⟩ := W.run k ok hk hok;rw [hek] at h1;obtain rfl := Option.some.inj h1;rcases hdis with ⟨_, hloc, hsep⟩ | ⟨_, _, hM0, _⟩
 . obtain ⟨⟨jf, ojf, hjf, hojf, hadd, hdst⟩, hall⟩ := b2H (hsep q hq) hq;have hf := W.fresh jf ojf (q / 4) (by omega) hojf hadd hdst (q % 4) (by omega);rw [show 4 * (q / 4) + q % 4 = q by omega] at hf;exact ⟨ok, sk, hk, hok, h2, hloc, hf, ⟨jf, hjf, a6j W.ok (by omega) hojf hdst⟩, hall⟩
 . rw [hM0] at hq; cases hq
theorem a8K (W : Walk c ops m n σ0 es ss) {D : Nat -> Bool} (hc : a4h ops D) {s : St} (hM : Mid ops m es σ0 D s) {i : Nat} {o : Oper} (hi : i < m) (ho : ops[i]? = some o) (hD : D i = false) (hA : ∀ a, Anc ops i a -> D a = true) :
   ∀ τ ∈ a0u ops o, ∀ q, MvD es D q -> (nth s.ts τ .dead).uses q = false := by
 obtain ⟨e, si, he, hsi, hn, mvd, ⟨_, hfree, _⟩, hmvd⟩ := W.run i o hi ho;obtain ⟨hlook, _⟩ := a5I W hc hM hi ho hsi hD hA;rintro τ hτ q ⟨k, ek, hDk, hek, hq⟩;rw [hlook τ hτ];cases hu : (nth si.ts τ .dead).uses q with
 | false => rfl
 | true =>
   exfalso;obtain ⟨ok, sk, hk, hok, hsk, hloc, hfr, _, hall⟩ := W.mvs hek hq;rcases Nat.lt_trichotomy k i with hlt | rfl | hgt
   . have := b0h hfree τ hτ q ((hmvd q).2 ⟨k, ek, hlt, hek, hq⟩);rw [hu] at this; cases this
   . rw [hD] at hDk; cases hDk
   . rcases hall i o ho (by omega) with ha | hno
     . have := hc k i hDk ha;rw [hD] at this; cases this
     . have h1 := hno τ hτ;obtain ⟨⟨sk', hsk', hMk⟩, _⟩ := a3L W k (by omega);rw [hsk] at hsk';obtain rfl := Option.some.inj hsk';obtain ⟨⟨si', hsi', hMi⟩, _⟩ := a3L W i (by omega);rw [hsi] at hsi';obtain rfl := Option.some.inj hsi';rw [hMk.ts] at h1;rw [hMi.ts] at hu;unfold valD at h1 hu;cases hw : a1w ops m τ with
       | none => rw [hw] at h1 hu; simp only [] at h1 hu; rw [hu] at h1; cases h1
       | some w =>
         rw [hw] at h1 hu;simp only [] at h1 hu;by_cases hwi : w < i
         . rw [if_pos (upto_iff.2 (by omega))] at h1;rw [if_pos (upto_iff.2 hwi)] at hu;rw [hu] at h1; cases h1
         . rw [if_neg (fun h => hwi (upto_iff.1 h))] at hu;exact W.closed _ (a9V hu) q hu hfr
theorem b2e (W : Walk c ops m n σ0 es ss) {D : Nat -> Bool} (hc : a4h ops D) {s σr : St} (hM : Mid ops m es σ0 D s) (hd : DelS es D s σr) {i : Nat} {o : Oper} {e : Ent} (hi : i < m) (ho : ops[i]? = some o) (he : es[i]? = some e) (hD : D i = false) (hA : ∀ a, Anc ops i a -> D a = true) :
   DelS es (a1h D i) (next o e s) ((a1n e.N (a0G e.M σr)).put o.dst e.t) := by
 have hU : ∀ j, D j = true -> j < m -> a4w ops m σ0 es j := fun j _ hj => a3V W j hj;have hnew := b3e W hc hU hM hi ho he hD;obtain ⟨hnd, hids⟩ := W.ids hi ho he;obtain ⟨d, hdst, hdn⟩ := W.ok.dst i o ho hi;obtain ⟨e', si, he', hsi, hn, mvd, ⟨_, hfree, hdis⟩, hmvd⟩ := W.run i o hi ho;rw [he] at he';obtain rfl := Option.some.inj he';obtain ⟨hlook, _⟩ := a5I W hc hM hi ho hsi hD hA;have hnm := a8K W hc hM hi ho hD hA;have hmv : ∀ q, MvD es (a1h D i) q ↔ MvD es D q ∨ q ∈ e.M := by
   intro q;constructor
   . rintro ⟨k, ek, hk, hek, hq⟩;simp only [a1h, Bool.or_eq_true] at hk;rcases hk with hk | hk
     . exact .inl ⟨k, ek, hk, hek, hq⟩
     . have := Nat.eq_of_beq_eq_true hk;subst this;rw [he] at hek;obtain rfl := Option.some.inj hek;exact .inr hq
   . rintro (⟨k, ek, hk, hek, hq⟩ | hq)
     . exact ⟨k, ek, by simp [a1h, hk], hek, hq⟩
     . exact ⟨i, e, by simp [a1h, Nat.beq_refl], he, hq⟩
 have hN : ∀ q, MvD es (a1h D i) q -> q ∉ e.N.map (·.1) := by
   intro q hq;rcases (hmv q).1 hq with ⟨k, ek, hDk, hek, hqk⟩ | hqe
   . intro hin;obtain ⟨ok, sk, hk, hok, hsk, hloc, hfr, ⟨jf, hjf, hwj⟩, hall⟩ := W.mvs hek hqk;have hw := (hids q hin).2;obtain ⟨τ, hτ, hu⟩ := hloc.mv q hqk;obtain ⟨⟨sk', hsk', hMk⟩, _⟩ := a3L W k (by omega);rw [hsk] at hsk';obtain rfl := Option.some.inj hsk';have hu : (nth sk.ts τ .dead).uses q = true := hu;rw [hMk.ts] at hu;rcases a4V W (fun j _ hj => a3V W j hj) hu with h1 | ⟨j, j', e2, hj, hDj, hjj, he2, hr2⟩
     . exact h1 hfr
     . have hjk := upto_iff.1 hDj;have ha := (a3W W hk hok (a0Z hτ) hj).1 hjk;have hj'm : j' < m := by
         rcases hjj with rfl | h
         . exact (a0d hj).1
         . have := a7m W.ok h; have := (a0d hj).1; omega
       obtain ⟨o', ho'⟩ := W.oper hj'm;have h2 := ((W.ids hj'm ho' he2).2 q hr2).2;rw [hw] at h2;obtain rfl := Option.some.inj h2;have hai : Anc ops k i := by
         rcases hjj with rfl | h
         . exact ha
         . exact .trans ha h
       have := hc k i hDk hai;rw [hD] at this; cases this
   . rcases hdis with ⟨_, hloc, _⟩ | ⟨_, hN0, _⟩
     . exact (hloc.apart q hqe).2
     . rw [hN0]; simp
 have ht : ∀ q, MvD es (a1h D i) q -> e.t.uses q = false := by
   intro q hq;cases hu : e.t.uses q with
   | false => rfl
   | true =>
     exfalso;rcases hdis with ⟨_, hloc, _⟩ | ⟨_, _, _, ht0⟩
     . rcases hloc.uses q hu with ⟨x, hx, hxu⟩ | hin
       . rcases (hmv q).1 hq with hq' | hqe
         . obtain ⟨τ, rfl⟩ := a3I hxu;have h1 := hnm τ (a0Z hx) q hq';rw [hlook τ (a0Z hx)] at h1;have hxu : (nth si.ts τ .dead).uses q = true := hxu;rw [hxu] at h1; cases h1
         . rw [(hloc.apart q hqe).1] at hu; cases hu
       . exact hN q hq hin
     . rw [ht0] at hu; cases hu
 have hsr : ∀ τ, nth σr.ts τ .dead = nth s.ts τ .dead ∨ nth σr.ts τ .dead = .dead := by
   intro τ;by_cases h : ∃ q, MvD es D q /\ (nth s.ts τ .dead).uses q = true
   . obtain ⟨q, h1, h2⟩ := h; exact .inr (hd.gone τ q h1 h2)
   . refine .inl (hd.keep τ fun q hq => ?_);cases hu : (nth s.ts τ .dead).uses q with
     | false => rfl
     | true => exact absurd ⟨q, hq, hu⟩ h
 have hts1 : (a1n e.N (a0G e.M σr)).ts = (a0G e.M σr).ts := by
   refine a7S _ _ fun t ht p hp => ?_;obtain ⟨τ, hτ⟩ := List.mem_iff_getElem?.1 ht;have hv : nth (a0G e.M σr).ts τ .dead = t := by rw [a0i, hτ]; rfl
   rw [a3M] at hv;split at hv
   . rw [<- hv]; rfl
   . rcases hsr τ with h | h
     . rw [h] at hv;cases hu : t.uses p.1 with
       | false => rfl
       | true =>
         have hm : nth s.ts τ .dead ∈ s.ts := a9V (r := p.1) (by rw [hv]; exact hu);have := hnew _ hm p hp;rw [hv, hu] at this; cases this
     . rw [h] at hv; rw [<- hv]; rfl
 have hts2 : (a1n e.N s).ts = s.ts := a7S e.N s hnew;have hlen : d < s.ts.length := by rw [hM.len, <- W.nlen]; exact hdn
 have nthu : ∀ (l : List TV) (τ : Nat), nth (upd l d e.t) τ .dead = if d = τ /\ d < l.length then e.t else nth l τ .dead := by
   intro l τ;rw [a0i, a5y, List.getElem?_set, a0i];by_cases h1 : d = τ
   . subst h1;by_cases h2 : d < l.length
     . simp [h2]
     . simp [h2]
   . simp [h1]
 refine ⟨?_, fun τ hk => ?_, fun τ q hq hu => ?_, fun q hq => ?_, fun q hq => ?_⟩
 . simp only [next, hdst, St.put, a5y, List.length_set, hts1, hts2, a4X, hd.len]
 . simp only [next, hdst, St.put, hts1, hts2] at hk ⊢;rw [nthu, nthu];by_cases hτ : d = τ
   . rw [if_pos ⟨hτ, by rw [a4X, hd.len]; exact hlen⟩, if_pos ⟨hτ, hlen⟩]
   . rw [if_neg (fun h => hτ h.1), if_neg (fun h => hτ h.1), a3M];have hk' : ∀ q, MvD es (a1h D i) q -> (nth s.ts τ .dead).uses q = false := fun q hq => by
       have := hk q hq
       rwa [nthu, if_neg (fun h => hτ h.1)] at this
     have h1 := hd.keep τ fun q hq => hk' q ((hmv q).2 (.inl hq));rw [h1, if_neg];intro hua;obtain ⟨q, hq, hu⟩ := usesAny_true.1 hua;rw [hk' q ((hmv q).2 (.inr hq))] at hu; cases hu
 . simp only [next, hdst, St.put, hts1, hts2] at hu ⊢;rw [nthu] at hu ⊢;by_cases hτ : d = τ
   . rw [if_pos ⟨hτ, hlen⟩, ht q hq] at hu; cases hu
   . rw [if_neg (fun h => hτ h.1)] at hu ⊢;rw [a3M];by_cases hg : nth σr.ts τ .dead = .dead
     . rw [hg]; simp
     . have h1 : nth σr.ts τ .dead = nth s.ts τ .dead := (hsr τ).resolve_right hg;rcases (hmv q).1 hq with hq' | hqe
       . exact absurd (hd.gone τ q hq' hu) hg
       . rw [h1, if_pos (usesAny_true.2 ⟨q, hqe, hu⟩)]
 . simp only [next, hdst, St.put];rw [a3R _ _ hnd, a3R _ _ hnd, a3s, if_neg (fun h => hq ((hmv q).2 (.inr h))), hd.rsK q fun h => hq ((hmv q).2 (.inl h))]
 . simp only [next, hdst, St.put];rw [a3R _ _ hnd, a3s];have : rget e.N q = none := by
     cases hx : rget e.N q with
     | none => rfl
     | some y => exact absurd (rget_ids.1 (by rw [hx]; simp)) (hN q hq)
   rw [this];rcases (hmv q).1 hq with h | h
   . split
     . rfl
     . simp [hd.rsG q h]
   . simp [h]
end
theorem b2Z {E : Env} {c : Ctx} (hctx : CtxOK P c) {ops : Array Oper} {m n : Nat} {σ0 : St} {es : List Ent} {ss : List St} (W : Walk c ops.toList m n σ0 es ss) {k : St -> Option R} {r : R} {kv : List (Nat × Value)} (hkp : a2N (kv.map (·.1)) ops.toList = true)
   {σm : St} (hσm : ss[m]? = some σm) {mvn : List Nat} (hmvn : ∀ q, q ∈ mvn ↔ ∃ (j : Nat) (e : Ent), es[j]? = some e /\ q ∈ e.M) (hrest : opsK c ops.toList (ops.toList.drop m) (a0G mvn σm) k = some r) :
   ∀ (fuel : Nat) (listed : Array Bool) (s σr : St) (a : Act) (w : World) (G : Nat -> RG), left ops.size listed ≤ fuel -> listed.size = ops.size -> (∀ i, i < ops.size -> m ≤ i -> listed.getD i false = false) -> a4h ops.toList (Dof listed) →
     Mid ops.toList m es σ0 (Dof listed) s -> DelS es (Dof listed) s σr -> Rel P E σr a w G -> Keep kv a -> wpAny P .any ops (a9D P E kv k r) fuel listed a w := by
 have hms : m ≤ ops.size := by simpa using W.mle
 have hgd : ∀ (listed : Array Bool) (i : Nat), listed.size = ops.size -> i < ops.size -> listed.getD i true = listed.getD i false := by
   intro listed i h1 h2;have : i < listed.size := by omega
   simp [Array.getD_eq_getD_getElem?, this]
 have full : ∀ (fuel : Nat) (listed : Array Bool) (s σr : St) (a : Act) (w : World) (G : Nat -> RG), left ops.size listed ≤ fuel -> listed.size = ops.size -> (∀ i, i < ops.size -> m ≤ i -> listed.getD i false = false) →
     (∀ i, i < m -> listed.getD i false = true) -> Mid ops.toList m es σ0 (Dof listed) s -> DelS es (Dof listed) s σr -> Rel P E σr a w G -> Keep kv a -> wpAny P .any ops (a9D P E kv k r) fuel listed a w := by
   intro fuel listed s σr a w G hf hl ht hall hM hdel hrel hkeep;obtain ⟨⟨s', hs', hM'⟩, _⟩ := a3L W m (Nat.le_refl _);rw [hσm] at hs';rw [<- Option.some.inj hs'] at hM';clear hs';have hM2 : Mid ops.toList m es σ0 (upto m) s := a5a hM fun i hi => by rw [upto_iff.2 hi]; exact hall i hi
   obtain ⟨e1, e2⟩ := mid_eq hM2 hM';have hmv : ∀ q, MvD es (Dof listed) q ↔ q ∈ mvn := fun q => by
     rw [hmvn];exact ⟨fun ⟨k, e, _, h1, h2⟩ => ⟨k, e, h1, h2⟩, fun ⟨k, e, h1, h2⟩ => ⟨k, e, hall k (W.elen k e h1), h1, h2⟩⟩
   have e3 : (a0G mvn σm).ts = σr.ts := by
     refine ts_ext (by rw [a4X, e1, hdel.len]) fun τ => ?_;rw [a3M, e1];by_cases hu : a1Y mvn (nth s.ts τ .dead) = true
     . rw [if_pos hu];obtain ⟨q, hq, hu⟩ := usesAny_true.1 hu;exact (hdel.gone τ q ((hmv q).2 hq) hu).symm
     . rw [if_neg hu];refine (hdel.keep τ fun q hq => ?_).symm;cases hx : (nth s.ts τ .dead).uses q with
       | false => rfl
       | true => exact absurd (usesAny_true.2 ⟨q, (hmv q).1 hq, hx⟩) hu
   have e4 : ∀ q, rget (a0G mvn σm).rs q = rget σr.rs q := fun q => by
     rw [a3s, e2];by_cases hq : q ∈ mvn
     . rw [if_pos hq]; exact (hdel.rsG q ((hmv q).2 hq)).symm
     . rw [if_neg hq]; exact (hdel.rsK q fun h => hq ((hmv q).1 h)).symm
   have hcnt : ops.size - m ≤ fuel := by
     refine Nat.le_trans ?_ hf;unfold left;have hsplit : List.range ops.size = List.range m ++ (List.range (ops.size - m)).map (m + ·) := by
       rw [<- List.range_add]; congr 1; omega
     rw [hsplit, List.countP_append, List.countP_map];have : (List.range (ops.size - m)).countP ((fun i => !listed.getD i false) ∘ (m + ·)) = (List.range (ops.size - m)).length := by
       rw [List.countP_eq_length];intro x hx;simp only [List.mem_range] at hx;simp only [Function.comp];rw [ht (m + x) (by omega) (by omega)]; rfl
     rw [this]; simp
   refine b2a hctx W.ok hkp fuel m listed _ a w G (Nat.le_refl _) hms hcnt hl (fun i hi => ?_) hrest (b2w hrel e3 e4) hkeep;by_cases him : i < m
   . rw [hall i him]; exact (upto_iff.2 him).symm
   . rw [ht i hi (by omega)];cases hb : Nat.blt i m with
     | false => rfl
     | true => exact absurd (upto_iff.1 hb) him
 intro fuel;induction fuel with
 | zero =>
   intro listed s σr a w G hf hl ht hc hM hdel hrel hkeep;refine full 0 listed s σr a w G hf hl ht (fun i hi => ?_) hM hdel hrel hkeep;have h0 : left ops.size listed = 0 := by omega
   unfold left at h0;rw [List.countP_eq_zero] at h0;have := h0 i (by simp; omega);simpa using this
 | succ fuel ih =>
   intro listed s σr a w G hf hl ht hc hM hdel hrel hkeep;by_cases hall : ∀ i, i < m -> listed.getD i false = true
   . exact full (fuel + 1) listed s σr a w G hf hl ht hall hM hdel hrel hkeep
   ·
     have hex : ∃ i, i < m /\ listed.getD i false = false /\ ∀ j, j < i -> listed.getD j false = true := by
       have h1 : ∃ i, i < m /\ listed.getD i false = false := by
         refine Classical.byContradiction fun hn => hall fun i hi => ?_;cases hg : listed.getD i false with
         | true => rfl
         | false => exact absurd ⟨i, hi, hg⟩ hn
       have h2 : ∀ N i, i < N -> i < m -> listed.getD i false = false -> ∃ i, i < m /\ listed.getD i false = false /\ ∀ j, j < i -> listed.getD j false = true := by
         intro N;induction N with
         | zero => intro i hi; omega
         | succ N ihN =>
           intro i hiN him hif;by_cases hj : ∀ j, j < i -> listed.getD j false = true
           . exact ⟨i, him, hif, hj⟩
           . have : ∃ j, j < i /\ listed.getD j false = false := by
               refine Classical.byContradiction fun hn => hj fun j hj => ?_;cases hg : listed.getD j false with
               | true => rfl
               | false => exact absurd ⟨j, hj, hg⟩ hn
             obtain ⟨j, hj1, hj2⟩ := this;exact ihN j (by omega) (by omega) hj2
       obtain ⟨i, hi, hif⟩ := h1;exact h2 (i + 1) i (by omega) hi hif
     refine ⟨fun hr => ?_, fun i hi => ?_⟩
     . exfalso;obtain ⟨i, him, hif, hlow⟩ := hex;have his : i < ops.size := by omega
       have : i ∈ Region.ready .any ops listed := ready_iff.2 ⟨ops[i], by simp [his], by rw [hgd listed i hl his]; exact hif, fun e he hb => hlow _ (W.ok.early i ops[i] (by simp [his]) e he hb)⟩;rw [hr] at this; cases this
     . obtain ⟨o, ho, h1, h2⟩ := ready_iff.1 hi;have hilt : i < ops.size := by
         rcases Nat.lt_or_ge i ops.size with h | h
         . exact h
         . rw [Array.getElem?_eq_none h] at ho; cases ho
       have hol : ops.toList[i]? = some o := by simpa using ho
       have hanc : ∀ x y, x = i -> Anc ops.toList x y -> Dof listed y = true := by
         intro x y hx hxy;induction hxy with
         | @edge x o' e ho' he hb =>
           subst hx;rw [hol] at ho';obtain rfl := Option.some.inj ho';exact h2 e he hb
         | trans h3 h4 ih3 ih4 => exact hc _ _ (ih3 hx) h4
       have hDi : Dof listed i = false := by
         show listed.getD i false = false;rw [<- hgd listed i hl hilt]; exact h1
       have him : i < m := by
         by_cases him : i < m
         . exact him
         . exfalso;obtain ⟨j, hjm, hjf, _⟩ := hex;have hjs : j < ops.size := by omega
           have := hanc i j rfl (W.ok.tail i j o ops[j] hol (by simp [hjs]) (by omega) (by omega));have h3 : listed.getD j false = true := this;rw [hjf] at h3; cases h3
       obtain ⟨e, si, he, hsi, hn, mvd, hok, -⟩ := W.run i o him hol;obtain ⟨hlook, hagree⟩ := a5I W hc hM him hol hsi hDi fun x hx => hanc i x rfl hx;have hnm := a8K W hc hM him hol hDi fun x hx => hanc i x rfl hx;have hdel' := b2e W hc hM hdel him hol he hDi fun x hx => hanc i x rfl hx;have hlookr : ∀ τ ∈ a0u ops.toList o, nth σr.ts τ .dead = nth si.ts τ .dead := fun τ hτ => by rw [hdel.keep τ (hnm τ hτ), hlook τ hτ]
       have hagreer : Agree o si σr := by
         refine ⟨fun x hx => ?_, fun x hx q hq => ?_⟩
         . cases x with
           | tmp τ => exact hlookr τ (a0Z hx)
           | _ => rfl
         . rw [<- hagree.rs x hx q hq];obtain ⟨τ, rfl⟩ := a3I hq;refine hdel.rsK q fun hmv => ?_;have := hnm τ (a0Z hx) q hmv;rw [hlook τ (a0Z hx)] at this;have hq : (nth si.ts τ .dead).uses q = true := hq;rw [hq] at this; cases this
       have hM' := b0D W hc (fun j _ hj => a3V W j hj) hM him hol he hDi;have hmem : o ∈ ops.toList := by
         have := Array.mem_of_getElem? ho;simpa using this
       have hset : ∀ x, Dof (listed.setIfInBounds i true) x = a1h (Dof listed) i x := fun x => a9A (by omega) x;refine b2V hctx ho hrel hkeep (a3H hkp o hmem) (b := e.w) (by rw [a9t hlookr]; exact hok.1) (σ' := (a1n e.N (a0G e.M σr)).put o.dst e.t) (fun hb => ?_) (fun hb => ?_) fun a' w' G' hrel' hkeep' => ?_
       . rcases hok.2.2 with ⟨_, hloc, _⟩ | ⟨hw, _⟩
         . exact hloc.step σr hagreer some
         . rw [hb] at hw; cases hw
       . rcases hok.2.2 with ⟨hw, _⟩ | ⟨_, hN, hM0, ht'⟩
         . rw [hb] at hw; cases hw
         . simp only [hN, hM0, ht', a1n, a0G]
       . refine ih _ _ _ a' w' G' ?_ (by simpa using hl) (fun x hx hmx => ?_) (fun x y hx hxy => ?_) (a5a hM' fun x _ => (hset x).symm) (b0e hdel' fun x _ => (hset x).symm) hrel' hkeep'
         . have : left ops.size (listed.setIfInBounds i true) < left ops.size listed := by
             refine a8x (fun x hx hq => ?_) ⟨i, by simpa using hilt, ?_, ?_⟩
             . have := hset x;simp only [Dof] at this;rw [this] at hq;simp only [a1h, Dof, Bool.not_or, Bool.and_eq_true] at hq;exact hq.1
             . have h3 : listed.getD i false = false := hDi;rw [h3]; rfl
             . have := hset i;simp only [Dof] at this;rw [this];simp [a1h, Nat.beq_refl]
           omega
         . have := hset x;simp only [Dof] at this;rw [this];simp only [a1h, Dof, ht x hx hmx, Bool.false_or];cases hb : Nat.beq x i with
           | false => rfl
           | true => have := Nat.eq_of_beq_eq_true hb; omega
         . rw [hset] at hx ⊢;simp only [a1h, Bool.or_eq_true] at hx ⊢;rcases hx with hx | hx
           . exact .inl (hc x y hx hxy)
           . exact .inl (hanc x y (Nat.eq_of_beq_eq_true hx) hxy)
end Go.Vm
end
section
namespace Go.Vm
variable {P : Program}
theorem a7x {α : Type} {p : α -> Bool} {l : List α} (h : b3O p l = true) : ∃ x ∈ l, p x = true := by
 unfold b3O at h;induction l with
 | nil => simp [allB] at h
 | cons x l ih =>
   simp only [allB] at h;cases hx : p x with
   | true => exact ⟨x, by simp, hx⟩
   | false =>
     rw [hx] at h;obtain ⟨y, h1, h2⟩ := ih h;exact ⟨y, by simp [h1], h2⟩
inductive FloatK (a : Act) (o : Oper) : Prop
 | mv (x : Operand) (h : o.op = .move x)
 | ex (t : Operand) (i : Nat) (h : o.op = .extract t i)
 | add (T : TypeId) (x y : Operand) (b : TypeId) (h : o.op = .binOp .add T x y b) (hx : ∃ k n, a.eval x = .int k n) (hy : ∃ k n, a.eval y = .int k n)
theorem b1c {a : Act} {o : Oper} (h : FloatK a o) {w w' : World} {n : Next} (hr : (execOp a.eval o).run P w = .ok n w') : w' = w /\ ∃ v, n = .value v /\ ∀ w2, (execOp a.eval o).run P w2 = .ok (.value v) w2 := by
 cases h with
 | mv x ho =>
   simp only [execOp, ho, Sem.run_pure, Result.ok.injEq] at hr ⊢;obtain ⟨rfl, rfl⟩ := hr;exact ⟨rfl, _, rfl, fun w2 => ⟨rfl, trivial⟩⟩
 | ex t ix ho =>
   simp only [execOp, ho] at hr ⊢;cases hv : a.eval t with
   | tuple vs =>
     simp only [hv, Instr.extract] at hr ⊢;cases hx : vs[ix]? with
     | some v =>
       simp [hx] at hr ⊢;exact ⟨hr.2.symm, hr.1.symm⟩
     | none => simp [hx] at hr
   | _ => simp [hv, Instr.extract] at hr
 | add T x y b ho hx hy =>
   obtain ⟨k1, n1, hx⟩ := hx;obtain ⟨k2, n2, hy⟩ := hy;simp only [execOp, ho, eqGuard] at hr ⊢;simp [hx, hy, Go.binOp] at hr ⊢;by_cases hk : k1 = k2
   . simp [hk, Op.intArith] at hr ⊢;exact ⟨hr.2.symm, hr.1.symm⟩
   . simp [hk] at hr
structure Floats (ops ops' : Array Oper) (Fl : Nat -> Bool) (X : Nat -> Nat -> Prop) (S : Nat -> Prop) (n : Nat) : Prop where
 size : ops'.size = ops.size
 same : ∀ (i : Nat) (o : Oper), ops[i]? = some o -> ∃ af : Array Edge, ops'[i]? = some ⟨o.dst, o.op, o.type, o.pos, af, o.guard⟩ /\ (∀ e ∈ o.after, e ∈ af) /\ ∀ e ∈ af, Region.binds .any e = true -> e ∈ o.after ∨ X i e.on
 x : ∀ i f, X i f -> Fl f = true /\ f < i /\ ∀ o : Oper, ops[f]? = some o -> ∀ e ∈ o.after, Region.binds .any e = true -> X i e.on ∨ Anc ops.toList i e.on
 fl : ∀ i, Fl i = true -> ∃ o : Oper, ops[i]? = some o
 gd : ∀ (i : Nat) (o : Oper), Fl i = true -> ops[i]? = some o -> o.guard = none /\ ∃ d : Nat, o.dst = some d /\ d < n
 kind : ∀ (i : Nat) (o : Oper), Fl i = true -> ops[i]? = some o -> (∃ x, o.op = .move x) ∨ (∃ t ix, o.op = .extract t ix) ∨ ∃ T x y b, o.op = .binOp .add T x y b /\ ∀ z, (z = x ∨ z = y) -> ∃ (d j : Nat) (oj : Oper) (τ : Nat), z = .tmp d /\ ops[j]? = some oj /\ Fl j = true /\ oj.op = .move (.tmp τ) /\ S τ /\ oj.dst = some d /\ ∃ e ∈ o.after, Region.binds .any e = true /\ e.on = j
 stab : ∀ (i : Nat) (o : Oper) (τ : Nat), ops[i]? = some o -> S τ -> o.dst ≠ some τ
 early : ∀ (i : Nat) (o : Oper), ops[i]? = some o -> ∀ e ∈ o.after, Region.binds .any e = true -> e.on < i
 sel : ∀ (i : Nat) (o : Oper), ops[i]? = some o -> ∀ cs b, o.op ≠ .select cs b
 self : ∀ (f : Nat) (o : Oper) (d : Nat), Fl f = true -> ops[f]? = some o -> o.dst = some d -> d ∉ o.looksAt ops
 apart : ∀ (f : Nat) (o : Oper) (d : Nat), Fl f = true -> ops[f]? = some o -> o.dst = some d -> ∀ (i : Nat) (oi : Oper), ops[i]? = some oi -> i ≠ f -> oi.dst ≠ some d /\ (d ∈ oi.looksAt ops -> Anc ops.toList i f)
 back : ∀ (f : Nat) (o : Oper), Fl f = true -> ops[f]? = some o -> ∀ (i : Nat) (oi : Oper) (d : Nat), ops[i]? = some oi -> i ≠ f -> oi.dst = some d -> d ∈ o.looksAt ops -> Anc ops.toList f i
structure Pend (P : Program) (ops : Array Oper) (Fl : Nat -> Bool) (S : Nat -> Prop) (n : Nat) (L Lp : Array Bool) (a ap : Act) : Prop where
 s1 : L.size = ops.size
 s2 : Lp.size = ops.size
 sub : ∀ i, Dof L i = true -> Dof Lp i = true
 pend : ∀ i, Dof Lp i = true -> Dof L i = false -> Fl i = true
 clo : ∀ (i : Nat) (o : Oper), ops[i]? = some o -> Dof L i = true -> ∀ e ∈ o.after, Region.binds .any e = true -> Dof L e.on = true
 cloP : ∀ (i : Nat) (o : Oper), ops[i]? = some o -> Dof Lp i = true -> ∀ e ∈ o.after, Region.binds .any e = true -> Dof Lp e.on = true
 val : ∀ (i : Nat) (o : Oper), ops[i]? = some o -> Dof Lp i = true -> Dof L i = false -> ∃ v, (∀ w, (execOp ap.eval o).run P w = .ok (.value v) w) /\ ap.put o.dst v = ap
 tm : ∀ τ, (∀ (i : Nat) (o : Oper), ops[i]? = some o -> Dof Lp i = true -> Dof L i = false -> o.dst ≠ some τ) -> ap.tmps[τ]? = a.tmps[τ]?
 sz : ap.tmps.size = a.tmps.size
 sn : n ≤ a.tmps.size
 df : ap.defers = a.defers
 st : ∀ τ, S τ -> ∃ k z, ap.eval (.tmp τ) = .int k z
 mv : ∀ (i : Nat) (o : Oper) (τ d : Nat), ops[i]? = some o -> Fl i = true -> Dof Lp i = true -> o.op = .move (.tmp τ) -> S τ -> o.dst = some d -> ∃ k z, ap.eval (.tmp d) = .int k z
section
variable {ops ops' : Array Oper} {Fl : Nat -> Bool} {X : Nat -> Nat -> Prop} {S : Nat -> Prop} {n : Nat}
theorem a7B {L : Array Bool} (hclo : ∀ (i : Nat) (o : Oper), ops[i]? = some o -> Dof L i = true -> ∀ e ∈ o.after, Region.binds .any e = true -> Dof L e.on = true) {i a : Nat} (k : Anc ops.toList i a) :
   (∀ o : Oper, ops[i]? = some o -> ∀ e ∈ o.after, Region.binds .any e = true -> Dof L e.on = true) -> Dof L a = true := by
 induction k with
 | edge ho he hb => intro h; exact h _ (by simpa using ho) _ he hb
 | trans h1 h2 ih1 ih2 => intro h; exact ih2 fun o ho => hclo _ o ho (ih1 h)
theorem a1u (a : Act) (d : Nat) (v : Value) (τ : Nat) : (a.put (some d) v).tmps[τ]? = if d = τ then (if d < a.tmps.size then some v else none) else a.tmps[τ]? := by
 simp only [Act.put, Array.getElem?_setIfInBounds]
theorem a2O (a : Act) (d : Option Nat) (v : Value) : (a.put d v).tmps.size = a.tmps.size := by
 cases d <;> simp [Act.put]
theorem a2e (a : Act) (d : Option Nat) (v : Value) : (a.put d v).defers = a.defers := by
 cases d <;> rfl
theorem b2i (a : Act) (d : Option Nat) (v : Value) : (a.put d v).put d v = a.put d v := by
 cases d with
 | none => rfl
 | some d => simp [Act.put, Array.setIfInBounds_setIfInBounds]
theorem a8A {a b : Act} {τ : Nat} (h : a.tmps[τ]? = b.tmps[τ]?) : a.eval (.tmp τ) = b.eval (.tmp τ) := by
 simp only [Act.eval, Array.getD_eq_getD_getElem?, h]
theorem a1c (a : Act) {d : Option Nat} (v : Value) {τ : Nat} (h : d ≠ some τ) : (a.put d v).eval (.tmp τ) = a.eval (.tmp τ) := by
 cases d with
 | none => rfl
 | some d => exact a8A (by rw [a1u, if_neg fun e => h (by rw [e])])
theorem a7J (a : Act) {d : Nat} (v : Value) (h : d < a.tmps.size) : (a.put (some d) v).eval (.tmp d) = v := by
 have := a1u a d v d;rw [if_pos rfl, if_pos h] at this;simp only [Act.eval, Array.getD_eq_getD_getElem?, this, Option.getD_some]
theorem b1I (F : Floats ops ops' Fl X S n) {a b : Act} {o : Oper} (hsel : ∀ cs b, o.op ≠ .select cs b) (h : ∀ τ ∈ o.looksAt ops, a.tmps[τ]? = b.tmps[τ]?) :
   execOp a.eval o = execOp b.eval o /\ Region.wanted o (yielded ops a.tmps) = Region.wanted o (yielded ops b.tmps) := by
 refine ⟨execOp_congr o hsel fun x hx => ?_, ?_⟩
 . cases x with
   | tmp τ => exact a8A (h τ (List.mem_append_left _ (List.mem_filterMap.2 ⟨.tmp τ, by simpa using hx, rfl⟩)))
   | _ => rfl
 . unfold Region.wanted;cases hg : o.guard with
   | none => rfl
   | some gw =>
     obtain ⟨g, want⟩ := gw;have : yielded ops a.tmps g = yielded ops b.tmps g := by
       unfold yielded;cases ht : (ops[g]?).bind (·.dst) with
       | none => rfl
       | some t => simp only [Option.bind_some]; rw [h t (by simp [Oper.looksAt, hg, ht])]
     simp only [this]
theorem a9k (F : Floats ops ops' Fl X S n) (t : Array Value) : yielded ops' t = yielded ops t := by
 funext g;unfold yielded;have : (ops'[g]?).bind (·.dst) = (ops[g]?).bind (·.dst) := by
   cases ho : ops[g]? with
   | none =>
     have : ops'[g]? = none := by
       rw [Array.getElem?_eq_none_iff] at ho ⊢;rw [F.size]; exact ho
     rw [this]
   | some o => obtain ⟨af, h, _⟩ := F.same g o ho; rw [h]; rfl
 rw [this]
theorem a0I {L : Array Bool} {i j : Nat} (hi : i < L.size) : Dof (L.setIfInBounds i true) j = true ↔ Dof L j = true ∨ j = i := by
 rw [a9A hi];simp only [a1h, Bool.or_eq_true];exact ⟨fun h => h.imp id fun h => Nat.eq_of_beq_eq_true h, fun h => h.imp id fun h => by rw [h]; exact Nat.beq_refl _⟩
theorem a3F {L : Array Bool} {i j : Nat} (hi : i < L.size) : Dof (L.setIfInBounds i true) j = false ↔ Dof L j = false /\ j ≠ i := by
 have := a0I (L := L) (i := i) (j := j) hi;cases h1 : Dof (L.setIfInBounds i true) j <;> cases h2 : Dof L j <;> simp_all
theorem Pend.ahead (F : Floats ops ops' Fl X S n) {L Lp : Array Bool} {a ap : Act} (p : Pend P ops Fl S n L Lp a ap) {f : Nat} {o : Oper} (hf : Fl f = true) (ho : ops[f]? = some o) (hL : Dof Lp f = false)
   (hed : ∀ e ∈ o.after, Region.binds .any e = true -> Dof Lp e.on = true) {v : Value} (w0 : World) (hv : ∀ w, (execOp ap.eval o).run P w = .ok (.value v) w) : Pend P ops Fl S n L (Lp.setIfInBounds f true) a (ap.put o.dst v) := by
 obtain ⟨hg, d, hd, hdn⟩ := F.gd f o hf ho;have hfs : f < Lp.size := by rw [p.s2]; exact (Array.getElem?_eq_some_iff.1 ho).1
 have hLf : Dof L f = false := by
   cases h : Dof L f with
   | false => rfl
   | true => rw [p.sub f h] at hL; cases hL
 have other : ∀ i oi, ops[i]? = some oi -> i ≠ f -> Dof Lp i = true -> d ∉ oi.looksAt ops := fun i oi hi hne hl hdl => by
   have := a7B (L := Lp) p.cloP ((F.apart f o d hf ho hd i oi hi hne).2 hdl) fun o' ho' => p.cloP i o' ho' hl;rw [hL] at this; cases this
 have odst : ∀ i oi, ops[i]? = some oi -> i ≠ f -> oi.dst ≠ some d := fun i oi hi hne => (F.apart f o d hf ho hd i oi hi hne).1;refine ⟨p.s1, by simp [p.s2], fun i h => (a0I hfs).2 (.inl (p.sub i h)), fun i h h2 => ?_, p.clo, fun i oi hi h e he hb => ?_, fun i oi hi h h2 => ?_, fun τ h => ?_, by rw [a2O, p.sz], p.sn, by rw [a2e, p.df], fun τ h => ?_, fun i oi τ d' hi hfl h ho' hs hd' => ?_⟩
 . rcases (a0I hfs).1 h with h | rfl
   . exact p.pend i h h2
   . exact hf
 . rcases (a0I hfs).1 h with h | rfl
   . exact (a0I hfs).2 (.inl (p.cloP i oi hi h e he hb))
   . rw [ho] at hi;obtain rfl := Option.some.inj hi;exact (a0I hfs).2 (.inl (hed e he hb))
 . by_cases hne : i = f
   . subst hne;rw [ho] at hi;obtain rfl := Option.some.inj hi;exact ⟨v, fun w => by rw [execOp_put (ops := ops) o (F.sel i o ho) ap o.dst v fun d' hd' => F.self i o d' hf ho hd']; exact hv w, b2i _ _ _⟩
   . rcases (a0I hfs).1 h with h | rfl
     . obtain ⟨u, h3, h4⟩ := p.val i oi hi h h2;refine ⟨u, fun w => ?_, ?_⟩
       . rw [execOp_put (ops := ops) oi (F.sel i oi hi) ap o.dst v fun d' hd' => ?_]
         . exact h3 w
         . rw [hd] at hd'; obtain rfl := Option.some.inj hd'; exact other i oi hi hne h
       . rw [Act.put_comm ap v u fun d' hd' => ?_, h4];rw [hd] at hd'; obtain rfl := Option.some.inj hd'; exact odst i oi hi hne
     . exact absurd rfl hne
 . have h1 : d ≠ τ := fun e => h f o ho ((a0I hfs).2 (.inr rfl)) hLf (by rw [hd, e]);rw [hd, a1u, if_neg h1];exact p.tm τ fun i oi hi hl hl2 => h i oi hi ((a0I hfs).2 (.inl hl)) hl2
 . rw [a1c _ _ (F.stab f o τ ho h)];exact p.st τ h
 . by_cases hne : i = f
   . subst hne;rw [ho] at hi;obtain rfl := Option.some.inj hi;rw [hd] at hd';obtain rfl := Option.some.inj hd';rw [hd, a7J _ _ (by rw [p.sz]; have := p.sn; omega)];obtain ⟨k, z, he⟩ := p.st τ hs;have hv := hv w0;simp only [execOp, ho', Sem.run_pure, Result.ok.injEq, Next.value.injEq] at hv;exact ⟨k, z, by rw [<- hv.1]; exact he⟩
   . rcases (a0I hfs).1 h with h | rfl
     . rw [a1c _ _ (by rw [hd]; intro e; exact odst i oi hi hne (by rw [hd', <- Option.some.inj e]))];exact p.mv i oi τ d' hi hfl h ho' hs hd'
     . exact absurd rfl hne
theorem Pend.kind (F : Floats ops ops' Fl X S n) {L Lp : Array Bool} {a ap : Act} (p : Pend P ops Fl S n L Lp a ap) {f : Nat} {o : Oper} (hf : Fl f = true) (ho : ops[f]? = some o)
   (hed : ∀ e ∈ o.after, Region.binds .any e = true -> Dof Lp e.on = true) : FloatK ap o := by
 rcases F.kind f o hf ho with ⟨x, h⟩ | ⟨t, ix, h⟩ | ⟨T, x, y, b, h, hz⟩
 . exact .mv x h
 . exact .ex t ix h
 . have arg : ∀ z, (z = x ∨ z = y) -> ∃ k u, ap.eval z = .int k u := fun z hz' => by
     obtain ⟨d, j, oj, τ, rfl, h1, h2, h3, h4, h5, e, h6, h7, h8⟩ := hz z hz';exact p.mv j oj τ d h1 h2 (by rw [<- h8]; exact hed e h6 h7) h3 h4 h5
   exact .add T x y b h (arg x (.inl rfl)) (arg y (.inr rfl))
theorem b3f {Q : Exit -> Act -> World -> Prop} (hQ : ∀ e a w, Q e a w -> e = .normal) : ¬ LetsOut Q := fun ⟨a, w, h⟩ => by have := hQ _ _ _ h; cases this
theorem b0V (F : Floats ops ops' Fl X S n) {Q : Exit -> Act -> World -> Prop} (hQ : ∀ e a w, Q e a w -> e = .normal) {K : Act -> World -> Prop} {w : World} {L Lp : Array Bool} {a ap : Act} (p : Pend P ops Fl S n L Lp a ap) {f : Nat} {o : Oper} (hf : Fl f = true) (ho : ops[f]? = some o) (hL : Dof Lp f = false)
   (hed : ∀ e ∈ o.after, Region.binds .any e = true -> Dof Lp e.on = true) (h : wpOp P ops' Q f K ap w) : ∃ v, Pend P ops Fl S n L (Lp.setIfInBounds f true) a (ap.put o.dst v) /\ K (ap.put o.dst v) w := by
 obtain ⟨af, h1, _⟩ := F.same f o ho;obtain ⟨hg, d, hd, hdn⟩ := F.gd f o hf ho;unfold wpOp at h;simp only [h1] at h;rw [if_pos (by unfold Region.wanted; simp [hg])] at h;rcases h with h | ⟨-, h⟩
 . unfold Oper.wp at h;have hk := p.kind F hf ho hed;have e0 : execOp ap.eval ⟨o.dst, o.op, o.type, o.pos, af, o.guard⟩ = execOp ap.eval o := rfl;rw [e0] at h;cases hr : (execOp ap.eval o).run P w with
   | ok nx w' =>
     obtain ⟨hw, v, rfl, hv⟩ := b1c hk hr;rw [hr, hw] at h;exact ⟨v, p.ahead F hf ho hL hed w hv, h⟩
   | halt x w' =>
     rw [hr] at h;cases x <;> first | exact absurd (hQ _ _ _ h) (by simp) | exact False.elim h
 . exact absurd h (b3f hQ)
theorem b3N (F : Floats ops ops' Fl X S n) {Q : Exit -> Act -> World -> Prop} (hQ : ∀ e a w, Q e a w -> e = .normal) {w : World} {L : Array Bool} {a : Act} : ∀ (j : Nat), j ≤ ops.size -> ∀ (fuel : Nat) (Lp : Array Bool) (ap : Act), Pend P ops Fl S n L Lp a ap -> wpAny P .any ops' Q fuel Lp ap w →
   ∃ fuel2 Lp2 ap2, Pend P ops Fl S n L Lp2 a ap2 /\ wpAny P .any ops' Q fuel2 Lp2 ap2 w /\ ∀ f o, f < j -> Fl f = true -> ops[f]? = some o -> (∀ e ∈ o.after, Region.binds .any e = true -> Dof Lp2 e.on = true) -> Dof Lp2 f = true := by
 intro j;induction j with
 | zero => intro _ fuel Lp ap p h; exact ⟨fuel, Lp, ap, p, h, fun f o hf => by omega⟩
 | succ j ih =>
   intro hj fuel Lp ap p h;obtain ⟨fuel2, Lp2, ap2, p2, h2, h3⟩ := ih (by omega) fuel Lp ap p h;have ho : ops[j]? = some ops[j] := by simp [show j < ops.size by omega]
   by_cases hc : Fl j = true /\ Dof Lp2 j = false /\ ∀ e ∈ ops[j].after, Region.binds .any e = true -> Dof Lp2 e.on = true
   . obtain ⟨c1, c2, c3⟩ := hc;have hjs : j < Lp2.size := by rw [p2.s2]; omega
     have hready : j ∈ Region.ready .any ops' Lp2 := by
       obtain ⟨af, q1, q2, q3⟩ := F.same j _ ho;refine ready_iff.2 ⟨_, q1, ?_, fun e he hb => ?_⟩
       . have : Lp2.getD j false = false := c2;simpa [Array.getD_eq_getD_getElem?, hjs] using this
       . rcases q3 e he hb with h | h
         . exact c3 e h hb
         . have key : ∀ f, X j f -> Dof Lp2 f = true := by
             intro f;induction f using Nat.strongRecOn with
             | ind f ihf =>
               intro hx;obtain ⟨x1, x2, x3⟩ := F.x j f hx;obtain ⟨of, hof⟩ := F.fl f x1;refine h3 f of x2 x1 hof fun e' he' hb' => ?_;rcases x3 of hof e' he' hb' with h' | h'
               . exact ihf _ (F.early f of hof e' he' hb') h'
               . exact a7B (L := Lp2) p2.cloP h' fun o' ho' => by rw [ho] at ho'; obtain rfl := Option.some.inj ho'; exact c3
           exact key _ h
     cases fuel2 with
     | zero => rw [h2.1] at hready; cases hready
     | succ n' =>
       obtain ⟨v, p3, h4⟩ := b0V F hQ p2 c1 ho c2 c3 (h2.2 j hready);refine ⟨n', _, _, p3, h4, fun f o hf hfl hof hed => ?_⟩;by_cases hfj : f = j
       . exact (a0I hjs).2 (.inr hfj)
       . refine (a0I hjs).2 (.inl (h3 f o (by omega) hfl hof fun e he hb => ?_));rcases (a0I hjs).1 (hed e he hb) with h | h
         . exact h
         . have := F.early f o hof e he hb;omega
   . refine ⟨fuel2, Lp2, ap2, p2, h2, fun f o hf hfl hof hed => ?_⟩;by_cases hfj : f = j
     . subst hfj;rw [ho] at hof;obtain rfl := Option.some.inj hof;cases hb : Dof Lp2 f with
       | true => rfl
       | false => exact absurd ⟨hfl, hb, hed⟩ hc
     . exact h3 f o (by omega) hfl hof hed
theorem Pend.both (F : Floats ops ops' Fl X S n) {L Lp : Array Bool} {a ap : Act} (p : Pend P ops Fl S n L Lp a ap) {i : Nat} {o : Oper} (ho : ops[i]? = some o) (hLp : Dof Lp i = false)
   (hed : ∀ e ∈ o.after, Region.binds .any e = true -> Dof L e.on = true) (hFl : Fl i = false) (v : Value) : Pend P ops Fl S n (L.setIfInBounds i true) (Lp.setIfInBounds i true) (a.put o.dst v) (ap.put o.dst v) := by
 have his : i < ops.size := (Array.getElem?_eq_some_iff.1 ho).1;have h1 : i < L.size := by rw [p.s1]; exact his
 have h2 : i < Lp.size := by rw [p.s2]; exact his
 have hL : Dof L i = false := by
   cases h : Dof L i with
   | false => rfl
   | true => rw [p.sub i h] at hLp; cases hLp
 have edP : ∀ e ∈ o.after, Region.binds .any e = true -> Dof Lp e.on = true := fun e he hb => p.sub _ (hed e he hb);have pen : ∀ f, Dof (Lp.setIfInBounds i true) f = true -> Dof (L.setIfInBounds i true) f = false -> f ≠ i /\ Dof Lp f = true /\ Dof L f = false := fun f h h' => by
   obtain ⟨h3, h4⟩ := (a3F h1).1 h';rcases (a0I h2).1 h with h | h
   . exact ⟨h4, h, h3⟩
   . exact absurd h h4
 have nolook : ∀ f of, ops[f]? = some of -> f ≠ i -> Fl f = true -> Dof Lp f = true -> ∀ d, o.dst = some d -> d ∉ of.looksAt ops := fun f of hof hne hfl hl d hd hdl => by
   have := a7B (L := Lp) p.cloP (F.back f of hfl hof i o d ho (Ne.symm hne) hd hdl) fun o' ho' => p.cloP f o' ho' hl;rw [hLp] at this; cases this
 have nodst : ∀ f of, ops[f]? = some of -> f ≠ i -> Fl f = true -> ∀ d, of.dst = some d -> o.dst ≠ some d := fun f of hof hne hfl d hd => (F.apart f of d hfl hof hd i o ho (Ne.symm hne)).1;refine ⟨by simp [p.s1], by simp [p.s2], fun j h => ?_, fun j h h' => ?_, fun j oj hj h e he hb => ?_, fun j oj hj h e he hb => ?_, fun j oj hj h h' => ?_, fun τ h => ?_, by rw [a2O, a2O, p.sz], by rw [a2O]; exact p.sn, by rw [a2e, a2e, p.df], fun τ h => ?_, fun j oj τ d hj hfl h ho' hs hd => ?_⟩
 . exact (a0I h2).2 (((a0I h1).1 h).imp (p.sub j) id)
 . obtain ⟨_, q1, q2⟩ := pen j h h'; exact p.pend j q1 q2
 . rcases (a0I h1).1 h with h | rfl
   . exact (a0I h1).2 (.inl (p.clo j oj hj h e he hb))
   . rw [ho] at hj; obtain rfl := Option.some.inj hj;exact (a0I h1).2 (.inl (hed e he hb))
 . rcases (a0I h2).1 h with h | rfl
   . exact (a0I h2).2 (.inl (p.cloP j oj hj h e he hb))
   . rw [ho] at hj; obtain rfl := Option.some.inj hj;exact (a0I h2).2 (.inl (edP e he hb))
 . obtain ⟨q0, q1, q2⟩ := pen j h h';have hfl := p.pend j q1 q2;obtain ⟨u, h3, h4⟩ := p.val j oj hj q1 q2;refine ⟨u, fun w => ?_, ?_⟩
   . rw [execOp_put (ops := ops) oj (F.sel j oj hj) ap o.dst v (nolook j oj hj q0 hfl q1)];exact h3 w
   . rw [Act.put_comm ap v u fun d hd hd' => nodst j oj hj q0 hfl d hd' hd, h4]
 . have key : ∀ j oj, ops[j]? = some oj -> Dof Lp j = true -> Dof L j = false -> oj.dst ≠ some τ := fun j oj hj q1 q2 => by
     have hne : j ≠ i := fun e => by rw [e, hLp] at q1; cases q1
     exact h j oj hj ((a0I h2).2 (.inl q1)) ((a3F h1).2 ⟨q2, hne⟩)
   have := p.tm τ key;cases hd : o.dst with
   | none => exact this
   | some d => rw [a1u, a1u, p.sz, this]
 . rw [a1c _ _ (F.stab i o τ ho h)];exact p.st τ h
 . rcases (a0I h2).1 h with h | rfl
   . have hne : j ≠ i := fun e => by rw [e, hLp] at h; cases h
     rw [a1c _ _ (nodst j oj hj hne hfl d hd)];exact p.mv j oj τ d hj hfl h ho' hs hd
   . rw [hFl] at hfl; cases hfl
theorem Pend.defers {L Lp : Array Bool} {a ap : Act} (p : Pend P ops Fl S n L Lp a ap) (x : Deferred) : Pend P ops Fl S n L Lp { a with defers := x :: a.defers } { ap with defers := x :: ap.defers } := by
 have e : ∀ (b : Act), ({ b with defers := x :: b.defers } : Act).eval = b.eval := fun b => by funext y; cases y <;> rfl
 refine ⟨p.s1, p.s2, p.sub, p.pend, p.clo, p.cloP, fun i o hi h h' => ?_, p.tm, p.sz, p.sn, by simp only [p.df], fun τ h => by rw [e]; exact p.st τ h, fun i o τ d hi hfl h ho hs hd => by rw [e]; exact p.mv i o τ d hi hfl h ho hs hd⟩;obtain ⟨v, h1, h2⟩ := p.val i o hi h h';refine ⟨v, fun w => by rw [e]; exact h1 w, ?_⟩;have h3 : (ap.put o.dst v).tmps = ap.tmps := by rw [h2]
 cases hd : o.dst with
 | none => rfl
 | some d => rw [hd] at h3; simp only [Act.put] at h3 ⊢; rw [h3]
theorem b1L {o : Oper} {a ap : Act} {K K' : Act -> World -> Prop} {Q : Exit -> Act -> World -> Prop} (hQ : ∀ e a w, Q e a w -> e = .normal) (h : ∀ v w, K' (ap.put o.dst v) w -> K (a.put o.dst v) w)
   (hd : ∀ x w, K' ({ ap with defers := x :: ap.defers }.put o.dst undef) w -> K ({ a with defers := x :: a.defers }.put o.dst undef) w) {r : Result Next} (hh : o.upon P ap K' Q r) : o.upon P a K Q r := by
 cases r with
 | ok n w' =>
   cases n <;> simp only [Oper.upon] at hh ⊢ <;>
     first
       | exact h _ _ hh
       | exact hd _ _ hh
       | exact Calls.mono hh (fun e w'' he => by cases e <;> first | exact h _ _ he | exact absurd (hQ _ _ _ he) (by simp) | exact he)
       | exact Rows.mono hh (fun _ _ he => h _ _ he)
 | halt x w' => cases x <;> simp only [Oper.upon] at hh ⊢ <;> first | exact absurd (hQ _ _ _ hh) (by simp) | exact hh
theorem b0X (F : Floats ops ops' Fl X S n) {L : Array Bool} (hl : L.size = ops.size) (h : Region.ready .any ops L = []) : ∀ i, i < ops.size -> Dof L i = true := by
 intro i;induction i using Nat.strongRecOn with
 | ind i ih =>
   intro hi;have ho : ops[i]? = some ops[i] := by simp [hi]
   cases hb : Dof L i with
   | true => rfl
   | false =>
     have : i ∈ Region.ready .any ops L := by
       refine ready_iff.2 ⟨_, ho, ?_, fun e he hb => ?_⟩
       . have hb : L.getD i false = false := hb;simpa [Array.getD_eq_getD_getElem?, show i < L.size by omega] using hb
       . have := F.early i _ ho e he hb;exact ih e.on this (by omega)
     rw [h] at this; cases this
theorem a6e {ops : Array Oper} {L : Array Bool} (hl : L.size = ops.size) (h : ∀ i, i < ops.size -> Dof L i = true) : Region.ready .any ops L = [] := by
 rw [List.eq_nil_iff_forall_not_mem];intro i hi;obtain ⟨o, ho, h1, _⟩ := ready_iff.1 hi;have hi' := (Array.getElem?_eq_some_iff.1 ho).1;have := h i hi';have this : L.getD i false = true := this;simp [Array.getD_eq_getD_getElem?, show i < L.size by omega] at this h1;rw [this] at h1; cases h1
theorem Pend.done (F : Floats ops ops' Fl X S n) {Q : Exit -> Act -> World -> Prop} {w : World} {L Lp : Array Bool} {a ap : Act} (p : Pend P ops Fl S n L Lp a ap) (h : ∀ i, i < ops.size -> Dof L i = true) {fuel : Nat} (hw : wpAny P .any ops' Q fuel Lp ap w) : Q .normal a w := by
 have hr : Region.ready .any ops' Lp = [] := a6e (by rw [p.s2, F.size]) fun i hi => p.sub i (h i (by rw [<- F.size]; exact hi));have hq : Q .normal ap w := by
   cases fuel with
   | zero => exact hw.2
   | succ n => exact hw.1 hr
 have e1 : ap.tmps = a.tmps := Array.ext_getElem? fun τ => p.tm τ fun i o hi _ h2 => by
   rw [h i (Array.getElem?_eq_some_iff.1 hi).1] at h2; cases h2
 have e2 : ap = a := by
   cases ap; cases a;have := p.df;simp_all
 rw [<- e2]; exact hq
theorem b1g {m i : Nat} {L : Array Bool} (hi : i < m) (hs : i < L.size) (h : Dof L i = false) : left m (L.setIfInBounds i true) + 1 ≤ left m L := by
 have : left m (L.setIfInBounds i true) < left m L := by
   unfold left;refine a8x (fun x _ hq => ?_) ⟨i, by simpa using hi, ?_, ?_⟩
   . simp only [Bool.not_eq_true'] at hq ⊢;exact ((a3F hs).1 hq).1
   . have h3 : L.getD i false = false := h;rw [h3]; rfl
   . have h3 : (L.setIfInBounds i true).getD i false = true := (a0I hs).2 (.inr rfl);rw [h3]; rfl
 omega
theorem a9w (F : Floats ops ops' Fl X S n) {Q : Exit -> Act -> World -> Prop} (hQ : ∀ e a w, Q e a w -> e = .normal) : ∀ (fuel : Nat) (L Lp : Array Bool) (a ap : Act) (w : World) (fuel' : Nat), Pend P ops Fl S n L Lp a ap -> left ops.size L ≤ fuel →
   wpAny P .any ops' Q fuel' Lp ap w -> wpAny P .any ops Q fuel L a w := by
 intro fuel;induction fuel with
 | zero =>
   intro L Lp a ap w fuel' p hf h;have hall : ∀ i, i < ops.size -> Dof L i = true := fun i hi => by
     have h0 : left ops.size L = 0 := by omega
     unfold left at h0;rw [List.countP_eq_zero] at h0;have := h0 i (by simpa using hi);simpa [Dof] using this
   exact ⟨a6e p.s1 hall, p.done F hall h⟩
 | succ fuel ih =>
   intro L Lp a ap w fuel' p hf h;refine ⟨fun hr => p.done F (b0X F p.s1 hr) h, fun i hi => ?_⟩;obtain ⟨o, ho, h1, hed⟩ := ready_iff.1 hi;have his : i < ops.size := (Array.getElem?_eq_some_iff.1 ho).1;have hiL : i < L.size := by rw [p.s1]; exact his
   have hL : Dof L i = false := by
     show L.getD i false = false;simpa [Array.getD_eq_getD_getElem?, hiL] using h1
   have hed : ∀ e ∈ o.after, Region.binds .any e = true -> Dof L e.on = true := hed;have hanc : ∀ b, Anc ops.toList i b -> Dof L b = true := fun b k => a7B p.clo k fun o' ho' => by
     rw [ho] at ho'; obtain rfl := Option.some.inj ho'; exact hed
   obtain ⟨n2, Lp2, ap2, p2, h2, hsat⟩ := b3N F hQ ops.size (Nat.le_refl _) fuel' Lp ap p h;have hleft := b1g (m := ops.size) his hiL hL;have hlook : (∀ f of, Fl f = true -> ops[f]? = some of -> f ≠ i -> Dof Lp2 f = true -> Dof L f = false -> ∀ d, of.dst = some d -> d ∉ o.looksAt ops) := fun f of hfl hof hne _ hlf d hd hdl => by
     rw [hanc f ((F.apart f of d hfl hof hd i o ho (Ne.symm hne)).2 hdl)] at hlf; cases hlf
   have hself : Fl i = true -> ∀ d, o.dst = some d -> d ∉ o.looksAt ops := fun hfl d hd => F.self i o d hfl ho hd;have htm : ∀ τ ∈ o.looksAt ops, a.tmps[τ]? = ap2.tmps[τ]? := fun τ hτ => (p2.tm τ fun f of hof q1 q2 hd => by
     have hfl := p2.pend f q1 q2;by_cases hne : f = i
     . subst hne;rw [ho] at hof; obtain rfl := Option.some.inj hof;exact hself hfl τ hd hτ
     . exact hlook f of hfl hof hne q1 q2 τ hd hτ).symm
   obtain ⟨ex, wn⟩ := b1I F (F.sel i o ho) htm;by_cases hLp : Dof Lp2 i = true
   ·
     have hfl := p2.pend i hLp hL;obtain ⟨hg, d, hd, hdn⟩ := F.gd i o hfl ho;obtain ⟨v, hv, hput⟩ := p2.val i o ho hLp hL;have hsz : d < ap2.tmps.size := by rw [p2.sz]; have := p2.sn; omega
     have pn : Pend P ops Fl S n (L.setIfInBounds i true) Lp2 (a.put o.dst v) ap2 := by
       refine ⟨by simp [p2.s1], p2.s2, fun j hj => ?_, fun j hj hj' => p2.pend j hj ((a3F hiL).1 hj').1, fun j oj hj hj' e he hb => ?_, p2.cloP, fun j oj hj q1 q2 => p2.val j oj hj q1 ((a3F hiL).1 q2).1, fun τ hτ => ?_, by rw [a2O, p2.sz], by rw [a2O]; exact p2.sn, by rw [a2e, p2.df], p2.st, p2.mv⟩
       . rcases (a0I hiL).1 hj with hj | rfl
         . exact p2.sub j hj
         . exact hLp
       . rcases (a0I hiL).1 hj' with hj' | rfl
         . exact (a0I hiL).2 (.inl (p2.clo j oj hj hj' e he hb))
         . rw [ho] at hj; obtain rfl := Option.some.inj hj;exact (a0I hiL).2 (.inl (hed e he hb))
       . rw [hd, a1u];by_cases hdt : d = τ
         . subst hdt;have e1 : ap2.tmps[d]? = (ap2.put o.dst v).tmps[d]? := by rw [hput]
           rw [e1, hd, a1u, if_pos rfl, if_pos rfl, p2.sz]
         . rw [if_neg hdt];refine p2.tm τ fun j oj hj q1 q2 => ?_;by_cases hne : j = i
           . subst hne;rw [ho] at hj; obtain rfl := Option.some.inj hj;rw [hd]; intro e; exact hdt (Option.some.inj e)
           . exact hτ j oj hj q1 ((a3F hiL).2 ⟨q2, hne⟩)
     unfold wpOp;simp only [ho];rw [if_pos (by unfold Region.wanted; simp [hg])];refine .inl ?_;unfold Oper.wp;rw [ex, hv w];exact ih _ _ _ _ w n2 pn (by omega) h2
   ·
     have hLp : Dof Lp2 i = false := by simpa using hLp
     have hFl : Fl i = false := by
       cases hb : Fl i with
       | false => rfl
       | true =>
         have := hsat i o his hb ho fun e he hb' => p2.sub _ (hed e he hb');rw [this] at hLp; cases hLp
     have hX : ∀ f, X i f -> Dof Lp2 f = true := by
       intro f;induction f using Nat.strongRecOn with
       | ind f ihf =>
         intro hx;obtain ⟨x2, x3, x4⟩ := F.x i f hx;obtain ⟨of, hof⟩ := F.fl f x2;refine hsat f of (Array.getElem?_eq_some_iff.1 hof).1 x2 hof fun e he hb => ?_;rcases x4 of hof e he hb with h | h
         . exact ihf e.on (F.early f of hof e he hb) h
         . exact p2.sub _ (hanc _ h)
     obtain ⟨af, q1, q2, q3⟩ := F.same i o ho;have hi2 : i < Lp2.size := by rw [p2.s2]; exact his
     have hready : i ∈ Region.ready .any ops' Lp2 := by
       refine ready_iff.2 ⟨_, q1, ?_, fun e he hb => ?_⟩
       . have : Lp2.getD i false = false := hLp;simpa [Array.getD_eq_getD_getElem?, hi2] using this
       . rcases q3 e he hb with h | h
         . exact p2.sub _ (hed e h hb)
         . exact hX _ h
     cases n2 with
     | zero => rw [h2.1] at hready; cases hready
     | succ n' =>
       have h4 := h2.2 i hready;have next : ∀ v w', wpAny P .any ops' Q n' (Lp2.setIfInBounds i true) (ap2.put o.dst v) w' -> wpAny P .any ops Q fuel (L.setIfInBounds i true) (a.put o.dst v) w' := fun v w' hw => ih _ _ _ _ w' n' (p2.both F ho hLp hed hFl v) (by omega) hw;have nextD : ∀ x w', wpAny P .any ops' Q n' (Lp2.setIfInBounds i true) ({ ap2 with defers := x :: ap2.defers }.put o.dst undef) w' -> wpAny P .any ops Q fuel (L.setIfInBounds i true) ({ a with defers := x :: a.defers }.put o.dst undef) w' := fun x w' hw => ih _ _ _ _ w' n' ((p2.defers x).both F ho hLp hed hFl undef) (by omega) hw;unfold wpOp at h4 ⊢;simp only [q1, ho] at h4 ⊢;have ew : Region.wanted (⟨o.dst, o.op, o.type, o.pos, af, o.guard⟩ : Oper) (yielded ops' ap2.tmps) = Region.wanted o (yielded ops a.tmps) := by
         rw [wn, a9k F]; rfl
       rw [ew] at h4;by_cases hw : Region.wanted o (yielded ops a.tmps) = true
       . rw [if_pos hw] at h4 ⊢;rcases h4 with h4 | ⟨_, h4⟩
         . refine .inl ?_;unfold Oper.wp at h4 ⊢;have e0 : execOp ap2.eval (⟨o.dst, o.op, o.type, o.pos, af, o.guard⟩ : Oper) = execOp ap2.eval o := rfl;rw [e0, <- ex] at h4;exact b1L (o := o) hQ next nextD h4
         . exact absurd h4 (b3f hQ)
       . rw [if_neg hw] at h4 ⊢;exact next _ _ h4
end
end Go.Vm
end
section
namespace Go.Vm
variable {P : Program}
theorem looks_iff {ops : Array Oper} {o : Oper} {τ : Nat} : τ ∈ o.looksAt ops ↔ τ ∈ a0u ops.toList o := by
 unfold Oper.looksAt a0u;simp only [List.mem_append];refine or_congr Iff.rfl ?_;cases o.guard with
 | none => exact Iff.rfl
 | some gw =>
   obtain ⟨g, want⟩ := gw;have : nth (ops.toList.map some) g none = ops[g]? := by
     rw [a0i, List.getElem?_map];cases h : ops.toList[g]? with
     | none => rw [Array.getElem?_toList] at h; rw [h]; rfl
     | some x => rw [Array.getElem?_toList] at h; rw [h]; rfl
   simp only [this]
theorem a5s {all : List Oper} : ∀ (l : List TV) (i τ : Nat), τ ∈ a1K all i l -> (∃ t, l[τ - i]? = some t /\ i ≤ τ /\ (a1i t).isSome = true) /\ ∀ o ∈ all, o.dst ≠ some τ := by
 intro l;induction l with
 | nil => intro i τ h; cases h
 | cons t l ih =>
   intro i τ h;have rec_ : τ ∈ a1K all (i + 1) l -> (∃ t', (t :: l)[τ - i]? = some t' /\ i ≤ τ /\ (a1i t').isSome = true) /\ ∀ o ∈ all, o.dst ≠ some τ := fun h => by
     obtain ⟨⟨t', h1, h2, h3⟩, h4⟩ := ih _ _ h;refine ⟨⟨t', ?_, by omega, h3⟩, h4⟩;rw [show τ - i = (τ - (i + 1)) + 1 by omega, List.getElem?_cons_succ]; exact h1
   simp only [a1K] at h;split at h
   . rename_i hc;simp only [Bool.and_eq_true] at hc;simp only [List.mem_cons] at h;rcases h with rfl | h
     . refine ⟨⟨t, by simp, Nat.le_refl _, hc.1⟩, fun o ho hd => ?_⟩;have := a0Y hc.2 o ho;rw [hd] at this;simp [a7d, Nat.beq_refl] at this
     . exact rec_ h
   . exact rec_ h
theorem b0g {S : List Nat} {os : List (Nat × Oper)} {A : List Nat} {i : Nat} : ∀ (l : List (Nat × Oper)) (G : List Nat), (∀ f ∈ G, f ∈ a3i S os A i l G) /\ ∀ f ∈ a3i S os A i l G, f ∈ G ∨ ∃ o, (f, o) ∈ l /\ f < i /\ a4G S os o = true /\ ∀ e ∈ o.after, Region.binds .any e = true -> e.on ∈ a3i S os A i l G ∨ e.on ∈ A := by
 intro l;induction l with
 | nil => intro G; exact ⟨fun f h => h, fun f h => .inl h⟩
 | cons p l ih =>
   intro G;simp only [a3i];split
   . rename_i hc;simp only [Bool.and_eq_true] at hc;obtain ⟨h1, h2⟩ := ih (p.1 :: G);refine ⟨fun f h => h1 f (by simp [h]), fun f h => ?_⟩;rcases h2 f h with h | ⟨o, h3, h4⟩
     . simp only [List.mem_cons] at h;rcases h with rfl | h
       . refine .inr ⟨p.2, by simp, Nat.le_of_ble_eq_true hc.1, hc.2.1, fun e he hb => ?_⟩;have := a0Y hc.2.2 e (by simpa using he);rw [hb] at this;simp only [Bool.or_eq_true] at this;rcases this with h | h
         . exact .inl (h1 _ (by simp [a0s h]))
         . exact .inr (a0s h)
       . exact .inl h
     . exact .inr ⟨o, by simp [h3], h4⟩
   . obtain ⟨h1, h2⟩ := ih G;refine ⟨h1, fun f h => ?_⟩;rcases h2 f h with h | ⟨o, h3, h4⟩
     . exact .inl h
     . exact .inr ⟨o, by simp [h3], h4⟩
theorem b3y {α : Type} : ∀ (l : List α) (n i : Nat), (numb n l)[i]? = l[i]?.map fun x => (n + i, x) := by
 intro l;induction l with
 | nil => intro n i; simp [numb]
 | cons x l ih =>
   intro n i;cases i with
   | zero => simp [numb]
   | succ i => simp only [numb, List.getElem?_cons_succ, ih]; congr 1; funext y; congr 1; omega
theorem b3x {α : Type} : ∀ (l : List α) (n : Nat), (numb n l).length = l.length := by
 intro l;induction l with
 | nil => intro n; rfl
 | cons x l ih => intro n; simp [numb, ih]
def FlOf (S : List Nat) (all : List Oper) (i : Nat) : Bool := match nth (all.map some) i none with
 | some o => a4G S (numb 0 all) o
 | none => false
theorem a7k {S : List Nat} {ops : Array Oper} {i : Nat} {o : Oper} (h : ops[i]? = some o) : FlOf S ops.toList i = a4G S (numb 0 ops.toList) o := by
 unfold FlOf;have : nth (ops.toList.map some) i none = some o := by rw [a0i, List.getElem?_map, Array.getElem?_toList, h]; rfl
 rw [this]
theorem b1N {S : List Nat} {ops : Array Oper} {i : Nat} (h : FlOf S ops.toList i = true) : ∃ o, ops[i]? = some o := by
 unfold FlOf at h;split at h
 . rename_i o ho;exact ⟨o, by have := b0G ho; rwa [Array.getElem?_toList] at this⟩
 . cases h
def XOf (S : List Nat) (all : List Oper) (t i f : Nat) : Prop := ∃ o, all[i]? = some o /\ f ∈ b0v S all t i o
theorem a7M {t : Nat} {ops : Array Oper} {ts : List TV} {all' : List Oper} (h : a3J t ops.toList ts = some all') :
   Floats ops all'.toArray (FlOf (a1K ops.toList 0 ts) ops.toList) (XOf (a1K ops.toList 0 ts) ops.toList t) (fun τ => τ ∈ a1K ops.toList 0 ts) ts.length /\ all'.map (·.dst) = ops.toList.map (·.dst) := by
 unfold a3J at h;split at h
 . rename_i hok;obtain rfl := Option.some.inj h;generalize hS : a1K ops.toList 0 ts = S at *;have hanc : ∀ i a, a ∈ nth (ancT ops.toList []) i [] -> Anc ops.toList i a := a7A ops.toList ops.toList [] ⟨[], rfl, rfl⟩ (fun i a ha => by simp [nth] at ha);have base : ∀ i o, ops[i]? = some o -> _ := fun i o ho => a0Y hok (i, o) (by have := a2E ops.toList 0 i o (by rw [Array.getElem?_toList]; exact ho); rwa [Nat.zero_add] at this);simp only [Bool.and_eq_true, Bool.not_eq_true'] at base;have flt : ∀ i o, FlOf S ops.toList i = true -> ops[i]? = some o -> a4G S (numb 0 ops.toList) o = true := fun i o h ho => by rw [<- a7k ho]; exact h
   have nb : ∀ {a b : Nat}, Nat.beq a b = true ↔ a = b := fun {a b} => ⟨Nat.eq_of_beq_eq_true, fun h => by rw [h]; exact Nat.beq_refl _⟩;have hO : ∀ (l : List Nat) (d : Nat), hasO l (some d) = false -> d ∉ l := fun l d h hm => by
     have h : hasN l d = false := h;rw [hasN_iff.2 hm] at h; cases h
   have pair : ∀ f o, FlOf S ops.toList f = true -> ops[f]? = some o -> ∀ i oi, ops[i]? = some oi -> i ≠ f -> a7d oi.dst o.dst = false /\ (hasO (a0u ops.toList oi) o.dst = false ∨ hasN (nth (ancT ops.toList []) i []) f = true) /\ (hasO (a0u ops.toList o) oi.dst = false ∨ hasN (nth (ancT ops.toList []) f []) i = true) := by
     intro f o hf ho i oi hi hne;have h1 := (base f o ho).2.2;rw [flt f o hf ho] at h1;simp only [Bool.and_eq_true] at h1;have h2 := a0Y h1.2 (i, oi) (by have := a2E ops.toList 0 i oi (by rw [Array.getElem?_toList]; exact hi); rwa [Nat.zero_add] at this);have hb : Nat.beq i f = false := by
       cases hb : Nat.beq i f with
       | false => rfl
       | true => exact absurd (nb.1 hb) hne
     simp only [hb, Bool.and_eq_true, Bool.or_eq_true, Bool.not_eq_true'] at h2;exact h2
   refine ⟨⟨?_, fun i o ho => ?_, fun i f hx => ?_, fun i h => b1N h, fun i o hf ho => ?_, fun i o hf ho => ?_, fun i o τ ho hs => ?_, fun i o ho e he hb => ?_, fun i o ho cs b => ?_, fun f o d hf ho hd hl => ?_, fun f o d hf ho hd i oi hi hne => ⟨fun hd' => ?_, fun hl => ?_⟩, fun f o hf ho i oi d hi hne hd hl => ?_⟩, ?_⟩
   . simp [b3x]
   . have h1 : ((numb 0 ops.toList).map (a4K S ops.toList t)).toArray[i]? = some (a4K S ops.toList t (i, o)) := by
       rw [List.getElem?_toArray, List.getElem?_map, b3y, Array.getElem?_toList, ho];simp
     refine ⟨_, h1, fun e he => by simp [he], fun e he hb => ?_⟩;simp only [Array.mem_append, List.mem_toArray, List.mem_map] at he;rcases he with he | ⟨f, hf, rfl⟩
     . exact .inl he
     . exact .inr ⟨o, by rw [Array.getElem?_toList]; exact ho, hf⟩
   . obtain ⟨o, ho, hf⟩ := hx;rw [Array.getElem?_toList] at ho;unfold b0v at hf;split at hf
     . cases hf
     . rename_i hc;obtain ⟨h1, h2⟩ := b0g (S := S) (os := numb 0 ops.toList) (A := nth (ancT ops.toList []) i []) (i := i) (numb 0 ops.toList) [];rcases h2 f hf with h | ⟨of, h3, h4, h5, h6⟩
       . cases h
       . obtain ⟨j, hj, hof⟩ := a9W _ _ _ h3;have hj : f = j := by simpa using hj
         subst hj;have hof : ops[f]? = some of := by rw [Array.getElem?_toList] at hof; exact hof
         refine ⟨by rw [a7k hof]; exact h5, h4, fun o' ho' e he hb => ?_⟩;rw [hof] at ho';obtain rfl := Option.some.inj ho';rcases h6 e he hb with h | h
         . refine .inl ⟨o, by rw [Array.getElem?_toList]; exact ho, ?_⟩;unfold b0v;rw [hc];exact h
         . exact .inr (hanc i e.on h)
   . have h1 := (base i o ho).2.2;have h2 := flt i o hf ho;rw [h2] at h1;simp only [Bool.and_eq_true] at h1;unfold a4G at h2;have hg : o.guard = none := by
       split at h2 <;> first | assumption | cases h2
     refine ⟨hg, ?_⟩;have h3 := h1.1;cases hd : o.dst with
     | none => rw [hd] at h3; cases h3
     | some d => rw [hd] at h3; exact ⟨d, rfl, Nat.le_of_ble_eq_true h3⟩
   . have h2 := flt i o hf ho;unfold a4G at h2;split at h2
     . exact .inl ⟨_, by assumption⟩
     . exact .inr (.inl ⟨_, _, by assumption⟩)
     . rename_i T x y b _ _ hop;simp only [Bool.and_eq_true] at h2;refine .inr (.inr ⟨T, x, y, b, hop, fun z hz => ?_⟩);have harg : b0w S (numb 0 ops.toList) o z = true := by rcases hz with rfl | rfl <;> simp [h2]
       unfold b0w at harg;split at harg
       . rename_i d;obtain ⟨q, hq, hq2⟩ := a7x harg;simp only [Bool.and_eq_true] at hq2;obtain ⟨h3, h4, h5⟩ := hq2;obtain ⟨j, hj, hoj⟩ := a9W _ _ _ hq;have hj : q.1 = j := by simpa using hj
         subst hj;have hoj : ops[q.1]? = some q.2 := by rw [Array.getElem?_toList] at hoj; exact hoj
         obtain ⟨e, he, he2⟩ := a7x h5;simp only [Bool.and_eq_true] at he2;have hdst : q.2.dst = some d := by
           cases hd : q.2.dst with
           | none => rw [hd] at h3; cases h3
           | some d' => rw [hd] at h3; rw [nb.1 h3]
         cases hm : b1r q.2 with
         | none => rw [hm] at h4; cases h4
         | some τ =>
           rw [hm] at h4;unfold b1r at hm;split at hm
           . rename_i τ' hg' hop';obtain rfl := Option.some.inj hm;refine ⟨d, q.1, q.2, τ', rfl, hoj, ?_, hop', a0s h4, hdst, e, by simpa using he, he2.1, nb.1 he2.2⟩;rw [a7k hoj];unfold a4G;rw [hg', hdst, hop']
           . cases hm
       . cases harg
     . cases h2
   . have hs : τ ∈ a1K ops.toList 0 ts := by rw [hS]; exact hs
     exact (a5s ts 0 τ hs).2 o (by have := Array.mem_of_getElem? ho; simpa using this)
   . have h1 := a0Y (base i o ho).2.1 e (by simpa using he);rw [hb] at h1;exact Nat.le_of_ble_eq_true h1
   . intro hop;have h1 := (base i o ho).1;unfold b0k at h1;rw [hop] at h1; cases h1
   . have h1 := (base f o ho).2.2;rw [flt f o hf ho] at h1;simp only [Bool.and_eq_true] at h1;have h2 := a0Y h1.2 (f, o) (by have := a2E ops.toList 0 f o (by rw [Array.getElem?_toList]; exact ho); rwa [Nat.zero_add] at this);simp only [Nat.beq_refl, hd, Bool.not_eq_true'] at h2;exact hO _ _ h2 (looks_iff.1 hl)
   . have h1 := (pair f o hf ho i oi hi hne).1;rw [hd, hd'] at h1;simp [a7d, Nat.beq_refl] at h1
   . rcases (pair f o hf ho i oi hi hne).2.1 with h | h
     . rw [hd] at h; exact absurd (looks_iff.1 hl) (hO _ _ h)
     . exact hanc i f (a0s h)
   . rcases (pair f o hf ho i oi hi hne).2.2 with h | h
     . rw [hd] at h; exact absurd (looks_iff.1 hl) (hO _ _ h)
     . exact hanc f i (a0s h)
   . rw [List.map_map];have : ∀ (l : List Oper) (n : Nat), (numb n l).map ((·.dst) ∘ a4K S ops.toList t) = l.map (·.dst) := by
       intro l;induction l with
       | nil => intro n; rfl
       | cons x l ih => intro n; simp only [numb, List.map_cons, ih]; rfl
     exact this _ _
 . cases h
end Go.Vm
end
section
namespace Go.Vm
variable {P : Program} {R : Type}
theorem b3I {E : Env} {σ : St} {a : Act} {w w' : World} {G : Nat -> RG} (h : Rel P E σ a w G) (hh : w'.heap = w.heap) (hb : Bel w w') : Rel P E σ a w' G := by
 have hs : ∀ L, a0W w w' L := fun L b _ => by rw [hh]
 refine ⟨h.defers, ?_, ⟨fun q x hx => a1R (h.r.roots q x hx) (hs _), fun q b hb => by rw [hh]; exact h.r.lt q b hb, h.r.nodup, h.r.fin, h.r.disj, h.r.shr, h.r.own, fun b h1 h2 => by rw [hh]; exact h.r.frame b h1 h2, h.r.base.trans hb⟩⟩;refine a1x h.temps rfl fun i t' ht' => .inr ⟨t', ht', fun v S A hS hf => ⟨?_, hf⟩⟩;exact a0f h.r.roots (fun q _ _ => hs _) (by rw [hh]; exact Nat.le_refl _) t' v S A hS (hs _)
theorem rel_del {E : Env} {σ : St} {a : Act} {w : World} {G : Nat -> RG} (h : Rel P E σ a w G) (r : Nat) : Rel P E (σ.del r) a w G := by
 refine ⟨h.defers, ?_, a5C h.r fun q x hx => ?_⟩
 . refine a1x h.temps (a0m _ _) fun i t' ht' => ?_;rcases a1m ht' with rfl | ⟨ht, hu⟩
   . exact .inl rfl
   refine .inr ⟨t', ht, fun v S A hS hf => ⟨?_, hf⟩⟩;exact a1z r (fun q hq => by rw [St.del, a0C, if_neg hq]) (fun q hq _ => rfl) t' v S A hu hS
 . have hx : rget (rdel σ.rs r) q = some x := hx;rw [a0C] at hx;split at hx
   . cases hx
   . exact hx
theorem a3G {E : Env} {σ : St} {a : Act} {w : World} {G : Nat -> RG} (h : Rel P E σ a w G) (r : Nat) : Rel P E (a1t r σ) a w G := by
 unfold a1t;split
 . exact rel_del h r
 . exact h
theorem b0c (r : Nat) (σ : St) : (a1t r σ).ts.length = σ.ts.length := by
 unfold a1t;split
 . exact a0m _ _
 . rfl
theorem a0V (r q : Nat) (σ : St) : (rget (a1t r σ).rs r = none) /\ (rget σ.rs q = none -> rget (a1t r σ).rs q = none) := by
 unfold a1t;split
 . refine ⟨by simp [St.del, a0C], fun h => ?_⟩;simp only [St.del, a0C];split
   . rfl
   . exact h
 . rename_i h; exact ⟨h, id⟩
def a5N (d : Nat) (σ : St) : St := a1t (4 * d) (a1t (4 * d + 1) (a1t (4 * d + 2) (a1t (4 * d + 3) σ)))
theorem a6S (d q : Nat) (σ : St) : (∀ j, j < 4 -> rget (a5N d σ).rs (4 * d + j) = none) /\ (rget σ.rs q = none -> rget (a5N d σ).rs q = none) := by
 unfold a5N;refine ⟨fun j hj => ?_, fun h => (a0V _ q _).2 ((a0V _ q _).2 ((a0V _ q _).2 ((a0V _ q _).2 h)))⟩;have : j = 0 ∨ j = 1 ∨ j = 2 ∨ j = 3 := by omega
 rcases this with rfl | rfl | rfl | rfl
 . exact (a0V _ 0 _).1
 . exact (a0V _ _ _).2 (a0V _ 0 _).1
 . exact (a0V _ _ _).2 ((a0V _ _ _).2 (a0V _ 0 _).1)
 . exact (a0V _ _ _).2 ((a0V _ _ _).2 ((a0V _ _ _).2 (a0V _ 0 _).1))
theorem a8T {E : Env} {a : Act} {w : World} {G : Nat -> RG} : ∀ (l : List Oper) (σ : St), Rel P E σ a w G -> Rel P E (a1A l σ) a w G /\ (a1A l σ).ts.length = σ.ts.length /\ (∀ q, rget σ.rs q = none -> rget (a1A l σ).rs q = none) ∧
   ∀ o ∈ l, adds o = true -> ∀ d, o.dst = some d -> ∀ j, j < 4 -> rget (a1A l σ).rs (4 * d + j) = none := by
 intro l;induction l with
 | nil => intro σ h; exact ⟨h, rfl, fun q h => h, fun o ho => by cases ho⟩
 | cons o l ih =>
   intro σ h;have other : (∀ d, ¬ (adds o = true /\ o.dst = some d)) -> a1A (o :: l) σ = a1A l σ := by
     intro hn;simp only [a1A];split
     . rename_i d h1 h2; exact absurd ⟨h1, h2⟩ (hn d)
     . rfl
   by_cases hd : ∃ d, adds o = true /\ o.dst = some d
   . obtain ⟨d, h1, h2⟩ := hd;have he : a1A (o :: l) σ = a1A l (a5N d σ) := by simp only [a1A, h1, h2, a5N]
     rw [he];have hr : Rel P E (a5N d σ) a w G := a3G (a3G (a3G (a3G h _) _) _) _;obtain ⟨k1, k2, k3, k4⟩ := ih _ hr;refine ⟨k1, k2.trans (by simp [a5N, b0c]), fun q hq => k3 q ((a6S d q σ).2 hq), fun o' ho' ha d' hd' j hj => ?_⟩;simp only [List.mem_cons] at ho';rcases ho' with rfl | ho'
     . rw [h2] at hd';obtain rfl := Option.some.inj hd';exact k3 _ ((a6S d 0 σ).1 j hj)
     . exact k4 o' ho' ha d' hd' j hj
   . rw [other fun d hh => hd ⟨d, hh⟩];obtain ⟨k1, k2, k3, k4⟩ := ih σ h;refine ⟨k1, k2, k3, fun o' ho' ha d' hd' j hj => ?_⟩;simp only [List.mem_cons] at ho';rcases ho' with rfl | ho'
     . exact absurd ⟨d', ha, hd'⟩ hd
     . exact k4 o' ho' ha d' hd' j hj
theorem b3k {all : List Oper} {n m : Nat} (h : pickM all n = some m) : a1W all m n = true /\ m ≤ all.length := by
 have hle : ∀ (asg : Nat) (l : List Oper), a2J asg l ≤ l.length := by
   intro asg l;induction l with
   | nil => exact Nat.le_refl _
   | cons o l ih =>
     simp only [a2J];split
     . exact Nat.zero_le _
     . simp only [List.length_cons]; omega
 unfold pickM at h;split at h
 . rename_i h1; obtain rfl := Option.some.inj h; exact ⟨h1, hle _ _⟩
 . split at h
   . rename_i h1; obtain rfl := Option.some.inj h; exact ⟨h1, hle _ _⟩
   . split at h
     . rename_i h1; obtain rfl := Option.some.inj h; exact ⟨h1, hle _ _⟩
     . cases h
theorem b0x {E : Env} {c : Ctx} (hctx : CtxOK P c) {ops : Array Oper} {k : St -> Option R} {r : R} {kv : List (Nat × Value)} (hkp : a2N (kv.map (·.1)) ops.toList = true) {σ : St} {a : Act} {w : World} {G : Nat -> RG} {m : Nat}
   (hord : a1W ops.toList m σ.ts.length = true) (hmle : m ≤ ops.toList.length)
   (h : (a3X c ops.toList (ops.toList.take m) 0 [] (a1A (ops.toList.take m) σ) fun σ' => opsK c ops.toList (ops.toList.drop m) σ' k) = some r) (hrel' : Rel P E σ a w G) (hkeep : Keep kv a) :
   wpAny P .any ops (a9D P E kv k r) ops.size (Array.replicate ops.size false) a w := by
 have hok := a8N hord;obtain ⟨p1, p2, p3, p4⟩ := a8T (ops.toList.take m) σ hrel';have hget : ∀ i o, (ops.toList.take m)[i]? = some o -> i < m /\ ops.toList[i]? = some o := by
   intro i o ho;rw [List.getElem?_take] at ho;split at ho
   . exact ⟨by assumption, ho⟩
   . cases ho
 have hdst : ∀ o ∈ ops.toList.take m, ∃ d, o.dst = some d := by
   intro o ho;obtain ⟨i, hi⟩ := List.mem_iff_getElem?.1 ho;obtain ⟨h1, h2⟩ := hget i o hi;obtain ⟨d, hd, _⟩ := hok.dst i o h2 h1;exact ⟨d, hd⟩
 obtain ⟨es, ss, σn, mvn, hrun, hlast, hk, hmvn⟩ := b2z _ _ _ _ hdst h;obtain ⟨g1, g2, g3, g4⟩ := hrun.get;have hlen : (ops.toList.take m).length = m := by rw [List.length_take]; omega
 have W : Walk c ops.toList m σ.ts.length (a1A (ops.toList.take m) σ) es ss := by
   refine ⟨hok, p2.symm, fun i o hi ho => ?_, g3, b1D p1, fun i o d hi ho ha hd j hj => ?_, hmle, fun k e he => ?_⟩
   . obtain ⟨e, s, q1, q2, q3, mvd, q4, q5⟩ := g4 i o (by rw [List.getElem?_take, if_pos hi]; exact ho);exact ⟨e, s, q1, q2, q3, mvd, by rw [Nat.zero_add] at q4; exact q4, fun q => by rw [q5]; simp⟩
   . exact p4 o (List.mem_iff_getElem?.2 ⟨i, by rw [List.getElem?_take, if_pos hi]; exact ho⟩) ha d hd j hj
   . have := (List.getElem?_eq_some_iff.1 he).1;omega
 have hσm : ss[m]? = some σn := by
   rw [List.getLast?_eq_getElem?, g2, hlen] at hlast;simpa using hlast
 have hlisted : ∀ i, (Array.replicate ops.size false).getD i false = false := by
   intro i;rw [Array.getD_eq_getD_getElem?, Array.getElem?_replicate];split <;> rfl
 have noMv : ∀ q, ¬ MvD es (Dof (Array.replicate ops.size false)) q := fun q ⟨k, e, h1, _⟩ => by rw [show Dof (Array.replicate ops.size false) k = false from hlisted k] at h1; cases h1
 refine b2Z hctx W hkp hσm (fun q => by rw [hmvn]; simp) hk ops.size _ (a1A (ops.toList.take m) σ) (a1A (ops.toList.take m) σ) a _ G ?_ (by simp) (fun i _ _ => hlisted i) (fun i x hi => by rw [show Dof (Array.replicate ops.size false) i = false from hlisted i] at hi; cases hi) ⟨rfl, fun τ => ?_, fun q => ?_⟩ ⟨rfl, fun τ _ => rfl, fun τ q hq _ => absurd hq (noMv q), fun q _ => rfl, fun q hq => absurd hq (noMv q)⟩ p1 hkeep
 . exact Nat.le_trans List.countP_le_length (by simp)
 . unfold valD;cases a1w ops.toList m τ with
   | none => rfl
   | some i => simp only [show Dof (Array.replicate ops.size false) i = false from hlisted i, Bool.false_eq_true, if_false]
 . unfold a9g;cases a1w ops.toList m (q / 4) with
   | none => rfl
   | some i => simp only [show Dof (Array.replicate ops.size false) i = false from hlisted i, Bool.false_eq_true, if_false]
theorem a8j {kp : List Nat} : ∀ {l l' : List Oper}, l'.map (·.dst) = l.map (·.dst) -> a2N kp l = true -> a2N kp l' = true := by
 intro l;induction l with
 | nil => intro l' h _; cases l' with
   | nil => rfl
   | cons x l' => simp at h
 | cons x l ih =>
   intro l' h hk;cases l' with
   | nil => simp at h
   | cons y l' =>
     simp only [List.map_cons, List.cons.injEq] at h;simp only [a2N, Bool.and_eq_true] at hk ⊢;rw [h.1];exact ⟨hk.1, ih h.2 hk.2⟩
theorem a6y (lv : Nat) : ∀ (l : List Oper), a2J lv l ≤ l.length := by
 intro l;induction l with
 | nil => exact Nat.le_refl _
 | cons o l ih =>
   simp only [a2J];split
   . exact Nat.zero_le _
   . simp only [List.length_cons]; omega
theorem a3j {t : Nat} {all : List Oper} {ts : List TV} {q : Nat × List Oper} (h : a5f t all ts = some q) : q.1 = t /\ a3J t all ts = some q.2 /\ a1W q.2 q.1 ts.length = true := by
 unfold a5f at h;split at h
 . rename_i all' ha;split at h
   . rename_i ho;obtain rfl := Option.some.inj h;exact ⟨rfl, ha, ho⟩
   . cases h
 . cases h
theorem b3q {all : List Oper} {ts : List TV} {q : Nat × List Oper} (h : pickF all ts = some q) : (q.2 = all /\ a1W all q.1 ts.length = true /\ q.1 ≤ all.length) ∨ ∃ t, t ≤ all.length /\ q.1 = t /\ a3J t all ts = some q.2 /\ a1W q.2 q.1 ts.length = true := by
 unfold pickF at h;split at h
 . rename_i m hm;obtain rfl := Option.some.inj h;obtain ⟨h1, h2⟩ := b3k hm;exact .inl ⟨rfl, h1, h2⟩
 . refine .inr ?_;split at h
   . rename_i h1;obtain rfl := Option.some.inj h;exact ⟨_, a6y 1 all, a3j h1⟩
   . split at h
     . rename_i h1;obtain rfl := Option.some.inj h;exact ⟨_, a6y 0 all, a3j h1⟩
     . exact ⟨_, a6y 2 all, a3j h⟩
theorem a9z (c : Ctx) : ∀ (l : List Oper), a7z c l ≤ l.length := by
 intro l;induction l with
 | nil => exact Nat.le_refl _
 | cons o l ih =>
   simp only [a7z];split
   . exact Nat.zero_le _
   . simp only [List.length_cons]; omega
theorem b3w {c : Ctx} {all : List Oper} {ts : List TV} {q : Nat × List Oper} (h : pickG c all ts = some q) : (q.2 = all /\ a1W all q.1 ts.length = true /\ q.1 ≤ all.length) ∨ ∃ t, t ≤ all.length /\ q.1 = t /\ a3J t all ts = some q.2 /\ a1W q.2 q.1 ts.length = true := by
 unfold pickG at h;split at h
 . split at h
   . rename_i ho;cases h;exact .inl ⟨rfl, ho, a9z _ _⟩
   . exact .inr ⟨_, a9z _ _, a3j h⟩
 . split at h
   . rename_i q' hq;obtain rfl := Option.some.inj h;unfold pickL at hq;split at hq
     . cases hq
     . rename_i t _;split at hq
       . cases hq
       . rename_i hle;have hle := Nat.le_of_ble_eq_true hle;split at hq
         . rename_i ho;cases hq;exact .inl ⟨rfl, ho, hle⟩
         . exact .inr ⟨_, hle, a3j hq⟩
   . exact b3q h
theorem b0f {E : Env} {c : Ctx} (hctx : CtxOK P c) {ops : Array Oper} {id : Nat} {k : St -> Option R} {r : R} {kv : List (Nat × Value)} (hkp : a2N (kv.map (·.1)) ops.toList = true) {σ : St} {a : Act} {w : World} {G : Nat -> RG}
   (h : b2f c ops.toList σ k = some r) (hrel : Rel P E σ a w G) (hkeep : Keep kv a) : (Code.region id ops true).wp P (a9D P E kv k r) a w := by
 refine wp_region_any hctx.mixed ?_;have hrel' : Rel P E σ a { w with drawn := w.drawn + 1 } G := b3I hrel rfl ⟨rfl, rfl, rfl, Nat.le_refl _, Nat.le_succ _⟩;unfold b2f at h;split at h
 . cases h
 rename_i q hq;rcases b3w hq with ⟨h1, h2, h3⟩ | ⟨t, h1, h2, h3, h4⟩
 . rw [h1] at h;exact b0x hctx hkp h2 h3 h hrel' hkeep
 . obtain ⟨F, hd⟩ := a7M h3;have hlen : q.2.length = ops.toList.length := by simpa using congrArg List.length hd
   have hw := b0x hctx (ops := q.2.toArray) (σ := σ) (m := q.1) (r := r) (k := k) (kv := kv) (by simpa using a8j hd hkp) (by simpa using h4) (by simp only [List.size_toArray, Array.length_toList]; rw [hlen]; omega) (by simpa using h) hrel' hkeep;have hsz : q.2.toArray.size = ops.size := F.size;rw [hsz] at hw;have hno : ∀ i, Dof (Array.replicate ops.size false) i = false := fun i => by
     unfold Dof;rw [Array.getD_eq_getD_getElem?, Array.getElem?_replicate];split <;> rfl
   refine a9w F (fun e a w h => h.1) ops.size _ _ a a _ ops.size ?_ ?_ hw
   . have no : ∀ i, ¬ Dof (Array.replicate ops.size false) i = true := fun i h => by rw [hno] at h; cases h
     refine ⟨by simp, by simp, fun i h => h, fun i h => absurd h (no i), fun i o _ h => absurd h (no i), fun i o _ h => absurd h (no i), fun i o _ h => absurd h (no i), fun τ _ => rfl, rfl, Nat.le_of_eq hrel'.temps.1.symm, rfl, fun τ hτ => ?_, fun i o τ d _ _ h => absurd h (no i)⟩;obtain ⟨⟨tv, h5, _, h6⟩, _⟩ := a5s σ.ts 0 τ hτ;obtain ⟨v, S, A, h7, h8, _⟩ := hrel'.temps.2 τ tv (by simpa using h5);cases hk : a1i tv with
     | none => rw [hk] at h6; cases h6
     | some kx =>
       refine ⟨kx.1, kx.2, ?_⟩;rw [<- a1E h8 hk];simp only [Act.eval, Array.getD_eq_getD_getElem?, h7, Option.getD_some]
   . unfold left;exact Nat.le_trans List.countP_le_length (by simp)
end Go.Vm
end
section
namespace Go.Vm
variable {P : Program} {R : Type}
def Reach (P : Program) (Fin : R -> Act -> World -> Prop) (todo : List Item) (a : Act) (w : World) (r : R) : Prop :=
 ∀ (b : Frame) (cs : List Frame), ∃ a' w' todo', Steps P (lone (b.at a todo) cs w) (lone { b.at a' todo' with mode := .returning } cs w') /\ Fin r a' w'
theorem Reach.step {Fin : R -> Act -> World -> Prop} {todo todo' : List Item} {a : Act} {w : World} {r : R} (h : Reach P Fin todo' a w r) (hs : ∀ (b : Frame) (cs : List Frame), step P (lone (b.at a todo) cs w) = .next (lone (b.at a todo') cs w)) : Reach P Fin todo a w r := by
 intro b cs;obtain ⟨a', w', t', h1, h2⟩ := h b cs;exact ⟨a', w', t', .head (hs b cs) h1, h2⟩
def entered : List Item -> List Item
 | .inLoop c :: t => .code c :: .inLoop c :: t
 | t => t
section
variable {E : Env} {g : Cfg} {kv : List (Nat × Value)} {fin : St -> Option R} {Fin : R -> Act -> World -> Prop}
def b0z (P : Program) (E : Env) (kv : List (Nat × Value)) (Fin : R -> Act -> World -> Prop) (O : List Item -> St -> Option R) : Prop :=
 ∀ todo σ r a w G, O todo σ = some r -> Rel P E σ a w G -> Keep kv a -> Reach P Fin (entered todo) a w r
def FinOK (P : Program) (E : Env) (kv : List (Nat × Value)) (Fin : R -> Act -> World -> Prop) (fin : St -> Option R) : Prop :=
 ∀ σ r a w G, fin σ = some r -> Rel P E σ a w G -> Keep kv a -> Fin r a w
theorem a4s (hctx : CtxOK P g.c) (hkp : g.kp = kv.map (·.1)) {id : Nat} {ops : Array Oper} {draw : Bool} {t : List Item} {σ : St} {a : Act} {w : World} {G : Nat -> RG} {r : R} {k : St -> Option R} (h : a3o g ops draw σ k = some r) (hrel : Rel P E σ a w G) (hkeep : Keep kv a)
   (hk : ∀ σ' a' w' G', k σ' = some r -> Rel P E σ' a' w' G' -> Keep kv a' -> Reach P Fin t a' w' r) : Reach P Fin (.code (.region id ops draw) :: t) a w r := by
 unfold a3o at h;split at h
 . cases h
 rename_i hd;cases draw with
 | false =>
   have := b1y hctx (by rw [<- hkp]; exact hd) ops.toList (List.range ops.size) σ a w G (by
     apply List.ext_getElem
     . simp
     . intro i h1 h2;simp only [List.length_map, List.length_range] at h1;simp [h1]) h hrel hkeep
   intro b cs;obtain ⟨e, a', w', ⟨rfl, hkeep', σ', G', hrel', hkk⟩, harr⟩ := wp_ops _ a w this b t cs;obtain ⟨a2, w2, t2, h1, h2⟩ := hk σ' a' w' G' hkk hrel' hkeep' b cs;exact ⟨a2, w2, t2, .head step_region (Steps.trans harr h1), h2⟩
 | true =>
   have := b0f (id := id) hctx (by rw [<- hkp]; exact hd) h hrel hkeep;intro b cs;obtain ⟨e, a', w', ⟨rfl, hkeep', σ', G', hrel', hkk⟩, harr⟩ := this b t cs;obtain ⟨a2, w2, t2, h1, h2⟩ := hk σ' a' w' G' hkk hrel' hkeep' b cs;exact ⟨a2, w2, t2, Steps.trans harr h1, h2⟩
theorem a3C (hctx : CtxOK P g.c) (hkp : g.kp = kv.map (·.1)) (hfin : FinOK P E kv Fin fin) {O : List Item -> St -> Option R} (hO : b0z P E kv Fin O) : ∀ (s : Nat) (t : List Item) (σ : St) (r : R) (a : Act) (w : World) (G : Nat -> RG),
   a1G g fin O s t σ = some r -> Rel P E σ a w G -> Keep kv a -> Reach P Fin t a w r := by
 intro s;induction s with
 | zero => intro t σ r a w G h; cases h
 | succ s ih =>
   intro t σ r a w G h hrel hkeep;cases t with
   | nil =>
     intro b cs;exact ⟨a, w, [], .one step_end, hfin σ r a w G h hrel hkeep⟩
   | cons x t =>
     cases x with
     | code c =>
       cases c with
       | skip => exact (ih _ _ _ a w G h hrel hkeep).step fun b cs => step_skip
       | label l => exact (ih _ _ _ a w G h hrel hkeep).step fun b cs => step_label
       | region id ops draw =>
         simp only [a1G] at h;cases hc : hasN g.cuts id with
         | true =>
           rw [hc] at h;exact hO _ _ _ a w G h (a5M hrel _) hkeep
         | false =>
           rw [hc] at h;exact a4s hctx hkp h hrel hkeep fun σ' a' w' G' h' hr' hk' => ih _ _ _ a' w' G' h' hr' hk'
       | seq x y => exact (ih _ _ _ a w G h hrel hkeep).step fun b cs => step_seq
       | cond b x y =>
         simp only [a1G] at h;split at h
         case h_2 => cases h
         rename_i v hv;obtain ⟨S, A, hx, -⟩ := a0w hrel b;have hb := a2w hx hv;cases v with
         | true => exact (ih _ _ _ a w G h hrel hkeep).step fun fr cs => step_cond (t := true) hb
         | false => exact (ih _ _ _ a w G h hrel hkeep).step fun fr cs => step_cond (t := false) hb
       | block id x => exact (ih _ _ _ a w G h hrel hkeep).step fun b cs => step_block
       | loop x =>
         obtain ⟨G', hcl⟩ := a4B hrel g x;have := hO _ _ _ a w G' h hcl hkeep;exact this.step fun b cs => step_loop
       | exit id =>
         simp only [a1G] at h;split at h
         case h_2 => cases h
         rename_i t' ht';exact (ih _ _ _ a w G h hrel hkeep).step fun b cs => step_exit ht'
       | ret =>
         intro b cs;exact ⟨a, w, _, .one step_ret, hfin σ r a w G h hrel hkeep⟩
       | _ => cases h
     | inBlock id => exact (ih _ _ _ a w G h hrel hkeep).step fun b cs => step_inBlock
     | inLoop c =>
       obtain ⟨G', hcl⟩ := a4B hrel g c;have := hO _ _ _ a w G' h hcl hkeep;exact this.step fun b cs => step_inLoop
     | _ => cases h
theorem b1H (hctx : CtxOK P g.c) (hkp : g.kp = kv.map (·.1)) (hfin : FinOK P E kv Fin fin) : ∀ k, b0z P E kv Fin (runT g fin k) := by
 intro k;induction k with
 | zero => intro todo σ r a w G h; cases h
 | succ k ih =>
   intro todo σ r a w G h hrel hkeep
   match todo, h with
   | .inLoop c :: t, h => exact a3C hctx hkp hfin ih _ _ _ _ a w G h hrel hkeep
   | .code (.region id ops draw) :: t, h =>
     exact a4s hctx hkp h hrel hkeep fun σ' a' w' G' h' hr' hk' => a3C hctx hkp hfin ih _ _ _ _ a' w' G' h' hr' hk'
end
end Go.Vm
end
section
namespace Go.Vm
variable {P : Program}
def a1F : (ps : List PS) -> Ins ps -> Nat -> List TV
 | [], _, _ => []
 | .val agg t :: ps, d, i => .val agg (enc .sh t d.1) :: a1F ps d.2 (i + 1)
 | .rptr t :: ps, d, i => .rptr false (enc .sh t d.1) :: a1F ps d.2 (i + 1)
 | .wr agg t _ :: ps, d, i => .view (4 * i) (.root 0) t.sz agg :: a1F ps d.2 (i + 1)
 | .tk agg t _ :: ps, d, i => .view (4 * i) (.root 0) t.sz agg :: a1F ps d.2 (i + 1)
 | .fnx s :: ps, d, i => .fnx s d.1 :: a1F ps d.2 (i + 1)
 | .pfn s :: ps, d, i => .pfn (.fnx s d.1) :: a1F ps d.2 (i + 1)
 | .wp _ _ :: ps, d, i => .ref (4 * i) (.root 0) :: a1F ps d.2 (i + 1)
def a0h : (ps : List PS) -> Ins ps -> Nat -> List (Nat × Root)
 | [], _, _ => []
 | .wr _ t m :: ps, d, i => (4 * i, ⟨false, enc m t d.1⟩) :: a0h ps d.2 (i + 1)
 | .tk _ t m :: ps, d, i => (4 * i, ⟨false, enc m t d.1⟩) :: a0h ps d.2 (i + 1)
 | .wp t m :: ps, d, i => (4 * i, ⟨true, enc m t d.1⟩) :: a0h ps d.2 (i + 1)
 | .val _ _ :: ps, d, i => a0h ps d.2 (i + 1)
 | .rptr _ :: ps, d, i => a0h ps d.2 (i + 1)
 | .fnx _ :: ps, d, i => a0h ps d.2 (i + 1)
 | .pfn _ :: ps, d, i => a0h ps d.2 (i + 1)
def a8v : Nat -> List TV
 | 0 => []
 | n + 1 => .dead :: a8v n
def a5S (ps : List PS) (d : Ins ps) (n : Nat) : St := ⟨a1F ps d 0 ++ a8v (n - ps.length), a0h ps d 0⟩
def kpOf : List PS -> Nat -> List Nat
 | [], _ => []
 | .wr _ _ _ :: ps, i => i :: kpOf ps (i + 1)
 | .wp _ _ :: ps, i => i :: kpOf ps (i + 1)
 | _ :: ps, i => kpOf ps (i + 1)
def a6Z (m : Mode) (cs : List Cell) : List Cell := match m.own with
 | true => cs
 | false => cs.map Cell.sh
def readC (σ : St) : TV -> Option (List Cell × List Nat)
 | .val _ cs => some (cs, [])
 | .view r p n _ => match rget σ.rs r with
   | some x => some ((a0T x.cs p).take n, [r])
   | none => none
 | _ => none
def b0J (σ : St) : List TV -> Option (List Cell × List Nat)
 | [] => some ([], [])
 | t :: ts => match readC σ t, b0J σ ts with
   | some q, some q' => some (q.1 ++ q'.1, q.2 ++ q'.2)
   | _, _ => none
def a5B (σ : St) (agg : Bool) (t : Ty) (m : Mode) (tv : TV) : Option (t.den × List Nat) := match tv with
 | .val a cs => match decEq a agg with
   | .isTrue _ => match a0g m t cs with
     | some x => some (x, [])
     | none => none
   | .isFalse _ => none
 | .view r p n a => match decEq a agg, rget σ.rs r with
   | .isTrue _, some x => match a0g m t (a6Z m ((a0T x.cs p).take n)) with
     | some y => some (y, [r])
     | none => none
   | _, _ => none
 | .tup .a ts => match agg, b0J σ ts with
   | true, some q => match a1Q q.2, a0g m t (a6Z m q.1) with
     | true, some y => some (y, q.2)
     | _, _ => none
   | _, _ => none
 | _ => none
def a9d (σ : St) (k : OutK) (t : Ty) (m : Mode) (tv : TV) : Option (t.den × List Nat) := match k with
 | .val agg => a5B σ agg t m tv
 | .fr agg => a5B σ agg t m tv
 | .ptr => match tv with
   | .rptr true cs => match a0g .sh t (cs.take t.sz) with
     | some x => some (x, [])
     | none => none
   | _ => none
def a2h (σ : St) : (outs : List (OutK × Ty × Mode)) -> List TV -> Option (Outs outs × List Nat)
 | [], [] => some ((), [])
 | o :: outs, tv :: l => match a9d σ o.1 o.2.1 o.2.2 tv, a2h σ outs l with
   | some (x, u), some (y, u') => some ((x, y), u ++ u')
   | _, _ => none
 | _, _ => none
def b0I (σ : St) (agg : Bool) (t : Ty) (m : Mode) : TV -> Option (t.den × List Nat)
 | .view r (.root 0) n a => match decEq a agg, rget σ.rs r with
   | .isTrue _, some x => match a0g m t (x.cs.take n) with
     | some y => some (y, [r])
     | none => none
   | _, _ => none
 | _ => none
def a1D (σ : St) : (ps : List PS) -> List TV -> Option (Muts ps × List Nat)
 | [], _ => some ((), [])
 | .wr agg t m :: ps, tv :: l => match b0I σ agg t m tv, a1D σ ps l with
   | some (x, u), some (y, u') => some ((x, y), u ++ u')
   | _, _ => none
 | .wp t m :: ps, tv :: l => match a5i σ t m tv, a1D σ ps l with
   | some (x, r), some (y, u') => some ((x, y), [r] ++ u')
   | _, _ => none
 | .val _ _ :: ps, _ :: l => a1D σ ps l
 | .rptr _ :: ps, _ :: l => a1D σ ps l
 | .tk _ _ _ :: ps, _ :: l => a1D σ ps l
 | .fnx _ :: ps, _ :: l => a1D σ ps l
 | .pfn _ :: ps, _ :: l => a1D σ ps l
 | _, _ => none
def a5o (c : Ctx) (σ : St) : List ResultVar -> Option (List TV)
 | [] => some []
 | .tmp t :: l => match a5o c σ l with
   | some ts => some (nth σ.ts t .dead :: ts)
   | none => none
 | .cell b T :: l => match a5V c T (nth σ.ts b .dead) σ some, a5o c σ l with
   | some t, some ts => some (t :: ts)
   | _, _ => none
def finK (c : Ctx) (s : Sig) (res : List ResultVar) (σ : St) : Option (Outs s.outs × Muts s.ps) := match a5o c σ res with
 | none => none
 | some ts => match a2h σ s.outs ts, a1D σ s.ps σ.ts with
   | some (x, u), some (y, u') => match a1Q (u ++ u') with
     | true => some (x, y)
     | false => none
   | _, _ => none
theorem b2m {w : World} : ∀ (ps : List PS) (d : Ins ps) (vs : List Value) (M S A : List Nat) (i : Nat), a1L P w ps d vs M S A -> M.Nodup →
   ∃ (G : Nat -> RG) (S' A' : List Nat), a1y P (a0h ps d i) G w (a1F ps d i) vs S' A' /\ (∀ b ∈ S', b ∈ S) /\ (∀ b ∈ A', b ∈ A) ∧
     (∀ r x, rget (a0h ps d i) r = some x -> a0Q w x (G r) /\ ∀ b ∈ (G r).S, b ∈ S /\ b ∈ A) /\ (∀ r b, b ∈ (G r).F -> b ∈ M /\ b < w.heap.size) /\ (∀ r, (G r).F.Nodup) /\ (∀ r r' b, b ∈ (G r).F -> b ∈ (G r').F -> r = r') ∧
     (∀ r, r < 4 * i ∨ 4 * (i + ps.length) ≤ r -> rget (a0h ps d i) r = none /\ (G r).F = []) := by
 intro ps;induction ps with
 | nil =>
   rintro d vs M S A i ⟨rfl, rfl, rfl, rfl⟩ _;exact ⟨fun _ => noRG, [], [], ⟨rfl, rfl, rfl⟩, by simp, by simp, fun r x hx => by simp [a0h, rget] at hx, by simp [noRG], by simp [noRG], by simp [noRG], fun r _ => ⟨rfl, rfl⟩⟩
 | cons p ps ih =>
   rintro d vs M S A i ⟨v, vs', M1, M2, S1, S2, A1, A2, rfl, rfl, rfl, rfl, h1, h2⟩ hn;obtain ⟨n1, n2, n3⟩ := List.nodup_append.1 hn;obtain ⟨G, S', A', k1, k2, k3, k4, k5, k6, k7, k8⟩ := ih d.2 vs' M2 S2 A2 (i + 1) h2 n2;have plain : ∀ (tv : TV) (Sa Aa : List Nat), M1 = [] -> a1F (p :: ps) d i = tv :: a1F ps d.2 (i + 1) -> a0h (p :: ps) d i = a0h ps d.2 (i + 1) -> TRep P (a0h ps d.2 (i + 1)) G w tv v Sa Aa -> (∀ b ∈ Sa, b ∈ S1) -> (∀ b ∈ Aa, b ∈ A1) →
       ∃ (G : Nat -> RG) (S' A' : List Nat), a1y P (a0h (p :: ps) d i) G w (a1F (p :: ps) d i) (v :: vs') S' A' /\ (∀ b ∈ S', b ∈ S1 ++ S2) /\ (∀ b ∈ A', b ∈ A1 ++ A2) ∧
     (∀ r x, rget (a0h (p :: ps) d i) r = some x -> a0Q w x (G r) /\ ∀ b ∈ (G r).S, b ∈ S1 ++ S2 /\ b ∈ A1 ++ A2) /\ (∀ r b, b ∈ (G r).F -> b ∈ M1 ++ M2 /\ b < w.heap.size) /\ (∀ r, (G r).F.Nodup) /\ (∀ r r' b, b ∈ (G r).F -> b ∈ (G r').F -> r = r') ∧
     (∀ r, r < 4 * i ∨ 4 * (i + (p :: ps).length) ≤ r -> rget (a0h (p :: ps) d i) r = none /\ (G r).F = []) := by
     intro tv Sa Aa hM e1 e2 ht hSa hAa;rw [e1, e2];refine ⟨G, Sa ++ S', Aa ++ A', ⟨v, vs', Sa, S', Aa, A', rfl, rfl, rfl, ht, k1⟩, fun b hb => ?_, fun b hb => ?_, fun r x hx => ⟨(k4 r x hx).1, fun b hb => ?_⟩, fun r b hb => ⟨?_, (k5 r b hb).2⟩, k6, k7, fun r hr => k8 r ?_⟩
     . simp only [List.mem_append] at hb ⊢; exact hb.imp (hSa b) (k2 b)
     . simp only [List.mem_append] at hb ⊢; exact hb.imp (hAa b) (k3 b)
     . have := (k4 r x hx).2 b hb; simp [this.1, this.2]
     . simp [(k5 r b hb).1]
     . simp only [List.length_cons] at hr; omega
   have root0 : ∀ (tv : TV) (x : Root) (g : RG), a0Q w x g -> g.F = M1 -> g.S = S1 -> A1 = S1 -> (∀ rs' (G' : Nat -> RG), rget rs' (4 * i) = some x -> G' (4 * i) = g -> TRep P rs' G' w tv v [] []) -> a1F (p :: ps) d i = tv :: a1F ps d.2 (i + 1) -> a0h (p :: ps) d i = (4 * i, x) :: a0h ps d.2 (i + 1) →
       ∃ (G : Nat -> RG) (S' A' : List Nat), a1y P (a0h (p :: ps) d i) G w (a1F (p :: ps) d i) (v :: vs') S' A' /\ (∀ b ∈ S', b ∈ S1 ++ S2) /\ (∀ b ∈ A', b ∈ A1 ++ A2) ∧
     (∀ r x, rget (a0h (p :: ps) d i) r = some x -> a0Q w x (G r) /\ ∀ b ∈ (G r).S, b ∈ S1 ++ S2 /\ b ∈ A1 ++ A2) /\ (∀ r b, b ∈ (G r).F -> b ∈ M1 ++ M2 /\ b < w.heap.size) /\ (∀ r, (G r).F.Nodup) /\ (∀ r r' b, b ∈ (G r).F -> b ∈ (G r').F -> r = r') ∧
     (∀ r, r < 4 * i ∨ 4 * (i + (p :: ps).length) ≤ r -> rget (a0h (p :: ps) d i) r = none /\ (G r).F = []) := by
     intro tv x g hroot hgF hgS hA htv e1 e2;subst hA;rw [e1, e2];have hget : ∀ q, rget ((4 * i, x) :: a0h ps d.2 (i + 1)) q = if q = 4 * i then some x else rget (a0h ps d.2 (i + 1)) q := by
       intro q;simp only [rget];cases hd : Nat.decEq (4 * i) q with
       | isTrue e => subst e; simp
       | isFalse e => simp [Ne.symm e]
     have hnone : rget (a0h ps d.2 (i + 1)) (4 * i) = none := (k8 (4 * i) (.inl (by omega))).1;have htail : a1y P ((4 * i, x) :: a0h ps d.2 (i + 1)) (upG G (4 * i) g) w (a1F ps d.2 (i + 1)) vs' S' A' := by
       refine a3U (fun q y hq => ?_) (fun q hq => ?_) _ _ _ _ k1
       . rw [hget, if_neg (by rintro rfl; rw [hnone] at hq; cases hq)]; exact hq
       . exact a0z _ _ (by rintro rfl; exact hq hnone)
     refine ⟨upG G (4 * i) g, S', A', ⟨v, vs', [], S', [], A', rfl, rfl, rfl, htv _ _ (by rw [hget, if_pos rfl]) (a0y _ _ _), htail⟩, fun b hb => by simp [k2 b hb], fun b hb => by simp [k3 b hb], fun r y hy => ?_, fun r b hb => ?_, fun r => ?_, fun r r' b hb hb' => ?_, fun r hr => ?_⟩
     . rw [hget] at hy;by_cases hr : r = 4 * i
       . subst hr;rw [if_pos rfl] at hy;obtain rfl := Option.some.inj hy;rw [a0y];exact ⟨hroot, fun b hb => by rw [hgS] at hb; simp [hb]⟩
       . rw [if_neg hr] at hy;rw [a0z _ _ hr];exact ⟨(k4 r y hy).1, fun b hb => by have := (k4 r y hy).2 b hb; simp [this.1, this.2]⟩
     . by_cases hr : r = 4 * i
       . subst hr; rw [a0y] at hb;have hb' := hb;rw [hgF] at hb;exact ⟨by simp [hb], a0P hroot b (.inl hb')⟩
       . rw [a0z _ _ hr] at hb; exact ⟨by simp [(k5 r b hb).1], (k5 r b hb).2⟩
     . by_cases hr : r = 4 * i
       . subst hr; rw [a0y, hgF]; exact n1
       . rw [a0z _ _ hr]; exact k6 r
     . by_cases hr : r = 4 * i
       . subst hr; rw [a0y] at hb;by_cases hr' : r' = 4 * i
         . exact hr'.symm
         . rw [a0z _ _ hr'] at hb';rw [hgF] at hb;exact absurd rfl (n3 b hb b (k5 r' b hb').1)
       . rw [a0z _ _ hr] at hb;by_cases hr' : r' = 4 * i
         . subst hr'; rw [a0y, hgF] at hb';exact absurd rfl (n3 b hb' b (k5 r b hb).1)
         . rw [a0z _ _ hr'] at hb'; exact k7 r r' b hb hb'
     . simp only [List.length_cons] at hr;have hne : r ≠ 4 * i := by omega
       rw [hget, if_neg hne, a0z _ _ hne];exact k8 r (by omega)
   have root : ∀ (agg : Bool) (t : Ty) (m : Mode) (x : t.den) (us : List Value), Rep w t m x us M1 S1 -> a0F agg us v -> A1 = S1 -> a1F (p :: ps) d i = .view (4 * i) (.root 0) t.sz agg :: a1F ps d.2 (i + 1) -> a0h (p :: ps) d i = (4 * i, ⟨false, enc m t x⟩) :: a0h ps d.2 (i + 1) -> _ := fun agg t m x us hrep hsh hA e1 e2 =>
     root0 (.view (4 * i) (.root 0) t.sz agg) ⟨false, enc m t x⟩ ⟨us, none, M1, S1⟩ ⟨M1, (a0c _ _ _ _ _ _ _).1 hrep, .inl ⟨rfl, rfl, rfl⟩⟩ rfl rfl hA (fun rs' G' h1 h2 => ⟨rfl, rfl, ⟨false, enc m t x⟩, _, _, h1, Nat.zero_le _, by rw [h2]; exact a2P, by rw [show us.length = t.sz from a0e hrep]; exact Nat.le_refl _, by rw [List.take_of_length_le (Nat.le_of_eq (a0e hrep))]; exact hsh⟩) e1 e2
   cases p with
   | val agg t =>
     obtain ⟨rfl, rfl, us, hrep, hsh⟩ := h1;exact plain (.val agg (enc .sh t d.1)) A1 A1 rfl rfl rfl ⟨rfl, us, (a0c _ _ _ _ _ _ _).1 hrep, hsh⟩ (fun b hb => hb) (fun b hb => hb)
   | rptr t =>
     obtain ⟨rfl, ad, us, rfl, hc, hlt, hrep, rfl⟩ := h1;exact plain (.rptr false (enc .sh t d.1)) (ad.block :: A1) A1 rfl rfl rfl ⟨ad, us, A1, rfl, hc, hlt, (a0c _ _ _ _ _ _ _).1 hrep, rfl, rfl⟩ (fun b hb => hb) (fun b hb => hb)
   | wr agg t m =>
     obtain ⟨_, hA, us, hrep, hsh⟩ := h1;exact root agg t m d.1 us hrep hsh hA rfl rfl
   | tk agg t m =>
     obtain ⟨hA, us, hrep, hsh⟩ := h1;exact root agg t m d.1 us hrep hsh hA rfl rfl
   | fnx s =>
     obtain ⟨rfl, h1⟩ := h1;exact plain (.fnx s d.1) S1 A1 rfl rfl rfl h1 (fun b hb => hb) (fun b hb => hb)
   | pfn s =>
     obtain ⟨rfl, ad, u, S0, rfl, hc, hlt, h1, rfl⟩ := h1;exact plain (.pfn (.fnx s d.1)) (ad.block :: S0) A1 rfl rfl rfl ⟨ad, u, S0, rfl, hc, hlt, h1, rfl⟩ (fun b hb => hb) (fun b hb => hb)
   | wp t m =>
     obtain ⟨hA, us, b, F, arr, e, rfl, hrep, hheap, harr, hM⟩ := h1;exact root0 (.ref (4 * i) (.root 0)) ⟨true, enc m t d.1⟩ ⟨us, some b, M1, S1⟩ ⟨F, (a0c _ _ _ _ _ _ _).1 hrep, .inr ⟨rfl, b, arr, e, rfl, hheap, harr, hM⟩⟩ rfl rfl hA (fun rs' G' h1 h2 => ⟨rfl, rfl, ⟨true, enc m t d.1⟩, ⟨b, 0, none⟩, us, h1, Nat.zero_le _, by rw [h2]; exact ⟨rfl, rfl⟩, rfl⟩) rfl rfl
end Go.Vm
end
section
namespace Go.Vm
variable {P : Program}
structure Back (E : Env) (G : Nat -> RG) (us : List Nat) (F S : List Nat) : Prop where
 own : ∀ b ∈ F, ∃ r ∈ us, b ∈ (G r).F
 shr : ∀ b ∈ S, (∀ q, b ∉ (G q).F) ∨ ∃ r ∈ us, b ∈ (G r).F
 nodup : F.Nodup
 dis : ∀ b ∈ F, b ∉ S
 inA : ∀ b ∈ S, b < E.w0.heap.size -> b ∈ E.A
theorem Back.nil {E : Env} {G : Nat -> RG} (us : List Nat) : Back E G us [] [] := ⟨by simp, by simp, by simp, by simp, by simp⟩
theorem Back.app {E : Env} {rs : List (Nat × Root)} {w : World} {G : Nat -> RG} (hr : RelR E rs w G) {us us' : List Nat} {F S F' S' : List Nat} (h : Back E G us F S) (h' : Back E G us' F' S') (hn : ∀ r ∈ us, r ∉ us') : Back E G (us ++ us') (F ++ F') (S ++ S') := by
 have key : ∀ b, (∃ r ∈ us, b ∈ (G r).F) -> (∃ r ∈ us', b ∈ (G r).F) -> False := by
   rintro b ⟨r, h1, h2⟩ ⟨r', h3, h4⟩;have := hr.disj r r' b h2 h4;subst this;exact hn r h1 h3
 refine ⟨fun b hb => ?_, fun b hb => ?_, List.nodup_append.2 ⟨h.nodup, h'.nodup, fun b hb c hc e => ?_⟩, fun b hb hs => ?_, fun b hb => ?_⟩
 . simp only [List.mem_append] at hb ⊢;rcases hb with hb | hb
   . obtain ⟨r, h1, h2⟩ := h.own b hb; exact ⟨r, .inl h1, h2⟩
   . obtain ⟨r, h1, h2⟩ := h'.own b hb; exact ⟨r, .inr h1, h2⟩
 . simp only [List.mem_append] at hb ⊢;rcases hb with hb | hb
   . exact (h.shr b hb).imp id fun ⟨r, h1, h2⟩ => ⟨r, .inl h1, h2⟩
   . exact (h'.shr b hb).imp id fun ⟨r, h1, h2⟩ => ⟨r, .inr h1, h2⟩
 . subst e;exact key b (h.own b hb) (h'.own b hc)
 . simp only [List.mem_append] at hb hs;rcases hb with hb | hb <;> rcases hs with hs | hs
   . exact h.dis b hb hs
   . rcases h'.shr b hs with k | k
     . obtain ⟨r, h1, h2⟩ := h.own b hb; exact k r h2
     . exact key b (h.own b hb) k
   . rcases h.shr b hs with k | k
     . obtain ⟨r, h1, h2⟩ := h'.own b hb; exact k r h2
     . exact key b k (h'.own b hb)
   . exact h'.dis b hb hs
 . simp only [List.mem_append] at hb;exact hb.elim (h.inA b) (h'.inA b)
theorem a2Q {l l' : List Nat} (h : a1Q (l ++ l') = true) : a1Q l = true /\ a1Q l' = true /\ ∀ r ∈ l, r ∉ l' := by
 induction l with
 | nil => exact ⟨rfl, h, by simp⟩
 | cons x l ih =>
   simp only [List.cons_append, a1Q, Bool.and_eq_true] at h;obtain ⟨h1, h2, h3⟩ := ih h.2;have := a3K (by simpa using h.1);simp only [List.mem_append, not_or] at this;refine ⟨?_, h2, fun r hr => ?_⟩
   . simp only [a1Q, Bool.and_eq_true];refine ⟨?_, h1⟩;cases hx : hasN l x with
     | false => rfl
     | true => exact absurd (a0s hx) this.1
   . simp only [List.mem_cons] at hr;rcases hr with rfl | hr
     . exact this.2
     . exact h3 r hr
theorem a9c {E : Env} {σ : St} {a : Act} {w : World} {G : Nat -> RG} (h : Rel P E σ a w G) {tv : TV} {v : Value} {S A : List Nat} (ht : TRep P σ.rs G w tv v S A) (hf : Fine2 E G S A) {q : List Cell × List Nat} (hr : readC σ tv = some q) :
   ∃ F S', a0J w q.1 v.cells.toList F S' /\ Back E G q.2 F S' := by
 unfold readC at hr;split at hr
 . obtain rfl := Option.some.inj hr;obtain ⟨rfl, vs, h1, h2⟩ := ht;exact ⟨[], _, by rw [a0X h1 h2]; exact h1, ⟨by simp, fun b hb => .inl (hf.free b hb), by simp, by simp, fun b hb => hf.inA b hb⟩⟩
 . rename_i q p n ag;split at hr
   case h_2 => cases hr
   rename_i y hy;obtain rfl := Option.some.inj hr;obtain ⟨rfl, rfl, y', ad, us, hy', hp, hl, hn, hs⟩ := ht;rw [hy] at hy';obtain rfl := Option.some.inj hy';obtain ⟨F, S', hrep, hF, hS, -, hFn⟩ := a1k (h.r.roots q y hy) (h.r.nodup q) hp hl;obtain ⟨F1, F2, S1, S2, rfl, rfl, hr1, -⟩ := a0D n hrep;have hshr := h.r.shr q y hy;have hS1 : ∀ b ∈ S1, b ∈ (G q).S := fun b hb => hS b (by simp [hb]);have hF1 : ∀ b ∈ F1, b ∈ (G q).F := fun b hb => (hF b (by simp [hb])).1;exact ⟨F1, S1, by rw [a0X hr1 hs]; exact hr1, fun b hb => ⟨q, by simp, hF1 b hb⟩, fun b hb => .inl (hshr b (hS1 b hb)).1, (List.nodup_append.1 hFn).1, fun b hb hb' => (hshr b (hS1 b hb')).1 q (hF1 b hb), fun b hb => (hshr b (hS1 b hb)).2⟩
 . cases hr
theorem a8U {E : Env} {σ : St} {a : Act} {w : World} {G : Nat -> RG} (h : Rel P E σ a w G) : ∀ (ts : List TV) (vs : List Value) (S A : List Nat), a1y P σ.rs G w ts vs S A -> Fine2 E G S A -> ∀ (q : List Cell × List Nat), b0J σ ts = some q -> a1Q q.2 = true →
   ∃ F S', a0J w q.1 (vs.flatMap fun v => v.cells.toList) F S' /\ Back E G q.2 F S' := by
 intro ts;induction ts with
 | nil =>
   intro vs S A ht hf q hr _;obtain rfl := Option.some.inj hr;obtain ⟨rfl, rfl, rfl⟩ := ht;exact ⟨[], [], ⟨rfl, rfl, rfl⟩, Back.nil _⟩
 | cons t ts ih =>
   intro vs S A ht hf q hr hn;obtain ⟨v, vs', S1, S2, A1, A2, rfl, rfl, rfl, h1, h2⟩ := ht;simp only [b0J] at hr;split at hr
   case h_2 => cases hr
   rename_i q1 q2 hx hy;obtain rfl := Option.some.inj hr;obtain ⟨n1, n2, n3⟩ := a2Q hn;obtain ⟨F1, T1, g1, k1⟩ := a9c h h1 (hf.sub (by simp +contextual) (by simp +contextual)) hx;obtain ⟨F2, T2, g2, k2⟩ := ih vs' S2 A2 h2 (hf.sub (by simp +contextual) (by simp +contextual)) q2 hy n2;exact ⟨F1 ++ F2, T1 ++ T2, by simpa using a0K g1 g2, k1.app h.r k2 n3⟩
theorem a3d {E : Env} {σ : St} {a : Act} {w : World} {G : Nat -> RG} (h : Rel P E σ a w G) {tv : TV} {v : Value} {S A : List Nat} (ht : TRep P σ.rs G w tv v S A) (hf : Fine2 E G S A) {agg : Bool} {t : Ty} {m : Mode} {x : t.den} {us : List Nat} (hr : a5B σ agg t m tv = some (x, us)) :
   ∃ F S', b0y w (.val agg) t m x v F S' /\ Back E G us F S' := by
 have free : ∀ (S' : List Nat), (∀ b ∈ S', b ∈ A) -> (∀ b ∈ S', b ∈ S) -> Back E G [] [] S' := fun S' h1 h2 => ⟨by simp, fun b hb => .inl (hf.free b (h2 b hb)), by simp, by simp, fun b hb => hf.inA b (h1 b hb)⟩;unfold a5B at hr;split at hr
 . split at hr
   . rename_i he _;subst he;split at hr
     . rename_i y hy;simp only [Option.some.injEq, Prod.mk.injEq] at hr;obtain ⟨rfl, rfl⟩ := hr;obtain ⟨rfl, vs, h1, h2⟩ := ht;exact ⟨[], _, ⟨vs, a0H hy h1, h2⟩, free _ (fun b hb => hb) (fun b hb => hb)⟩
     . cases hr
   . cases hr
 . rename_i q p n ag;split at hr
   . rename_i he y _ hy;subst he;split at hr
     . rename_i z hz;simp only [Option.some.injEq, Prod.mk.injEq] at hr;obtain ⟨rfl, rfl⟩ := hr;obtain ⟨rfl, rfl, y', ad, us, hy', hp, hl, hn, hs⟩ := ht;rw [hy] at hy';obtain rfl := Option.some.inj hy';obtain ⟨F, S', hrep, hF, hS, -, hFn⟩ := a1k (h.r.roots q y hy) (h.r.nodup q) hp hl;obtain ⟨F1, F2, S1, S2, rfl, rfl, hr1, -⟩ := a0D n hrep;have hshr := h.r.shr q y hy;have hS1 : ∀ b ∈ S1, b ∈ (G q).S := fun b hb => hS b (by simp [hb]);have hF1 : ∀ b ∈ F1, b ∈ (G q).F := fun b hb => (hF b (by simp [hb])).1;have hEA : ∀ b ∈ (G q).F, b < E.w0.heap.size -> b ∈ E.A := by
         intro b hb hlt;rcases h.r.own q b hb with h1 | h1
         . omega
         . exact E.ma b h1
       cases hm : m.own with
       | true =>
         simp only [a6Z, hm] at hz;refine ⟨F1, S1, ⟨us.take n, a0H hz hr1, hs⟩, fun b hb => ⟨q, by simp, hF1 b hb⟩, fun b hb => .inl (hshr b (hS1 b hb)).1, ?_, fun b hb hb' => (hshr b (hS1 b hb')).1 q (hF1 b hb), fun b hb => (hshr b (hS1 b hb)).2⟩;exact (List.nodup_append.1 hFn).1
       | false =>
         simp only [a6Z, hm] at hz;obtain ⟨T, hT, hTs⟩ := a1p hr1;have hms : m = .sh := by cases m <;> first | rfl | cases hm
         have := a0H hz hT;refine ⟨[], T, ⟨us.take n, this, hs⟩, by simp, fun b hb => ?_, by simp, by simp, fun b hb => ?_⟩
         . rcases hTs b hb with h1 | h1
           . exact .inr ⟨q, by simp, hF1 b h1⟩
           . exact .inl (hshr b (hS1 b h1)).1
         . rcases hTs b hb with h1 | h1
           . exact hEA b (hF1 b h1)
           . exact (hshr b (hS1 b h1)).2
     . cases hr
   . cases hr
 . rename_i ts;split at hr
   case h_2 => cases hr
   rename_i q hq;split at hr
   case h_2 => cases hr
   rename_i z hn hz;simp only [Option.some.injEq, Prod.mk.injEq] at hr;obtain ⟨rfl, rfl⟩ := hr;obtain ⟨vs, rfl, hts⟩ := ht;obtain ⟨F1, S1, hr1, hb⟩ := a8U h ts vs _ _ hts hf q hq hn;cases hm : m.own with
   | true =>
     simp only [a6Z, hm] at hz;exact ⟨F1, S1, ⟨_, a0H hz hr1, rfl⟩, hb⟩
   | false =>
     simp only [a6Z, hm] at hz;obtain ⟨T, hT, hTs⟩ := a1p hr1;have hms : m = .sh := by cases m <;> first | rfl | cases hm
     refine ⟨[], T, ⟨_, a0H hz hT, rfl⟩, by simp, fun b hb' => ?_, by simp, by simp, fun b hb' hlt => ?_⟩
     . rcases hTs b hb' with h1 | h1
       . exact .inr (hb.own b h1)
       . exact hb.shr b h1
     . rcases hTs b hb' with h1 | h1
       . obtain ⟨q', -, h2⟩ := hb.own b h1;rcases h.r.own q' b h2 with h3 | h3
         . omega
         . exact E.ma b h3
       . exact hb.inA b h1 hlt
 . cases hr
theorem a7W {E : Env} {σ : St} {a : Act} {w : World} {G : Nat -> RG} (h : Rel P E σ a w G) {tv : TV} {v : Value} {S A : List Nat} (ht : TRep P σ.rs G w tv v S A) (hf : Fine2 E G S A) {k : OutK} {t : Ty} {m : Mode} {x : t.den} {us : List Nat} (hr : a9d σ k t m tv = some (x, us)) :
   ∃ F S', b0y w k t m x v F S' /\ Back E G us F S' := by
 cases k with
 | val agg => exact a3d h ht hf hr
 | fr agg => exact a3d h ht hf hr
 | ptr =>
   simp only [a9d] at hr;split at hr
   case h_2 => cases hr
   rename_i cs;split at hr
   case h_2 => cases hr
   rename_i y hy;simp only [Option.some.injEq, Prod.mk.injEq] at hr;obtain ⟨rfl, rfl⟩ := hr;obtain ⟨ad, vs, A0, rfl, hc, hlt, h1, rfl, rfl⟩ := ht;obtain ⟨T, hT, hTs⟩ := a2S t.sz h1;have hsub : ∀ b ∈ ad.block :: T, b ∈ ad.block :: A0 := fun b hb => by
     simp only [List.mem_cons] at hb ⊢;exact hb.imp id (hTs b)
   refine ⟨[], ad.block :: T, ⟨rfl, ad, vs.take t.sz, T, rfl, fun i u hu => hc i u ?_, hlt, a0H hy hT, rfl⟩, ⟨by simp, fun b hb => .inl (hf.free b (hsub b hb)), by simp, by simp, fun b hb => hf.inA b (hsub b hb)⟩⟩;rw [List.getElem?_take] at hu;split at hu
   . exact hu
   . cases hu
theorem a6J {E : Env} {σ : St} {a : Act} {w : World} {G : Nat -> RG} (h : Rel P E σ a w G) : ∀ (outs : List (OutK × Ty × Mode)) (ts : List TV) (vs : List Value) (S A : List Nat), a1y P σ.rs G w ts vs S A -> Fine2 E G S A -> ∀ (d : Outs outs) (us : List Nat), a2h σ outs ts = some (d, us) -> a1Q us = true →
   ∃ F S', a3g w outs d vs F S' /\ Back E G us F S' := by
 intro outs;induction outs with
 | nil =>
   intro ts vs S A ht hf d us hr _;cases ts with
   | nil =>
     simp only [a2h, Option.some.injEq, Prod.mk.injEq] at hr;obtain ⟨-, rfl⟩ := hr;obtain ⟨rfl, rfl, rfl⟩ := ht;exact ⟨[], [], ⟨rfl, rfl, rfl⟩, Back.nil _⟩
   | cons t ts => simp [a2h] at hr
 | cons o outs ih =>
   intro ts vs S A ht hf d us hr hn;cases ts with
   | nil => simp [a2h] at hr
   | cons t ts =>
     obtain ⟨v, vs', S1, S2, A1, A2, rfl, rfl, rfl, h1, h2⟩ := ht;simp only [a2h] at hr;split at hr
     . rename_i x u y u' hx hy;simp only [Option.some.injEq, Prod.mk.injEq] at hr;obtain ⟨rfl, rfl⟩ := hr;obtain ⟨n1, n2, n3⟩ := a2Q hn;obtain ⟨F1, T1, g1, k1⟩ := a7W h h1 (hf.sub (by simp +contextual) (by simp +contextual)) hx;obtain ⟨F2, T2, g2, k2⟩ := ih ts vs' S2 A2 h2 (hf.sub (by simp +contextual) (by simp +contextual)) y u' hy n2;exact ⟨F1 ++ F2, T1 ++ T2, ⟨v, vs', F1, F2, T1, T2, rfl, rfl, rfl, g1, g2⟩, k1.app h.r k2 n3⟩
     . cases hr
theorem a6I {E : Env} {σ : St} {a : Act} {w : World} {G : Nat -> RG} (h : Rel P E σ a w G) {args : List Value} : ∀ (ps : List PS) (i : Nat) (ts : List TV) (vs : List Value), (∀ j t, ts[j]? = some t -> σ.ts[i + j]? = some t) -> vs.length = ps.length →
   (∀ j v, vs[j]? = some v -> (i + j) ∈ kpOf ps i -> a.tmps[i + j]? = some v) -> ∀ (d : Muts ps) (us : List Nat), a1D σ ps ts = some (d, us) -> a1Q us = true -> ∃ M T, a1H w ps d vs M T /\ Back E G us M T := by
 intro ps;induction ps with
 | nil =>
   intro i ts vs hts hl hk d us hr _;simp only [a1D, Option.some.injEq, Prod.mk.injEq] at hr;obtain ⟨-, rfl⟩ := hr;exact ⟨[], [], ⟨rfl, rfl⟩, Back.nil _⟩
 | cons p ps ih =>
   intro i ts vs hts hl hk d us hr hn;cases vs with
   | nil => simp at hl
   | cons v vs =>
   cases ts with
   | nil => cases p <;> simp [a1D] at hr
   | cons t ts =>
     have hts' : ∀ j t, ts[j]? = some t -> σ.ts[i + 1 + j]? = some t := fun j t' h' => by
       rw [show i + 1 + j = i + (j + 1) by omega]; exact hts (j + 1) t' (by simpa using h')
     have hl' : vs.length = ps.length := by simpa using hl
     have hk' : ∀ j u, vs[j]? = some u -> (i + 1 + j) ∈ kpOf ps (i + 1) -> a.tmps[i + 1 + j]? = some u := fun j u h1 h2 => by
       rw [show i + 1 + j = i + (j + 1) by omega] at h2 ⊢;exact hk (j + 1) u (by simpa using h1) (by cases p <;> simp [kpOf, h2])
     cases p with
     | wr agg ty m =>
       simp only [a1D] at hr;split at hr
       . rename_i x u y u' hx hy;simp only [Option.some.injEq, Prod.mk.injEq] at hr;obtain ⟨rfl, rfl⟩ := hr;obtain ⟨n1, n2, n3⟩ := a2Q hn;obtain ⟨M2, T2, g2, k2⟩ := ih (i + 1) ts vs hts' hl' hk' y u' hy n2;obtain ⟨v', S, A, hv, ht, hf⟩ := h.temps.2 i t (by simpa using hts 0 t rfl);have hkv := hk 0 v rfl (by simp [kpOf]);simp only [Nat.add_zero] at hkv;rw [hkv] at hv;obtain rfl := Option.some.inj hv;unfold b0I at hx;split at hx
         . rename_i q n ag;split at hx
           . rename_i he yr _ hyr;subst he;split at hx
             . rename_i z hz;simp only [Option.some.injEq, Prod.mk.injEq] at hx;obtain ⟨rfl, rfl⟩ := hx;obtain ⟨rfl, rfl, y', ad, us, hy', hp, hl1, hn1, hs⟩ := ht;rw [hyr] at hy';obtain rfl := Option.some.inj hy';obtain ⟨F, S', hrep, hF, hS, -, hFn⟩ := a1k (h.r.roots q yr hyr) (h.r.nodup q) hp hl1;simp only [a0T, List.drop_zero] at hrep;obtain ⟨F1, F2, S1, S2, rfl, rfl, hr1, -⟩ := a0D n hrep;have hshr := h.r.shr q yr hyr;have hS1 : ∀ b ∈ S1, b ∈ (G q).S := fun b hb => hS b (by simp [hb]);have hF1 : ∀ b ∈ F1, b ∈ (G q).F := fun b hb => (hF b (by simp [hb])).1;have k1 : Back E G [q] F1 S1 := ⟨fun b hb => ⟨q, by simp, hF1 b hb⟩, fun b hb => .inl (hshr b (hS1 b hb)).1, (List.nodup_append.1 hFn).1, fun b hb hb' => (hshr b (hS1 b hb')).1 q (hF1 b hb), fun b hb => (hshr b (hS1 b hb)).2⟩;exact ⟨F1 ++ M2, S1 ++ T2, ⟨v, vs, F1, M2, S1, T2, rfl, rfl, rfl, ⟨_, a0H hz hr1, hs⟩, g2⟩, k1.app h.r k2 n3⟩
             . cases hx
           . cases hx
         . cases hx
       . cases hr
     | val agg ty => obtain ⟨M, T, g1, k1⟩ := ih (i + 1) ts vs hts' hl' hk' d us hr hn; exact ⟨M, T, ⟨v, vs, rfl, g1⟩, k1⟩
     | rptr ty => obtain ⟨M, T, g1, k1⟩ := ih (i + 1) ts vs hts' hl' hk' d us hr hn; exact ⟨M, T, ⟨v, vs, rfl, g1⟩, k1⟩
     | tk agg ty m => obtain ⟨M, T, g1, k1⟩ := ih (i + 1) ts vs hts' hl' hk' d us hr hn; exact ⟨M, T, ⟨v, vs, rfl, g1⟩, k1⟩
     | fnx s => obtain ⟨M, T, g1, k1⟩ := ih (i + 1) ts vs hts' hl' hk' d us hr hn; exact ⟨M, T, ⟨v, vs, rfl, g1⟩, k1⟩
     | pfn s => obtain ⟨M, T, g1, k1⟩ := ih (i + 1) ts vs hts' hl' hk' d us hr hn; exact ⟨M, T, ⟨v, vs, rfl, g1⟩, k1⟩
     | wp ty m =>
       simp only [a1D] at hr;split at hr
       . rename_i x q y u' hx hy;simp only [Option.some.injEq, Prod.mk.injEq] at hr;obtain ⟨rfl, rfl⟩ := hr;obtain ⟨n1, n2, n3⟩ := a2Q hn;obtain ⟨M2, T2, g2, k2⟩ := ih (i + 1) ts vs hts' hl' hk' y u' hy n2;obtain ⟨v', S, A, hv, ht, hf⟩ := h.temps.2 i t (by simpa using hts 0 t rfl);have hkv := hk 0 v rfl (by simp [kpOf]);simp only [Nat.add_zero] at hkv;rw [hkv] at hv;obtain rfl := Option.some.inj hv;obtain ⟨cs, hcs, hcl, -, hA, g1⟩ := a4r h ht hx;have hshr := h.r.shr q _ hcs;have k1 : Back E G [q] (G q).F (G q).S := ⟨fun b hb => ⟨q, by simp, hb⟩, fun b hb => .inl (hshr b hb).1, h.r.nodup q, fun b hb hb' => (hshr b hb').1 q hb, fun b hb => (hshr b hb).2⟩;exact ⟨(G q).F ++ M2, (G q).S ++ T2, ⟨v, vs, (G q).F, M2, (G q).S, T2, rfl, rfl, rfl, g1, g2⟩, k1.app h.r k2 n3⟩
       . cases hr
end Go.Vm
end
section
namespace Go.Vm
variable {P : Program}
theorem b2P {rs : List (Nat × Root)} {G : Nat -> RG} {w : World} : ∀ (ts : List TV) (vs : List Value) (S A : List Nat), a1y P rs G w ts vs S A -> ts.length = vs.length /\ ∀ (i : Nat) (t : TV), ts[i]? = some t -> ∃ v S' A', vs[i]? = some v /\ TRep P rs G w t v S' A' /\ (∀ b ∈ S', b ∈ S) /\ (∀ b ∈ A', b ∈ A) := by
 intro ts;induction ts with
 | nil => rintro vs S A ⟨rfl, rfl, rfl⟩; exact ⟨rfl, by simp⟩
 | cons t ts ih =>
   rintro vs S A ⟨v, vs', S1, S2, A1, A2, rfl, rfl, rfl, h1, h2⟩;obtain ⟨k1, k2⟩ := ih _ _ _ h2;refine ⟨by simp [k1], fun i t' ht => ?_⟩;cases i with
   | zero =>
     simp only [List.getElem?_cons_zero, Option.some.injEq] at ht;subst ht;exact ⟨v, S1, A1, rfl, h1, by simp +contextual, by simp +contextual⟩
   | succ i =>
     obtain ⟨u, S', A', k3, k4, k5, k6⟩ := k2 i t' (by simpa using ht);exact ⟨u, S', A', by simpa using k3, k4, fun b hb => by simp [k5 b hb], fun b hb => by simp [k6 b hb]⟩
theorem a6k {w : World} : ∀ (ps : List PS) (d : Ins ps) (vs : List Value) (M S A : List Nat), a1L P w ps d vs M S A -> vs.length = ps.length := by
 intro ps;induction ps with
 | nil => rintro d vs M S A ⟨rfl, _⟩; rfl
 | cons p ps ih =>
   rintro d vs M S A ⟨v, vs', M1, M2, S1, S2, A1, A2, rfl, -, -, -, -, h⟩;simp [ih _ _ _ _ _ h]
theorem b0a {w : World} : ∀ (ps : List PS) (d : Ins ps) (vs : List Value) (M S A : List Nat), a1L P w ps d vs M S A -> ∀ b ∈ S, b < w.heap.size := by
 intro ps;induction ps with
 | nil => rintro d vs M S A ⟨_, _, rfl, _⟩; simp
 | cons p ps ih =>
   rintro d vs M S A ⟨v, vs', M1, M2, S1, S2, A1, A2, rfl, rfl, rfl, rfl, h1, h2⟩ b hb;simp only [List.mem_append] at hb;rcases hb with hb | hb
   . cases p with
     | val agg t => obtain ⟨_, _, us, hr, _⟩ := h1; exact a2H _ hr b (.inr hb)
     | rptr t =>
       obtain ⟨_, ad, us, _, _, hlt, hr, rfl⟩ := h1;simp only [List.mem_cons] at hb;rcases hb with rfl | hb
       . exact hlt
       . exact a2H _ hr b (.inr hb)
     | wr agg t m => obtain ⟨_, _, us, hr, _⟩ := h1; exact a2H _ hr b (.inr hb)
     | tk agg t m => obtain ⟨_, us, hr, _⟩ := h1; exact a2H _ hr b (.inr hb)
     | fnx s => obtain ⟨_, f, caps, _, _, hlt, _⟩ := h1; exact hlt b hb
     | pfn s =>
       obtain ⟨_, ad, u, S0, _, _, hlt, ⟨f, caps, _, _, hl2, _⟩, rfl⟩ := h1;simp only [List.mem_cons] at hb;rcases hb with rfl | hb
       . exact hlt
       . exact hl2 b hb
     | wp t m => obtain ⟨_, us, b', F, arr, e, _, hr, _⟩ := h1; exact a2H _ hr b (.inr hb)
   . exact ih _ _ _ _ _ h2 b hb
theorem kpOf_lt : ∀ (ps : List PS) (i j : Nat), j ∈ kpOf ps i -> i ≤ j /\ j < i + ps.length := by
 intro ps;induction ps with
 | nil => intro i j h; cases h
 | cons p ps ih =>
   intro i j h;cases p <;> simp only [kpOf, List.mem_cons] at h
   case wr agg t m =>
     rcases h with rfl | h
     . simp
     . have := ih _ _ h; simp only [List.length_cons]; omega
   case wp t m =>
     rcases h with rfl | h
     . simp
     . have := ih _ _ h; simp only [List.length_cons]; omega
   all_goals (have := ih _ _ h; simp only [List.length_cons]; omega)
theorem a8g {E : Env} {σ : St} {a : Act} {w : World} {G : Nat -> RG} {c : Ctx} (ht : TabOK P c.tab) (h : Rel P E σ a w G) : ∀ (res : List ResultVar) (ts : List TV), a5o c σ res = some ts -> ∃ vs S A, a1y P σ.rs G w ts vs S A /\ Fine2 E G S A ∧
   ∀ (f : ResultVar -> Sem Value), (∀ u, f (.tmp u) = pure (a.tmps.getD u undef)) -> (∀ u t, f (.cell u t) = (do loadVar t (← asAddr (a.tmps.getD u undef)))) -> (res.mapM f).run P w = .ok vs w := by
 intro res;induction res with
 | nil =>
   intro ts hr;simp only [a5o, Option.some.injEq] at hr;subst hr;exact ⟨[], [], [], ⟨rfl, rfl, rfl⟩, Fine2.nil _ _, fun f _ _ => by simp⟩
 | cons x res ih =>
   intro ts hr;cases x with
   | cell b T =>
     simp only [a5o] at hr;split at hr
     case h_2 => cases hr
     rename_i t ts' hl hts;obtain rfl := (Option.some.inj hr);obtain ⟨vs, S, A, h1, h2, h3⟩ := ih ts' hts;obtain ⟨ad, v, S1, A1, hv, hrun, hx, hf⟩ := load_tv ht h (x := .tmp b) hl;refine ⟨_, S1 ++ S, A1 ++ A, ⟨v, vs, S1, S, A1, A, rfl, rfl, rfl, hx, h1⟩, a4F hf h2, fun f hf' hc => ?_⟩;have hv' : a.tmps.getD b undef = .pointer (some ad) := hv;rw [List.mapM_cons, hc, hv'];simp [asAddr, hrun, h3 f hf' hc]
   | tmp t =>
     simp only [a5o] at hr;split at hr
     case h_2 => cases hr
     rename_i ts' hts;obtain rfl := (Option.some.inj hr);obtain ⟨vs, S, A, h1, h2, h3⟩ := ih ts' hts;obtain ⟨S1, A1, hx, hf⟩ := a0w h (.tmp t);refine ⟨_, S1 ++ S, A1 ++ A, ⟨a.tmps.getD t undef, vs, S1, S, A1, A, rfl, rfl, rfl, hx, h1⟩, a4F hf h2, fun f hf' hc => ?_⟩;simp [List.mapM_cons, hf', h3 f hf' hc]
theorem b1b : ∀ (n i : Nat) (t : TV), (a8v n)[i]? = some t -> t = .dead := by
 intro n;induction n with
 | zero => intro i t h; simp [a8v] at h
 | succ n ih =>
   intro i t h;cases i with
   | zero => simp only [a8v, List.getElem?_cons_zero, Option.some.injEq] at h; exact h.symm
   | succ i => simp only [a8v, List.getElem?_cons_succ] at h; exact ih i t h
theorem a4m : ∀ (n : Nat), (a8v n).length = n := by
 intro n;induction n with
 | zero => rfl
 | succ n ih => simp [a8v, ih]
theorem a2f : ∀ (ps : List PS) (d : Ins ps) (i : Nat), (a1F ps d i).length = ps.length := by
 intro ps;induction ps with
 | nil => intro d i; rfl
 | cons p ps ih => intro d i; cases p <;> simp [a1F, ih]
theorem b3Q {f : FuncId} {fn : Func} {code : Code} (hf : P.funcs[f]? = some fn) (hbody : fn.body = some code) (hname : (fn.name == "runtime.NumGoroutine") = false) {s : Sig} {g : Cfg} (hctx : CtxOK P g.c) (hkp : g.kp = kpOf s.ps 0) {nt : Nat} (hnt : fn.ntmps = nt) (hle : s.ps.length ≤ nt)
   {res : List ResultVar} (hres : fn.results = res.toArray) {F : Ins s.ps -> Option (Outs s.outs × Muts s.ps)}
   (hF : ∀ d r, F d = some r -> ∃ k, a1G g (finK g.c s res) (runT g (finK g.c s res) k) big [.code code] (a5S s.ps d nt) = some r) : a2u P ⟨f, s, F⟩ := by
 refine ⟨⟨fn, hf, by simp [hbody], hname⟩, fun d r hFd w vs M S A hargs hMn hMS => ?_⟩;obtain ⟨k, hk⟩ := hF d r hFd;have hvl := a6k _ _ _ _ _ _ hargs;have hSlt := b0a _ _ _ _ _ _ hargs;have hAS := a2a _ _ _ _ _ _ hargs;let E : Env := ⟨w, M, A ++ M, fun b hb => by simp [hb]⟩;obtain ⟨G, S', A', g1, g2, g3, g4, g5, g6, g7, g8⟩ := b2m s.ps d vs M S A 0 hargs hMn;have hfree : ∀ b ∈ S, ∀ q, b ∉ (G q).F := fun b hb q hq => hMS b (g5 q b hq).1 hb;let a : Act := { tmps := vs.toArray ++ Array.replicate (fn.ntmps - vs.toArray.size) undef, defers := [] };have hrel : Rel P E (a5S s.ps d nt) a w G := by
   refine ⟨rfl, ⟨?_, fun i t ht => ?_⟩, ⟨fun q x hx => (g4 q x hx).1, fun q b hb => (g5 q b hb).2, g6, ?_, g7, fun q x hx b hb => ?_, fun q b hb => .inr (g5 q b hb).1, fun b _ _ => rfl, Bel.refl _⟩⟩
   . simp [a, a5S, a2f, a4m, hvl, hnt]
   . obtain ⟨k1, k2⟩ := b2P _ _ _ _ g1;simp only [a5S] at ht ⊢;rw [List.getElem?_append] at ht;split at ht
     . rename_i hlt;obtain ⟨v, S1, A1, k3, k4, k5, k6⟩ := k2 i t ht;refine ⟨v, S1, A1, ?_, k4, ⟨fun b hb => hfree b (g2 b (k5 b hb)), fun b hb hlt => ?_⟩⟩
       . rw [a2f, <- hvl] at hlt;simp only [a];rw [Array.getElem?_append_left (by simpa using hlt)];simpa using k3
       . show b ∈ A ++ M;simp [g3 b (k6 b hb)]
     . rename_i hlt;have hd := b1b _ _ _ ht;subst hd;have hi : i - (a1F s.ps d 0).length < nt - s.ps.length := by
         rcases Nat.lt_or_ge (i - (a1F s.ps d 0).length) (nt - s.ps.length) with h | h
         . exact h
         . rw [List.getElem?_eq_none (by rw [a4m]; exact h)] at ht; cases ht
       rw [a2f] at hi hlt;have hia : i < a.tmps.size := by simp [a, hvl, hnt]; omega
       exact ⟨a.tmps[i], [], [], by simp [hia], ⟨rfl, rfl⟩, Fine2.nil _ _⟩
   . exact ⟨4 * (0 + s.ps.length), fun q hq => g8 q (.inr hq)⟩
   . obtain ⟨h1, h2⟩ := (g4 q x hx).2 b hb;refine ⟨hfree b h1, fun _ => ?_⟩;show b ∈ A ++ M;simp [h2]
 let kv : List (Nat × Value) := (kpOf s.ps 0).map fun i => (i, vs.getD i undef);have hkv : (kpOf s.ps 0) = kv.map (·.1) := by simp only [kv, List.map_map]; exact (List.map_id _).symm
 have hkeep : Keep kv a := by
   intro p hp;simp only [kv, List.mem_map] at hp;obtain ⟨i, hi, rfl⟩ := hp;have hlt := (kpOf_lt _ _ _ hi).2;simp only [Nat.zero_add] at hlt;rw [<- hvl] at hlt;simp only [a];rw [Array.getElem?_append_left (by simpa using hlt)];simp [hlt]
 have hfin : FinOK P E kv (fun r a' w' => a'.defers = [] /\ ∃ v, (results fn a'.tmps).run P w' = .ok v w' /\ PostC w s r vs M A (.returned v) w') (finK g.c s res) := by
   intro σ r a' w' G' hr hrel' hkeep';refine ⟨hrel'.defers, ?_⟩;unfold finK at hr;split at hr
   . cases hr
   rename_i ts hts;split at hr
   case h_2 => cases hr
   rename_i x u y u' hx hy;split at hr
   case h_2 => cases hr
   rename_i hnd;obtain rfl := Option.some.inj hr;obtain ⟨n1, n2, n3⟩ := a2Q hnd;obtain ⟨us, So, Ao, h1, h2, h3⟩ := a8g hctx.tab hrel' res ts hts;obtain ⟨F1, T1, k1, k2⟩ := a6J hrel' s.outs ts us So Ao h1 h2 x u hx n1;obtain ⟨M1, T2, k3, k4⟩ := a6I hrel' (args := vs) s.ps 0 σ.ts vs (fun j t hj => by simpa using hj) hvl (fun j v hj hjk => by
     simp only [Nat.zero_add] at hjk ⊢;have := hkeep' (j, vs.getD j undef) (by simp only [kv, List.mem_map]; exact ⟨j, hjk, rfl⟩);simp only [] at this;rw [this];simp [List.getD_eq_getElem?_getD, hj]) y u' hy n2
   have hback := k2.app hrel'.r k4 n3;refine ⟨retV us, ?_, us, F1, T1, M1, T2, rfl, k1, k3, hback.nodup, fun b hb => ?_, fun b hb => ⟨fun hbF => hback.dis b hbF hb, fun hlt => ?_⟩, fun b hb hbM => hrel'.r.frame b hb hbM, hrel'.r.base⟩
   . unfold results;rw [hres, List.mapM_toArray];simp only [Sem.run_bind, Sem.run_map];rw [h3 _ (fun u => rfl) (fun u t => rfl)]
     match us with
     | [] => simp [retV]
     | [v] => simp [retV]
     | v :: v' :: us => simp [retV]
   . obtain ⟨q, -, hq⟩ := hback.own b hb;exact hrel'.r.own q b hq
   . have := hback.inA b hb hlt;have : b ∈ A ++ M := this;simpa using this
 have hreach := a3C hctx (hkp.trans hkv) hfin (b1H hctx (hkp.trans hkv) hfin k) big [.code code] (a5S s.ps d nt) r a w G hk hrel hkeep;intro cs;let b : Frame := { (default : Frame) with fn := f, kind := .normal };have henter : Frame.enter P f vs.toArray .normal = b.at a [.code code] := by
   simp [Frame.enter, Frame.at, hf, hbody, b, a]
 obtain ⟨a', w', todo', hs, hd, v, hr, hp⟩ := hreach b cs;rw [<- henter] at hs;exact ⟨.returned v, w', _, hp, hs, rfl, rfl, hd, rfl, fn, hf, hr⟩
end Go.Vm
end
section
namespace Go.Vm
variable {P : Program}
def a2U : List (Nat × TInfo) -> Tab
 | [], _ => none
 | p :: l, T => match Nat.decEq p.1 T with
   | .isTrue _ => some p.2
   | .isFalse _ => a2U l T
def val1 : Value -> Value -> Bool
 | .int k n, .int k' n' => (match decEq k k' with
   | .isTrue _ => true
   | .isFalse _ => false) && (match Int.decEq n n' with
   | .isTrue _ => true
   | .isFalse _ => false)
 | .bool a, .bool b => a == b
 | .slice none 0 0, .slice none 0 0 => true
 | .nilFunc, .nilFunc => true
 | _, _ => false
def b3U : List Value -> List Value -> Bool
 | [], [] => true
 | x :: xs, y :: ys => val1 x y && b3U xs ys
 | _, _ => false
def zeroB : Option Value -> Value -> Bool
 | some (.agg xs), .agg ys => b3U xs.toList ys.toList
 | some x, y => val1 x y
 | none, _ => false
def aggB : TypeDesc -> Bool
 | .struct _ => true
 | .array _ _ => true
 | _ => false
def a4Y (P : Program) : List (Nat × Nat × Bool) -> List Field -> Bool
 | [], [] => true
 | (off, sz, ag) :: l, f :: fs => Nat.beq f.offset off && (match P.info? f.type with
     | some inf => Nat.beq inf.size sz
     | none => false) && Nat.blt 0 sz && (match P.underlying f.type with
     | some d => aggB d == ag
     | none => false) && a4Y P l fs
 | _, _ => false
def tyB : Ty -> Ty -> Bool
 | .int k, .int k' => match decEq k k' with
   | .isTrue _ => true
   | .isFalse _ => false
 | .bool, .bool => true
 | .pair a b, .pair c d => tyB a c && tyB b d
 | .sl a, .sl b => tyB a b
 | _, _ => false
def a9M (P : Program) (tab : Tab) (i : TInfo) (d : TypeDesc) : Bool := match i.agg with
 | true => match d with
   | .struct fields => a4Y P i.fs fields.toList
   | _ => false
 | false => (match i.fs with
   | [] => true
   | _ => false) && match i.t, d with
   | .sl t, .slice e => Nat.beq e i.elem && (match tab e with
     | some j => tyB j.t t
     | none => false)
   | .int k, .int k' => (match decEq k k' with
     | .isTrue _ => true
     | .isFalse _ => false)
   | .bool, .bool => true
   | .any, .func .. => true
   | _, _ => false
def rowB (P : Program) (tab : Tab) (p : Nat × TInfo) : Bool := match P.info? p.1, P.underlying p.1 with
 | some inf, some d => Nat.beq inf.size p.2.t.sz && Nat.blt 0 inf.bytes && Nat.ble inf.bytes 256 && zeroB inf.zero (a6q p.2) && (p.2.agg || Nat.beq p.2.t.sz 1) && (aggB d == p.2.agg) && a9M P tab p.2 d
 | _, _ => false
def tabB (P : Program) (l : List (Nat × TInfo)) : Bool := allB (rowB P (a2U l)) l
theorem a6z : ∀ {l : List (Nat × TInfo)} {T : Nat} {i : TInfo}, a2U l T = some i -> (T, i) ∈ l := by
 intro l;induction l with
 | nil => intro T i h; cases h
 | cons p l ih =>
   intro T i h;simp only [a2U] at h;split at h
   . rename_i he _;obtain rfl := Option.some.inj h;subst he;simp
   . simp [ih h]
theorem b2U {x y : Value} (h : val1 x y = true) : x = y := by
 unfold val1 at h;split at h
 . rename_i k n k' n';simp only [Bool.and_eq_true] at h;obtain ⟨h1, h2⟩ := h;split at h1
   . rename_i he _; split at h2
     . rename_i hf _; rw [he, hf]
     . cases h2
   . cases h1
 . rename_i a b; simp only [beq_iff_eq] at h; rw [h]
 . rfl
 . rfl
 . cases h
theorem b3V : ∀ {xs ys : List Value}, b3U xs ys = true -> xs = ys := by
 intro xs;induction xs with
 | nil => intro ys h; cases ys with
   | nil => rfl
   | cons y ys => cases h
 | cons x xs ih =>
   intro ys h;cases ys with
   | nil => cases h
   | cons y ys =>
     simp only [b3U, Bool.and_eq_true] at h;rw [b2U h.1, ih h.2]
theorem b3W {x : Option Value} {y : Value} (h : zeroB x y = true) : x = some y := by
 unfold zeroB at h;split at h
 . rename_i xs ys; rw [show xs = ys from Array.ext' (b3V h)]
 . rw [b2U h]
 . cases h
theorem b2R : ∀ {s t : Ty}, tyB s t = true -> s = t := by
 intro s;induction s with
 | int k =>
   intro t h;cases t with
   | int k' =>
     simp only [tyB] at h;split at h
     . rename_i he _; rw [he]
     . cases h
   | _ => cases h
 | bool => intro t h; cases t <;> first | rfl | cases h
 | any => intro t h; cases t <;> cases h
 | pair a b iha ihb =>
   intro t h;cases t with
   | pair c d =>
     simp only [tyB, Bool.and_eq_true] at h;rw [iha h.1, ihb h.2]
   | _ => cases h
 | sl a ih =>
   intro t h;cases t with
   | sl b => rw [ih h]
   | _ => cases h
theorem a9N : ∀ {l : List (Nat × Nat × Bool)} {fs : List Field}, a4Y P l fs = true -> ∀ (f : Nat) (off sz : Nat) (ag : Bool), l[f]? = some (off, sz, ag) →
   ∃ (fd : Field) (d : TypeDesc), fs[f]? = some fd /\ fd.offset = off /\ (∃ inf, P.info? fd.type = some inf /\ inf.size = sz) /\ sz ≠ 0 /\ P.underlying fd.type = some d /\ aggB d = ag := by
 intro l;induction l with
 | nil => intro fs _ f off sz ag h; simp at h
 | cons p l ih =>
   intro fs h f off sz ag hf;obtain ⟨o, s, g⟩ := p;cases fs with
   | nil => cases h
   | cons fd fs =>
     simp only [a4Y, Bool.and_eq_true] at h;obtain ⟨⟨⟨⟨h1, h2⟩, h3⟩, h4⟩, h5⟩ := h;cases f with
     | succ f => exact ih h5 f off sz ag (by simpa using hf)
     | zero =>
       simp only [List.getElem?_cons_zero, Option.some.injEq, Prod.mk.injEq] at hf;obtain ⟨rfl, rfl, rfl⟩ := hf;split at h2
       . rename_i inf hinf;split at h4
         . rename_i d hd;refine ⟨fd, d, rfl, Nat.eq_of_beq_eq_true h1, ⟨inf, hinf, Nat.eq_of_beq_eq_true h2⟩, ?_, hd, by simpa using h4⟩;have := Nat.le_of_ble_eq_true h3;omega
         . cases h4
       . cases h2
theorem a9O : ∀ {l : List (Nat × Nat × Bool)} {fs : List Field}, a4Y P l fs = true -> fs.length = l.length := by
 intro l;induction l with
 | nil => intro fs h; cases fs with
   | nil => rfl
   | cons f fs => cases h
 | cons p l ih =>
   intro fs h;obtain ⟨o, s, g⟩ := p;cases fs with
   | nil => cases h
   | cons fd fs =>
     simp only [a4Y, Bool.and_eq_true] at h;simp [ih h.2]
theorem tab_ok {l : List (Nat × TInfo)} (h : tabB P l = true) : TabOK P (a2U l) := by
 have base : ∀ T i, a2U l T = some i -> ∃ inf d, P.info? T = some inf /\ P.underlying T = some d /\ inf.size = i.t.sz /\ 0 < inf.bytes /\ inf.bytes ≤ 256 /\ inf.zero = some (a6q i) /\ (i.agg = false -> i.t.sz = 1) /\ aggB d = i.agg /\ a9M P (a2U l) i d = true := by
   intro T i hi;have := a0Y h (T, i) (a6z hi);unfold rowB at this;split at this
   . rename_i inf d h1 h2;simp only [Bool.and_eq_true] at this;obtain ⟨⟨⟨⟨⟨⟨k1, k2⟩, k3⟩, k4⟩, k5⟩, k6⟩, k7⟩ := this;refine ⟨inf, d, h1, h2, Nat.eq_of_beq_eq_true k1, Nat.le_of_ble_eq_true k2, Nat.le_of_ble_eq_true k3, b3W k4, fun ha => ?_, by simpa using k6, k7⟩;rw [ha] at k5;exact Nat.eq_of_beq_eq_true (by simpa using k5)
   . cases this
 refine ⟨fun T i hi => ?_, fun T i hi ha => ?_, fun T i hi => ?_, fun T t e fs hi => ?_, fun T i f off sz ag hi hf => ?_, fun T i hi hne => ?_, fun T i hi ht ha => ?_, fun T k e fs hi => ?_⟩
 . obtain ⟨inf, d, h1, _, h3, h4, h5, h6, _⟩ := base T i hi;exact ⟨inf, h1, h3, h4, h5, h6⟩
 . obtain ⟨inf, d, _, _, _, _, _, _, h7, _⟩ := base T i hi;exact h7 ha
 . obtain ⟨inf, d, _, h2, _, _, _, _, _, h8, _⟩ := base T i hi;exact ⟨d, h2, by rw [<- h8]; cases d <;> rfl⟩
 . obtain ⟨inf, d, _, h2, _, _, _, _, _, h8, h9⟩ := base T _ hi;simp only [a9M, Bool.and_eq_true] at h9;obtain ⟨-, h9⟩ := h9;cases d with
   | slice e' =>
     simp only [Bool.and_eq_true] at h9;obtain ⟨k1, k2⟩ := h9;have he := Nat.eq_of_beq_eq_true k1;subst he;split at k2
     . rename_i j hj; exact ⟨h2, j, hj, b2R k2⟩
     . cases k2
   | _ => cases h9
 . obtain ⟨inf, d, _, h2, _, _, _, _, _, h8, h9⟩ := base T i hi;unfold a9M at h9;split at h9
   . split at h9
     . rename_i fields;obtain ⟨fd, d', k1, k2, k3, k4, k5, k6⟩ := a9N h9 f off sz ag hf;exact ⟨fields, fd, d', h2, by simpa using k1, k2, k3, k4, k5, by rw [<- k6]; cases d' <;> rfl⟩
     . cases h9
   . simp only [Bool.and_eq_true] at h9;have := h9.1;split at this
     . rename_i he; rw [he] at hf; simp at hf
     . cases this
 . obtain ⟨inf, d, _, h2, _, _, _, _, _, h8, h9⟩ := base T i hi;unfold a9M at h9;split at h9
   . split at h9
     . rename_i fields; exact ⟨fields, h2, by simpa using a9O h9⟩
     . cases h9
   . simp only [Bool.and_eq_true] at h9;have := h9.1;cases hfs : i.fs with
     | nil => exact absurd hfs hne
     | cons f fs => simp [hfs] at this
 . obtain ⟨inf, d, _, h2, _, _, _, _, _, h8, h9⟩ := base T i hi;unfold a9M at h9;rw [ha, ht] at h9;simp only [Bool.and_eq_true] at h9;have := h9.2;cases d <;> first | exact h2 | cases this
 . obtain ⟨inf, d, _, h2, _, _, _, _, _, h8, h9⟩ := base T _ hi;simp only [a9M, Bool.and_eq_true] at h9;have := h9.2;cases d with
   | int k' =>
     simp only [] at this;split at this
     . rename_i he _; rw [h2, <- he]
     . cases this
   | _ => cases this
end Go.Vm
end
section
namespace Go.Vm
variable {P : Program}
def a4d (P : Program) (t : Ty) (off : Nat) (f : Field) : Bool := (match String.decEq f.name "_" with
 | .isTrue _ => false
 | .isFalse _ => true) && Nat.beq f.offset off && (match t, P.underlying f.type with
 | .int _, some (.int _) => true
 | .bool, some .bool => true
 | _, _ => false)
def a4E (P : Program) : Ty -> Nat -> List Field -> Bool
 | .pair a b, off, f :: fs => a4d P a off f && a4E P b (off + 1) fs
 | t, off, [f] => a4d P t off f
 | _, _, _ => false
def b3b (P : Program) (tab : Tab) (T : TypeId) : Bool := match tab T, P.underlying T with
 | some i, some (.struct fields) => a4E P i.t 0 fields.toList && !P.stoodInHeld T && !P.eqGuardType P.depth T
 | _, _ => false
theorem a6u {t : Ty} {off : Nat} {f : Field} (h : a4d P t off f = true) {w : World} {x y : t.den} {vs us : List Value} (hx : Rep w t .sh x vs [] []) (hy : Rep w t .sh y us [] []) {xs ys : Array Value} (hxs : ∀ v, vs[0]? = some v -> xs[off]? = some v) (hys : ∀ v, us[0]? = some v -> ys[off]? = some v) (d : Nat) :
   f.name ≠ "_" /\ vs.length = 1 /\ us.length = 1 /\ ∃ a b, (part f.type xs f.offset).run P w = .ok a w /\ (part f.type ys f.offset).run P w = .ok b w /\ (Op.equalIn (d + 1) f.type a b).run P w = .ok (eqT t x y) w := by
 simp only [a4d, Bool.and_eq_true] at h;obtain ⟨⟨h1, h2⟩, h3⟩ := h;have hn : f.name ≠ "_" := by
   split at h1
   . cases h1
   . assumption
 have ho := Nat.eq_of_beq_eq_true h2;refine ⟨hn, ?_⟩;cases t with
 | int k =>
   try simp only [] at h3
   split at h3
   . rename_i k' k2 hk hu;cases hk;obtain ⟨rfl, -, -⟩ := hx;obtain ⟨rfl, -, -⟩ := hy;have hagg : (isAgg f.type).run P w = .ok false w := by unfold isAgg; rw [Sem.run_bind, run_underlying hu w]; rfl
     refine ⟨rfl, rfl, .int k x, .int k y, ?_, ?_, ?_⟩
     . simp [part, hagg, ho, hxs _ rfl]
     . simp [part, hagg, ho, hys _ rfl]
     . simp only [Op.equalIn, Sem.run_bind, run_underlying hu, Result.andThen_ok, if_true];rfl
   . rename_i hk _; cases hk
   . cases h3
 | bool =>
   try simp only [] at h3
   split at h3
   . rename_i hk _; cases hk
   . rename_i hk hu;obtain ⟨rfl, -, -⟩ := hx;obtain ⟨rfl, -, -⟩ := hy;have hagg : (isAgg f.type).run P w = .ok false w := by unfold isAgg; rw [Sem.run_bind, run_underlying hu w]; rfl
     refine ⟨rfl, rfl, .bool x, .bool y, ?_, ?_, a2t hu d x y w⟩
     . simp [part, hagg, ho, hxs _ rfl]
     . simp [part, hagg, ho, hys _ rfl]
   . cases h3
 | pair a b => simp at h3
 | any => simp at h3
 | sl t => simp at h3
theorem a8w (d : Nat) : ∀ (t : Ty) (off : Nat) (fs : List Field), a4E P t off fs = true -> ∀ (w : World) (x y : t.den) (vs us : List Value), Rep w t .sh x vs [] [] -> Rep w t .sh y us [] [] -> ∀ (xs ys : Array Value),
   (∀ (j : Nat) (v : Value), vs[j]? = some v -> xs[off + j]? = some v) -> (∀ (j : Nat) (v : Value), us[j]? = some v -> ys[off + j]? = some v) -> (Op.eqFields (d + 1) xs ys fs).run P w = .ok (eqT t x y) w := by
 have last : ∀ (t : Ty) (off : Nat) (f : Field), a4d P t off f = true -> ∀ (w : World) (x y : t.den) (vs us : List Value), Rep w t .sh x vs [] [] -> Rep w t .sh y us [] [] -> ∀ (xs ys : Array Value),
   (∀ (j : Nat) (v : Value), vs[j]? = some v -> xs[off + j]? = some v) -> (∀ (j : Nat) (v : Value), us[j]? = some v -> ys[off + j]? = some v) -> (Op.eqFields (d + 1) xs ys [f]).run P w = .ok (eqT t x y) w := by
   intro t off f h w x y vs us hx hy xs ys hxs hys;obtain ⟨hn, _, _, a, b, h1, h2, h3⟩ := a6u h hx hy (hxs 0) (hys 0) d;simp only [Op.eqFields, if_pos hn, Sem.run_bind, h1, h2, h3, Result.andThen_ok];cases eqT t x y <;> simp
 intro t;induction t with
 | int k =>
   intro off fs h
   match fs, h with
   | [f], h => exact last _ off f h
 | bool =>
   intro off fs h
   match fs, h with
   | [f], h => exact last _ off f h
 | any =>
   intro off fs h
   match fs, h with
   | [f], h => exact last _ off f h
 | sl t _ =>
   intro off fs h
   match fs, h with
   | [f], h => exact last _ off f h
 | pair a b iha ihb =>
   intro off fs h w x y vs us hx hy xs ys hxs hys
   match fs, h with
   | f :: fs, h =>
     simp only [a4E, Bool.and_eq_true] at h;obtain ⟨v1, v2, F1, F2, S1, S2, rfl, hF, hS, h1, h2⟩ := hx;obtain ⟨u1, u2, G1, G2, T1, T2, rfl, hG, hT, k1, k2⟩ := hy;obtain ⟨rfl, rfl⟩ := List.append_eq_nil_iff.1 hF.symm;obtain ⟨rfl, rfl⟩ := List.append_eq_nil_iff.1 hS.symm;obtain ⟨rfl, rfl⟩ := List.append_eq_nil_iff.1 hG.symm;obtain ⟨rfl, rfl⟩ := List.append_eq_nil_iff.1 hT.symm;have hlen : v1.length = 1 /\ u1.length = 1 := by
       have e1 := a0e h1;have e2 := a0e k1;have : a.sz = 1 := by
         have := h.1;simp only [a4d, Bool.and_eq_true] at this;cases a <;> first | rfl | (have h3 := this.2; simp at h3)
       omega
     obtain ⟨hn, _, _, p, q, g1, g2, g3⟩ := a6u h.1 h1 k1 (xs := xs) (ys := ys) (fun v hv => hxs 0 v (by rw [List.getElem?_append_left (by omega)]; exact hv)) (fun v hv => hys 0 v (by rw [List.getElem?_append_left (by omega)]; exact hv)) d;have hrec := ihb (off + 1) fs h.2 w x.2 y.2 v2 u2 h2 k2 xs ys (fun j v hv => by
       have := hxs (1 + j) v (by rw [List.getElem?_append_right (by omega), hlen.1, Nat.add_sub_cancel_left]; exact hv)
       rwa [show off + 1 + j = off + (1 + j) by omega]) (fun j v hv => by
       have := hys (1 + j) v (by rw [List.getElem?_append_right (by omega), hlen.2, Nat.add_sub_cancel_left]; exact hv)
       rwa [show off + 1 + j = off + (1 + j) by omega])
     simp only [Op.eqFields, if_pos hn, Sem.run_bind, g1, g2, g3, Result.andThen_ok, eqT];cases eqT a x.1 y.1
     . simp
     . simpa using hrec
theorem eq_ok {tab : Tab} {T : TypeId} (h : b3b P tab T = true) : EqOK P tab T := by
 intro i hi ha hno;unfold b3b at h;split at h
 . rename_i i' fields hi' hu;rw [hi] at hi';obtain rfl := Option.some.inj hi';simp only [Bool.and_eq_true, Bool.not_eq_true'] at h;obtain ⟨⟨h1, h2⟩, h3⟩ := h;refine ⟨h3, fun w x y vs us hx hy => ?_⟩;have hf : P.fieldsOf T = fields := by simp [Program.fieldsOf, hu]
   have := run_equalIn_struct (P := P) w 9999 T vs.toArray us.toArray (by rw [hf]; exact hu) h2;rw [show (10000 : Nat) = 9999 + 1 from rfl, this, hf];exact a8w 9998 i.t 0 fields.toList h1 w x y vs us hx hy _ _ (fun j v hv => by simpa using hv) (fun j v hv => by simpa using hv)
 . cases h
end Go.Vm
end
section
namespace Go.Vm
variable {P : Program} {R : Type}
def sub : List Nat -> Code -> Code
 | [], c => c
 | 0 :: p, .seq a _ => sub p a
 | 1 :: p, .seq _ b => sub p b
 | 0 :: p, .cond _ a _ => sub p a
 | 1 :: p, .cond _ _ b => sub p b
 | 0 :: p, .block _ b => sub p b
 | 0 :: p, .loop b => sub p b
 | _, c => c
open Classical in
noncomputable def anyK (M : Nat -> Option R) : Option R := if h : ∃ k r, M k = some r then M (Classical.choose h) else none
theorem b1T {M : Nat -> Option R} {r : R} (h : anyK M = some r) : ∃ k, M k = some r := by
 unfold anyK at h;split at h
 . exact ⟨_, h⟩
 . cases h
theorem b1S {M : Nat -> Option R} (hm : ∀ k k' r, k ≤ k' -> M k = some r -> M k' = some r) {k : Nat} {r : R} (h : M k = some r) : anyK M = some r := by
 unfold anyK;have hex : ∃ k r, M k = some r := ⟨k, r, h⟩;rw [dif_pos hex];obtain ⟨r', hr'⟩ := Classical.choose_spec hex;rw [hr'];have h1 := hm _ (max k (Classical.choose hex)) _ (Nat.le_max_left _ _) h;have h2 := hm _ (max k (Classical.choose hex)) _ (Nat.le_max_right _ _) hr';rw [h1] at h2;exact h2.symm
theorem b0Z (x : Option R) : anyK (fun _ => x) = x := by
 cases x with
 | none =>
   unfold anyK;rw [dif_neg];rintro ⟨_, _, h⟩; cases h
 | some r => exact b1S (M := fun _ => some r) (fun _ _ _ _ h => h) (k := 0) rfl
noncomputable def a8n (g : Cfg) (fin : St -> Option R) (code : Code) (σ : St) (k : Nat) : Option R := a1G g fin (runT g fin k) big [.code code] σ
theorem b3K {g : Cfg} {fin : St -> Option R} {code : Code} {σ : St} (k k' : Nat) (r : R) (h : k ≤ k') (hr : a8n g fin code σ k = some r) : a8n g fin code σ k' = some r :=
 a5u (runT_le h) _ _ _ _ hr
def Ev (M : Nat -> Option R) (r : R) : Prop := ∃ k0, ∀ k, k0 ≤ k -> M k = some r
theorem Ev.const (r : R) : Ev (fun _ => some r) r := ⟨0, fun _ _ => rfl⟩
theorem Ev.of_eq {M N : Nat -> Option R} {r : R} (h : Ev N r) (e : ∀ k, M k = N k) : Ev M r := by
 obtain ⟨k0, h⟩ := h;exact ⟨k0, fun k hk => (e k).trans (h k hk)⟩
theorem Ev.succ {M N : Nat -> Option R} {r : R} (h : Ev N r) (e : ∀ k, M (k + 1) = N k) : Ev M r := by
 obtain ⟨k0, h⟩ := h;refine ⟨k0 + 1, fun k hk => ?_⟩;obtain ⟨k', rfl⟩ : ∃ k', k = k' + 1 := ⟨k - 1, by omega⟩;exact (e k').trans (h k' (by omega))
theorem Ev.any {M : Nat -> Option R} {r : R} (hm : ∀ k k' r, k ≤ k' -> M k = some r -> M k' = some r) (h : Ev M r) : anyK M = some r := by
 obtain ⟨k0, h⟩ := h;exact b1S hm (h k0 (Nat.le_refl _))
theorem Ev.run {g : Cfg} {fin : St -> Option R} {code : Code} {σ : St} {M : Nat -> Option R} {r : R} (e : ∀ k, a8n g fin code σ k = M k) (h : Ev M r) : anyK (a8n g fin code σ) = some r :=
 Ev.any (fun k k' r => b3K k k' r) (h.of_eq e)
theorem b2K {f : FuncId} {fn : Func} {code : Code} (hf : P.funcs[f]? = some fn) (hbody : fn.body = some code) (hname : (fn.name == "runtime.NumGoroutine") = false) {s : Sig} {g : Cfg} (hctx : CtxOK P g.c) (hkp : g.kp = kpOf s.ps 0) {nt : Nat} (hnt : fn.ntmps = nt) (hle : s.ps.length ≤ nt)
   {res : List ResultVar} (hres : fn.results = res.toArray) : a2u P ⟨f, s, fun d => anyK (a8n g (finK g.c s res) code (a5S s.ps d nt))⟩ :=
 b3Q hf hbody hname hctx hkp hnt hle hres fun d r h => b1T h
theorem Ev.uniq {M : Nat -> Option R} {r r' : R} (h : Ev M r) (h' : Ev M r') : r = r' := by
 obtain ⟨a, h⟩ := h;obtain ⟨b, h'⟩ := h';have h1 := h (max a b) (Nat.le_max_left _ _);rw [h' (max a b) (Nat.le_max_right _ _)] at h1;exact (Option.some.inj h1).symm
open Classical in
noncomputable def anyE (M : Nat -> Option R) : Option R := if h : ∃ r, Ev M r then some (Classical.choose h) else none
theorem anyE_of {M : Nat -> Option R} {r : R} (h : Ev M r) : anyE M = some r := by
 unfold anyE;have hex : ∃ r, Ev M r := ⟨r, h⟩;rw [dif_pos hex, (Classical.choose_spec hex).uniq h]
theorem b1R {M : Nat -> Option R} {r : R} (h : anyE M = some r) : ∃ k, M k = some r := by
 unfold anyE at h;split at h
 . rename_i hex;obtain ⟨k, hk⟩ := Classical.choose_spec hex;exact ⟨k, by rw [<- h]; exact hk k (Nat.le_refl _)⟩
 . cases h
def recF {α β : Type} (step : (α -> Option β) -> α -> Option β) : Nat -> α -> Option β
 | 0, _ => none
 | q + 1, d => step (recF step q) d
theorem sound_rec {f : FuncId} {s : Sig} {step : (Ins s.ps -> Option (Outs s.outs × Muts s.ps)) -> Ins s.ps -> Option (Outs s.outs × Muts s.ps)} (hE : a5G P f) (h : ∀ self, a2u P ⟨f, s, self⟩ -> a2u P ⟨f, s, step self⟩) :
   a2u P ⟨f, s, fun d => anyE fun q => recF step q d⟩ := by
 have hq : ∀ q, a2u P ⟨f, s, recF step q⟩ := by
   intro q;induction q with
   | zero => exact ⟨hE, fun d r hr => by cases hr⟩
   | succ q ih => exact h _ ih
 refine ⟨hE, fun d r hr => ?_⟩;obtain ⟨q, hr⟩ := b1R hr;exact (hq q).2 d r hr
theorem nilM {α : Type} {p : α -> Prop} : ∀ x ∈ ([] : List α), p x := List.forall_mem_nil _
theorem consM {α : Type} {p : α -> Prop} {a : α} {l : List α} (h : p a /\ ∀ x ∈ l, p x) : ∀ x ∈ a :: l, p x := List.forall_mem_cons.2 h
theorem eq_any {R : Type} {g : Cfg} {fin : St -> Option R} {code : Code} {σ : St} {v : Option R} (h : ∀ k, a8n g fin code σ k = v) : anyK (a8n g fin code σ) = v := (congrArg anyK (funext h)).trans (b0Z _)
theorem sound_k {f : FuncId} {fn : Func} {code : Code} {s : Sig} {g : Cfg} {nt : Nat} {res : List ResultVar} (hf : P.funcs[f]? = some fn) (hctx : CtxOK P g.c) (hbody : fn.body = some code := by kernel_rfl) (hname : (fn.name == "runtime.NumGoroutine") = false := by kernel_rfl) (hkp : g.kp = kpOf s.ps 0 := by kernel_rfl) (hnt : fn.ntmps = nt := by kernel_rfl) (hle : Nat.ble s.ps.length nt = true := by kernel_rfl)
   (hres : fn.results = res.toArray := by kernel_rfl) : a2u P ⟨f, s, fun d => anyK (a8n g (finK g.c s res) code (a5S s.ps d nt))⟩ :=
 b2K hf hbody hname hctx hkp hnt (Nat.le_of_ble_eq_true hle) hres
end Go.Vm
end
section
namespace Go.Vm
variable {P : Program}
def a7q : List (Bool × Ty) -> List PS
 | [] => []
 | p :: l => .val p.1 p.2 :: a7q l
def a9Q (caps : List PS) : (ins : List (Bool × Ty)) -> Vals ins -> Ins caps -> Ins (a7q ins ++ caps)
 | [], _, y => y
 | _ :: l, d, y => (d.1, a9Q caps l d.2 y)
def a6R : List PS -> Bool
 | [] => true
 | .val _ _ :: l => a6R l
 | .rptr _ :: l => a6R l
 | .fnx _ :: l => a6R l
 | .pfn _ :: l => a6R l
 | _ :: _ => false
theorem a7D {w w' : World} (hz : w.heap.size ≤ w'.heap.size) : ∀ (ps : List PS) (y : Ins ps) (vs : List Value) (S A : List Nat), a6R ps = true -> a1L P w ps y vs [] S A -> a0W w w' S -> a1L P w' ps y vs [] S A := by
 intro ps;induction ps with
 | nil => intro y vs S A _ h _; exact h
 | cons p ps ih =>
   rintro y vs S A hok ⟨v, vs', M1, M2, S1, S2, A1, A2, rfl, hM, rfl, rfl, h1, h2⟩ hs;obtain ⟨rfl, rfl⟩ := List.append_eq_nil_iff.1 hM.symm;have hs1 : a0W w w' S1 := a0A hs (by simp +contextual);have hs2 : a0W w w' S2 := a0A hs (by simp +contextual);cases p with
   | val agg t =>
     obtain ⟨_, rfl, us, hr, hsh⟩ := h1;exact ⟨v, vs', [], [], A1, S2, A1, A2, rfl, rfl, rfl, rfl, ⟨rfl, rfl, us, a1f _ hr (by simpa using hs1), hsh⟩, ih _ _ _ _ hok h2 hs2⟩
   | rptr t =>
     obtain ⟨_, ad, us, rfl, hc, hlt, hr, rfl⟩ := h1;refine ⟨_, vs', [], [], ad.block :: A1, S2, A1, A2, rfl, rfl, rfl, rfl, ⟨rfl, ad, us, rfl, fun i u hu => ?_, Nat.lt_of_lt_of_le hlt hz, a1f _ hr (a0A hs1 (by simp +contextual)), rfl⟩, ih _ _ _ _ hok h2 hs2⟩;have hq := a1e (w := w) (w' := w') (a := ad.add i) (by rw [a0N]; exact hs1 _ (by simp));rw [hq]; exact hc i u hu
   | fnx s =>
     obtain ⟨_, hf⟩ := h1;exact ⟨v, vs', [], [], S1, S2, A1, A2, rfl, rfl, rfl, rfl, ⟨rfl, a2d hf hs1 hz⟩, ih _ _ _ _ hok h2 hs2⟩
   | pfn s =>
     obtain ⟨_, ad, u, S0, rfl, hc, hlt, hf, rfl⟩ := h1;refine ⟨_, vs', [], [], ad.block :: S0, S2, A1, A2, rfl, rfl, rfl, rfl, ⟨rfl, ad, u, S0, rfl, ?_, Nat.lt_of_lt_of_le hlt hz, a2d hf (a0A hs1 (by simp +contextual)) hz, rfl⟩, ih _ _ _ _ hok h2 hs2⟩;rw [a1e (w := w) (w' := w') (a := ad) (hs1 _ (by simp))]; exact hc
   | wr agg t m => cases hok
   | wp t m => cases hok
   | tk agg t m => cases hok
theorem a7o {w : World} {caps : List PS} {y : Ins caps} {cv : List Value} {S A : List Nat} (h : a1L P w caps y cv [] S A) : ∀ (ins : List (Bool × Ty)) (d : Vals ins) (vs : List Value) (Sa : List Nat), a4W w ins d vs Sa -> a1L P w (a7q ins ++ caps) (a9Q caps ins d y) (vs ++ cv) [] (Sa ++ S) (Sa ++ A) := by
 intro ins;induction ins with
 | nil => rintro d vs Sa ⟨rfl, rfl⟩; exact h
 | cons p l ih =>
   rintro d vs Sa ⟨v, vs', us, S1, S2, rfl, rfl, hr, hsh, h2⟩;refine ⟨v, vs' ++ cv, [], [], S1, S2 ++ S, S1, S2 ++ A, rfl, rfl, by simp, by simp, ⟨rfl, rfl, us, hr, hsh⟩, ih d.2 vs' S2 h2⟩
theorem sound_fr {f : FuncId} {ps : List PS} {agg : Bool} {t : Ty} {m : Mode} {F : Ins ps -> Option (Outs [(OutK.val agg, t, m)] × Muts ps)} (h : a2u P ⟨f, ⟨ps, [(.val agg, t, m)]⟩, F⟩) : a2u P ⟨f, ⟨ps, [(.fr agg, t, m)]⟩, F⟩ := h
theorem sound_clo {n : FuncId} {s : FSig} {caps : List PS} {F : Ins (a7q s.ins ++ caps) -> Option (Outs s.outs × Muts (a7q s.ins ++ caps))} (hok : a6R caps = true) (h : a2u P ⟨n, ⟨a7q s.ins ++ caps, s.outs⟩, F⟩) :
   a2Y P ⟨n, s, caps, fun y d => (F (a9Q caps s.ins d y)).map (·.1)⟩ := by
 refine ⟨h.1, fun y w cv S A hc w' hs hz d r vs Sa hG hv => ?_⟩;simp only [Option.map_eq_some_iff] at hG;obtain ⟨⟨r', mu⟩, hF, rfl⟩ := hG;have hargs := a7o (a7D hz caps y cv S A hok hc hs) s.ins d vs Sa hv;have hcall := h.2 _ _ hF w' (vs ++ cv) [] _ _ hargs (by simp) (by simp);rw [show (vs ++ cv).toArray = vs.toArray ++ cv.toArray by simp] at hcall;refine hcall.mono fun e w2 hp => ?_;obtain ⟨us, F', S', M', T, he, hout, hmut, hnd, hFM, hST, hsame, hbase⟩ := hp;refine ⟨us, F', S', he, hout, (List.nodup_append.1 hnd).1, fun b hb => ?_, fun b hb => ?_, fun b hb => hsame b hb (by simp), hbase⟩
 . exact (hFM b (by simp [hb])).resolve_right (by simp)
 . obtain ⟨h1, h2⟩ := hST b (by simp [hb]);refine ⟨fun hbF => h1 (by simp [hbF]), fun hlt => (h2 hlt).resolve_right (by simp)⟩
end Go.Vm
end
section
namespace Go.Vm
variable {H : Type} {enc' : TypeId × Value -> H} {P : Program}
def wfT : (t : Ty) -> t.den -> Prop
 | .int k, x => (Lit.int k x).wf = true
 | .bool, _ => True
 | .pair a b, x => wfT a x.1 /\ wfT b x.2
 | .sl t, xs => List.length xs ≤ maxLen /\ ∀ x ∈ xs, wfT t x
 | .any, _ => True
def a4L (P : Program) (tab : Tab) : Ty -> Nat -> List Field -> Bool
 | .pair a b, off, f :: g :: fs => Nat.beq f.offset off && Nat.beq (P.cellsOf f.type) a.sz && (match tab f.type with
   | some i => tyB i.t a
   | none => false) && a4L P tab b (off + a.sz) (g :: fs)
 | t, off, [f] => Nat.beq f.offset off && Nat.beq (P.cellsOf f.type) t.sz && (match tab f.type with
   | some i => tyB i.t t
   | none => false)
 | _, _, _ => false
def anyB : Ty -> Bool
 | .any => true
 | _ => false
def a5d (P : Program) (tab : Tab) (p : Nat × TInfo) : Bool := Nat.beq (P.cellsOf p.1) p.2.t.sz && !anyB p.2.t && (match p.2.agg, P.underlying p.1 with
 | true, some (.struct fields) => a4L P tab p.2.t 0 fields.toList
 | true, _ => false
 | false, _ => true)
def b3v (P : Program) (l : List (Nat × TInfo)) : Bool := allB (a5d P (a2U l)) l
theorem repL_of {w : World} {t : Ty} : ∀ (n : Nat) (css : Nat -> List Value), (∀ i, i < n -> ∃ x S, Rep w t .sh x (css i) [] S /\ (∀ b ∈ S, b < w.heap.size) /\ wfT t x) →
   ∃ xs S, RepL (Rep w t .sh) xs ((List.range n).flatMap css) [] S /\ (∀ b ∈ S, b < w.heap.size) /\ xs.length = n /\ ∀ x ∈ xs, wfT t x := by
 intro n;induction n with
 | zero => intro css _; exact ⟨[], [], ⟨by simp, rfl, rfl⟩, by simp, rfl, by simp⟩
 | succ n ih =>
   intro css h;obtain ⟨xs, S, h1, h2, h3, h4⟩ := ih css fun i hi => h i (by omega);obtain ⟨x, S', k1, k2, k3⟩ := h n (by omega);refine ⟨xs ++ [x], S ++ S', ?_, fun b hb => ?_, by simp [h3], fun y hy => ?_⟩
   . rw [List.range_succ, List.flatMap_append];refine (a0b xs [x] _ _ _).2 ⟨_, _, [], [], S, S', rfl, rfl, rfl, h1, ?_⟩;simp only [List.flatMap_cons, List.flatMap_nil, List.append_nil];exact ⟨css n, [], [], [], S', [], by simp, rfl, by simp, k1, ⟨rfl, rfl, rfl⟩⟩
   . simp only [List.mem_append] at hb; exact hb.elim (h2 b) (k2 b)
   . simp only [List.mem_append, List.mem_singleton] at hy;rcases hy with hy | rfl
     . exact h4 y hy
     . exact k3
theorem b3S {l : List (Nat × TInfo)} (ht : TabOK P (a2U l)) (ho : b3v P l = true) {w : World} {base : Nat} {spare : Nat -> Bool} {held : Bool} : ∀ (fuel T : Nat) (i : TInfo) (cs : List Value) (d : DataW H × List MemPlace), a2U l T = some i →
   DataW.trod enc' P w base spare held fuel T cs = some d -> ∃ x S, Rep w i.t .sh x cs [] S /\ (∀ b ∈ S, b < w.heap.size) /\ wfT i.t x := by
 have row : ∀ T i, a2U l T = some i -> a5d P (a2U l) (T, i) = true := fun T i hi => a0Y ho _ (a6z hi);intro fuel;induction fuel with
 | zero => intro T i cs d _ h; simp [DataW.trod] at h
 | succ fuel ih =>
   intro T i cs d hi h;have hrow := row T i hi;simp only [a5d, Bool.and_eq_true] at hrow;obtain ⟨⟨hcells, hany⟩, hrow⟩ := hrow;have hcells := Nat.eq_of_beq_eq_true hcells;obtain ⟨ag, t, e, fs⟩ := i;cases ag with
   | true =>
     simp only [] at hrow;split at hrow
     case h_2 => cases hrow
     case h_3 => rename_i hx; cases hx
     rename_i fields _ hu;obtain ⟨xs, n, hn, rfl, hl, hlen, hf⟩ := DataW.trod_struct hu h;obtain rfl : fuel = n := by omega
     have key : ∀ (t : Ty) (off : Nat) (fs : List Field), a4L P (a2U l) t off fs = true -> (∀ f ∈ fs, ∃ y, DataW.trod enc' P w base spare held fuel f.type ((cs.drop f.offset).take (P.cellsOf f.type)) = some y) -> ∃ x S, Rep w t .sh x ((cs.drop off).take t.sz) [] S /\ (∀ b ∈ S, b < w.heap.size) /\ wfT t x := by
       have one : ∀ (t : Ty) (off : Nat) (f : Field), (Nat.beq f.offset off && Nat.beq (P.cellsOf f.type) t.sz && (match a2U l f.type with | some i => tyB i.t t | none => false)) = true -> (∃ y, DataW.trod enc' P w base spare held fuel f.type ((cs.drop f.offset).take (P.cellsOf f.type)) = some y) →
           ∃ x S, Rep w t .sh x ((cs.drop off).take t.sz) [] S /\ (∀ b ∈ S, b < w.heap.size) /\ wfT t x := by
         intro t off f h ⟨y, hy⟩;simp only [Bool.and_eq_true] at h;obtain ⟨⟨h1, h2⟩, h3⟩ := h;split at h3
         . rename_i j hj;have htj := b2R h3;subst htj;rw [Nat.eq_of_beq_eq_true h1, Nat.eq_of_beq_eq_true h2] at hy;exact ih f.type j _ y hj hy
         . cases h3
       intro t;induction t with
       | pair a b iha ihb =>
         intro off fs h hy
         match fs, h with
         | [f], h => exact one (.pair a b) off f (by simpa only [a4L] using h) (hy f (by simp))
         | f :: g :: fs, h =>
           simp only [a4L, Bool.and_eq_true] at h;obtain ⟨x, S, h1, h2, h3⟩ := one a off f (by simp only [Bool.and_eq_true]; exact h.1) (hy f (by simp));obtain ⟨y, S', k1, k2, k3⟩ := ihb (off + a.sz) (g :: fs) h.2 fun f' hf' => hy f' (by simp [hf']);refine ⟨(x, y), S ++ S', ⟨_, _, [], [], S, S', ?_, rfl, rfl, h1, k1⟩, fun b hb => ?_, h3, k3⟩
           . rw [Ty.sz, List.take_add, List.drop_drop]
           . simp only [List.mem_append] at hb; exact hb.elim (h2 b) (k2 b)
       | int k =>
         intro off fs h hy
         match fs, h with
         | [f], h => exact one _ off f (by simpa only [a4L] using h) (hy f (by simp))
       | bool =>
         intro off fs h hy
         match fs, h with
         | [f], h => exact one _ off f (by simpa only [a4L] using h) (hy f (by simp))
       | any =>
         intro off fs h hy
         match fs, h with
         | [f], h => exact one _ off f (by simpa only [a4L] using h) (hy f (by simp))
       | sl t _ =>
         intro off fs h hy
         match fs, h with
         | [f], h => exact one _ off f (by simpa only [a4L] using h) (hy f (by simp))
     obtain ⟨x, S, h1, h2, h3⟩ := key t 0 fields.toList hrow fun f hf' => by
       obtain ⟨j, hj⟩ := List.mem_iff_getElem?.1 hf';have hj' : fields[j]? = some f := by simpa using hj
       rw [hf j f hj'];have : j < xs.length := by
         rw [hlen];rcases Nat.lt_or_ge j fields.size with h | h
         . exact h
         . rw [Array.getElem?_eq_none h] at hj'; cases hj'
       exact ⟨xs[j], by simp [this]⟩
     refine ⟨x, S, ?_, h2, h3⟩;rw [List.drop_zero, List.take_of_length_le (by rw [hl, hcells]; exact Nat.le_refl _)] at h1;exact h1
   | false =>
     cases t with
     | int k =>
       obtain ⟨n, rfl, rfl, hwf⟩ := DataW.trod_int (ht.int T k e fs hi) h;exact ⟨n, [], ⟨rfl, rfl, rfl⟩, by simp, hwf⟩
     | bool =>
       obtain ⟨b, rfl, rfl⟩ := DataW.trod_bool (ht.bool T _ hi rfl rfl) h;exact ⟨b, [], ⟨rfl, rfl, rfl⟩, by simp, trivial⟩
     | any => cases hany
     | pair a b =>
       have := ht.plain T _ hi rfl;simp only [Ty.sz] at this;have h1 := a3f a;have h2 := a3f b;omega
     | sl t =>
       obtain ⟨hu, j, hj, rfl⟩ := ht.slice T t e fs hi;have hce : P.cellsOf e = j.t.sz := by
         have := row e j hj;simp only [a5d, Bool.and_eq_true] at this;exact Nat.eq_of_beq_eq_true this.1.1
       rcases DataW.trod_slice hu h with ⟨rfl, _⟩ | ⟨a, len, cap, elems, rest, n, hn, rfl, _, hb, hlc, hcm, hel, hget, _, _⟩
       . exact ⟨[], [], ⟨none, 0, rfl, Nat.le_refl _, .inl ⟨rfl, rfl, rfl, fun h => by cases h⟩⟩, by simp, by simp [wfT], by simp⟩
       . obtain rfl : fuel = n := by omega
         rw [hce] at hget;have each : ∀ i, i < len -> ∃ cs, w.cells? base (a.add (i * j.t.sz)) j.t.sz = some cs /\ ∃ x S, Rep w j.t .sh x cs [] S /\ (∀ b ∈ S, b < w.heap.size) /\ wfT j.t x := by
           intro i hi;have hg := hget i hi;have : i < elems.length := by omega
           rw [List.getElem?_eq_getElem this, Option.bind_eq_some_iff] at hg;obtain ⟨cs, h1, h2⟩ := hg;exact ⟨cs, h1, ih e j cs _ hj h2⟩
         let css : Nat -> List Value := fun i => (w.cells? base (a.add (i * j.t.sz)) j.t.sz).getD [];have hcss : ∀ i, i < len -> w.cells? base (a.add (i * j.t.sz)) j.t.sz = some (css i) := by
           intro i hi;obtain ⟨cs, h1, _⟩ := each i hi;simp only [css, h1, Option.getD_some]
         obtain ⟨xs, S, k1, k2, k3, k4⟩ := repL_of (w := w) (t := j.t) len css fun i hi => by
           obtain ⟨cs, h1, h2⟩ := each i hi;have := hcss i hi;rw [h1] at this;rw [<- Option.some.inj this]; exact h2
         by_cases hl0 : len = 0
         . subst hl0;have : xs = [] := List.eq_nil_of_length_eq_zero k3;subst this;exact ⟨[], [], ⟨some a, cap, rfl, Nat.zero_le _, .inl ⟨rfl, rfl, rfl, fun h => by cases h⟩⟩, by simp, by simp [wfT], by simp⟩
         . have hblk : a.block < w.heap.size := by
             have := World.cells?_block (hcss 0 (by omega)) (a3f j.t)
             rwa [a0N] at this
           refine ⟨xs, a.block :: S, ⟨some a, cap, by rw [k3], by omega, .inr (.inr ⟨rfl, ?_, a, _, S, rfl, fun q v hq => ?_, k1, rfl, rfl⟩)⟩, fun b hb => ?_, ?_, k4⟩
           . intro e; rw [e] at k3; simp at k3; omega
           ·
             have hcl : ∀ i, i < len -> (css i).length = j.t.sz := fun i hi => (World.cells?_some (hcss i hi)).2.1;have flat : ∀ n, n ≤ len -> ∀ q v, ((List.range n).flatMap css)[q]? = some v -> w.cell? (a.add q) = some v := by
               intro n;induction n with
               | zero => intro _ q v h; simp at h
               | succ n ihn =>
                 intro hn q v h;rw [List.range_succ, List.flatMap_append, List.getElem?_append] at h;have hlenn : ((List.range n).flatMap css).length = n * j.t.sz := by
                   have : ∀ m, m ≤ len -> ((List.range m).flatMap css).length = m * j.t.sz := by
                     intro m;induction m with
                     | zero => intro _; simp
                     | succ m ihm =>
                       intro hm;rw [List.range_succ, List.flatMap_append, List.length_append, ihm (by omega)];simp [hcl m (by omega), Nat.add_mul]
                   exact this n (by omega)
                 split at h
                 . exact ihn (by omega) q v h
                 . rename_i hge;rw [hlenn] at hge h;simp only [List.flatMap_cons, List.flatMap_nil, List.append_nil] at h;have hlt : q - n * j.t.sz < j.t.sz := by
                     have hc := hcl n (by omega);rcases Nat.lt_or_ge (q - n * j.t.sz) (css n).length with h' | h'
                     . rw [hc] at h'; exact h'
                     . rw [List.getElem?_eq_none h'] at h; cases h
                   have := (World.cells?_some (hcss n (by omega))).2.2 (q - n * j.t.sz) hlt;rw [a2Z, show n * j.t.sz + (q - n * j.t.sz) = q by omega] at this;rw [this]; exact h
             exact flat len (Nat.le_refl _) q v hq
           . simp only [List.mem_cons] at hb;rcases hb with rfl | hb
             . exact hblk
             . exact k2 b hb
           . show xs.length ≤ maxLen;omega
end Go.Vm
end
section
namespace Go.Vm
open Go.RowKit (Below)
variable {H : Type} {enc' : TypeId × Value -> H} {P : Program}
def parB (tab : Tab) : List PS -> List TypeId -> Bool
 | [], [] => true
 | .val agg t :: ps, T :: Ts => (match tab T with
   | some i => (match Bool.decEq i.agg agg with
     | .isTrue _ => true
     | .isFalse _ => false) && tyB i.t t
   | none => false) && parB tab ps Ts
 | _, _ => false
def wfIns : (ps : List PS) -> Ins ps -> Prop
 | [], _ => True
 | .val _ t :: ps, d => wfT t d.1 /\ wfIns ps d.2
 | _ :: _, _ => False
theorem b1a {v : Value} (h : ∀ cs, v ≠ .agg cs) : v.cells.toList = [v] := by
 cases v <;> first
   | rfl
   | exact absurd rfl (h _)
theorem b2b {l : List (Nat × TInfo)} (ht : TabOK P (a2U l)) (ho : b3v P l = true) {w : World} {T : TypeId} {i : TInfo} (hi : a2U l T = some i) {v : Value} {d : DataW H} {p : List MemPlace}
   (h : DataW.Trod enc' P w 0 (fun _ => true) true T v d p) (hok : Value.okWide P w .any 0 T v ∨ ∃ b, Value.okWide P w .any b T v) : ∃ x vs S, Rep w i.t .sh x vs [] S /\ a0F i.agg vs v /\ (∀ b ∈ S, b < w.heap.size) /\ wfT i.t x := by
 obtain ⟨fuel, hf⟩ := h;obtain ⟨x, S, h1, h2, h3⟩ := b3S ht ho fuel T i _ _ hi hf;refine ⟨x, _, S, h1, ?_, h2, h3⟩;obtain ⟨b, hok⟩ : ∃ b, Value.okWide P w .any b T v := hok.elim (fun h => ⟨0, h⟩) id;obtain ⟨ag, t, e, fs⟩ := i;cases ag with
 | true =>
   obtain ⟨dd, hd, hag⟩ := ht.agg T _ hi;have : ∃ cs, v = .agg cs := by
     unfold Value.okWide at hok;rw [hd] at hok;cases dd <;> simp only [] at hok hag <;> first
       | exact ⟨_, hok.choose_spec.1⟩
       | cases hag
   obtain ⟨cs, rfl⟩ := this;simp [a0F, Value.cells]
 | false =>
   have : ∀ cs, v ≠ .agg cs := by
     intro cs e;subst e;cases t with
     | int k => have := ht.int T k _ fs hi; simp [Value.okWide, this, Cell.okWide, Cell.ok] at hok
     | bool => have := ht.bool T _ hi rfl rfl; simp [Value.okWide, this, Cell.okWide, Cell.ok] at hok
     | sl t => obtain ⟨this, _⟩ := ht.slice T t _ fs hi; simp [Value.okWide, this, Cell.okWide, Cell.ok] at hok
     | any =>
       have := a0Y ho _ (a6z hi);simp [a5d, anyB] at this
     | pair a b =>
       have := ht.plain T _ hi rfl;simp only [Ty.sz] at this;have h1 := a3f a;have h2 := a3f b;omega
   simp only [a0F, Bool.false_eq_true, if_false];exact b1a this
theorem b1V {l : List (Nat × TInfo)} (ht : TabOK P (a2U l)) (ho : b3v P l = true) {w : World} : ∀ (ps : List PS) (Ts : List TypeId) (vs : List Value) (ds : List (DataW H)) (p : List MemPlace), parB (a2U l) ps Ts = true →
   DataW.TrodAll enc' P w 0 (fun _ => true) true Ts vs ds p -> (∀ (j : Nat) t v, Ts[j]? = some t -> vs[j]? = some v -> ∃ b, Value.okWide P w .any b t v) →
   ∃ d S, a1L P w ps d vs [] S S /\ (∀ b ∈ S, b < w.heap.size) /\ wfIns ps d := by
 intro ps;induction ps with
 | nil =>
   intro Ts vs ds p hp h hok;cases Ts with
   | cons T Ts => simp [parB] at hp
   | nil =>
     obtain ⟨rfl, rfl, rfl⟩ := ChangeShapes.trodAll_nil h;exact ⟨(), [], ⟨rfl, rfl, rfl, rfl⟩, by simp, trivial⟩
 | cons q ps ih =>
   intro Ts vs ds p hp h hok;cases Ts with
   | nil => cases q <;> simp [parB] at hp
   | cons T Ts =>
     cases q with
     | val agg t =>
       simp only [parB, Bool.and_eq_true] at hp;obtain ⟨hp1, hp2⟩ := hp;split at hp1
       case h_2 => cases hp1
       rename_i i hi;simp only [Bool.and_eq_true] at hp1;obtain ⟨hag, hty⟩ := hp1;have hag : i.agg = agg := by
         split at hag
         . assumption
         . cases hag
       have hty := b2R hty;obtain ⟨v, vs', d1, ds', p1, q1, rfl, rfl, rfl, h1, h2⟩ := ChangeShapes.trodAll_cons h;obtain ⟨x, us, S, k1, k2, k3, k4⟩ := b2b ht ho hi h1 (.inr (hok 0 T v rfl rfl));obtain ⟨d, S', g1, g2, g3⟩ := ih Ts vs' ds' q1 hp2 h2 fun j t v hj hv => hok (j + 1) t v hj hv;subst hag hty;refine ⟨(x, d), S ++ S', ⟨v, vs', [], [], S, S', S, S', rfl, rfl, rfl, rfl, ⟨rfl, rfl, us, k1, k2⟩, g1⟩, fun b hb => ?_, k4, g3⟩;simp only [List.mem_append] at hb;exact hb.elim (k3 b) (g2 b)
     | _ => simp [parB] at hp
theorem b2c (hl : laidOutB P = true) {W W' : World} (hb : Below W.heap.size W W') : ∀ (Ts : List TypeId) (vs : List Value) (ds : List (DataW H)) (p : List MemPlace), allB (fun T => P.readableRec T && Nat.blt T P.types.size) Ts = true →
   DataW.TrodAll enc' P W 0 (fun _ => true) true Ts vs ds p -> DataW.TrodAll enc' P W' 0 (fun b => decide (b < W.heap.size)) true Ts vs ds p := by
 intro Ts;induction Ts with
 | nil =>
   intro vs ds p _ h;obtain ⟨rfl, rfl, rfl⟩ := ChangeShapes.trodAll_nil h;exact ChangeShapes.trodAll_mk0
 | cons T Ts ih =>
   intro vs ds p hr h;obtain ⟨v, vs', d, ds', p1, q1, rfl, rfl, rfl, h1, h2⟩ := ChangeShapes.trodAll_cons h;have r0 := a0Y hr T (by simp);simp only [Bool.and_eq_true] at r0;obtain ⟨r1, r2⟩ := r0;have r3 : allB (fun T => P.readableRec T && Nat.blt T P.types.size) Ts = true := by
     simp only [allB] at hr;split at hr
     . exact hr
     . cases hr
   have hlt : ∀ x ∈ p1, x.block < W.heap.size := by
     obtain ⟨m, hm⟩ := h1;exact DataW.trod_lt m _ _ _ hm
   exact ⟨p1, q1, Go.RowKit.Below.trod hl r1 (Nat.le_of_ble_eq_true r2) h1 hb hlt, ih vs' ds' q1 r3 h2, rfl⟩
theorem law_calls (hl : laidOutB P = true) {l : List (Nat × TInfo)} (ht : TabOK P (a2U l)) (ho : b3v P l = true) {f : FuncId} {ps : List PS} {m : Mode} {F : Ins ps -> Option (Outs [(OutK.val false, Ty.bool, m)] × Muts ps)} (hS : a2u P ⟨f, ⟨ps, [(.val false, .bool, m)]⟩, F⟩)
   (hpure : ∀ d, wfIns ps d -> ∃ mu, F d = some ((true, ()), mu)) {fn : Func} {Ts : List TypeId} (hTs : fn.params.toList = Ts) (hpar : parB (a2U l) ps Ts = true) (hread : allB (fun T => P.readableRec T && Nat.blt T P.types.size) Ts = true)
   {rt : TypeId} (hrt : fn.resultTypes = #[rt]) (hub : P.underlying rt = some .bool) (s : ChangeSpec) (hv : s.vars = []) (hs : ∀ (ds : List (DataW H)), ds.length = Ts.length -> s.fn H ds = { results := [.lit (.bool true)], args := ds })
   (W : World) (base : Nat) (args : Array Value) (ds gs : List (DataW H)) (before : List MemPlace) (hval : ∀ (j : Nat) t v, fn.params[j]? = some t -> args[j]? = some v -> Value.okWide P W .any base t v)
   (hW : DataW.Whole enc' P fn.params.toList s.vars false W args.toList ds gs before) : Calls P f args W fun e W' => ∃ v, e = .returned v /\ s.post enc' P fn false true false false W args v W' := by
 have hW' := hW;obtain ⟨p, q, hA, hV, rfl, -, -⟩ := hW;rw [hv] at hV;obtain ⟨rfl, rfl⟩ := ChangeShapes.trodVars_none hV;have hA' := hA;rw [hTs] at hA;have hlen : ds.length = Ts.length := by
   have aux : ∀ (Ts : List TypeId) (vs : List Value) (ds : List (DataW H)) (p : List MemPlace), DataW.TrodAll enc' P W 0 (fun _ => true) true Ts vs ds p -> ds.length = Ts.length := by
     intro Ts;induction Ts with
     | nil => intro vs ds p h; obtain ⟨_, rfl, _⟩ := ChangeShapes.trodAll_nil h; rfl
     | cons T Ts ih =>
       intro vs ds p h;obtain ⟨v, vs', d, ds', p1, q1, rfl, rfl, rfl, h1, h2⟩ := ChangeShapes.trodAll_cons h;simp [ih _ _ _ h2]
   exact aux _ _ _ _ hA
 obtain ⟨d, S, h1, h2, h3⟩ := b1V ht ho ps Ts args.toList ds p hpar hA fun j t v hj hvj => ⟨base, hval j t v (by
   rw [<- hTs] at hj;simpa using hj) (by simpa using hvj)⟩
 obtain ⟨mu, hF⟩ := hpure d h3;have hcall := hS.2 d _ hF W args.toList [] S S h1 (by simp) (by simp);simp only [Array.toArray_toList] at hcall;refine hcall.mono fun e W' hp => ?_;obtain ⟨us, F', S', M', T', rfl, hout, hmut, -, -, -, hold, hbel⟩ := hp;obtain ⟨v, vs', F1, F2, S1, S2, rfl, -, -, ⟨ws, ⟨rfl, -, -⟩, hsh⟩, ⟨rfl, -, -⟩⟩ := hout;have hsh : [Value.bool true] = [v] := by simpa [a0F] using hsh
 simp only [List.cons.injEq, and_true] at hsh;subst hsh;have bel : Below W.heap.size W W' := ⟨hbel.os, hbel.tape, hbel.output, hbel.size, fun b hb => hold b hb (by simp)⟩;have hfn := hs (ds ++ []) (by simpa using hlen);refine ⟨.bool true, rfl, ds, [], p ++ [], [], p, [], hW', ?_, ?_, ?_, bel.frame _, fun h => by cases h⟩
 . rw [hfn, hrt];exact ChangeShapes.trodAll_mk1 (Go.RowKit.shut_bool hub _)
 . rw [hfn, List.append_nil, hTs];exact b2c hl bel Ts args.toList ds p hread hA
 . rw [hfn, hv];rfl
end Go.Vm
end
section
namespace Go.Vm
variable {P : Program}
theorem growOK_of {g : FuncId} {E : TypeId} {t : Ty} {z : Value} (hE : ∃ fn, P.funcs[g]? = some fn /\ fn.body.isNone = false /\ (fn.name == "runtime.NumGoroutine") = false) (hzs : z.cells.size = t.sz)
   (h0 : ∀ w, Calls P g #[.slice none 0 0, .int .i64 ((0 : Nat) : Int)] w fun e w' => e = .returned (.slice none 0 0) /\ w' = w)
   (h1 : ∀ w (n : Nat), 0 < n -> n ≤ 1099511627776 -> Calls P g #[.slice none 0 0, .int .i64 (n : Int)] w fun e w' => ∃ G, n ≤ G /\ G ≤ 9223372036854775807 /\ e = .returned (.slice (some ⟨w.heap.size, 0, none⟩) 0 G) /\ w' = w.drew.alloc (.cells (Builtin.zeroCells z.cells n ++ Builtin.zeroCells z.cells (G - n)) E)) : b1O P (g, t) := by
 refine ⟨hE, fun w n hn => ?_⟩;by_cases hz : n = 0
 . subst hz;refine (h0 w).mono fun e w' ⟨he, hw⟩ => ?_;subst he hw;exact ⟨[.slice none 0 0], [], [], rfl, ⟨_, [], [], [], [], [], rfl, rfl, rfl, ⟨[_], ⟨none, 0, rfl, Nat.le_refl _, .inl ⟨rfl, rfl, rfl, fun _ => rfl⟩⟩, rfl⟩, ⟨rfl, rfl, rfl⟩⟩, by simp, by simp, by simp, fun _ _ => rfl, ⟨rfl, rfl, rfl, Nat.le_refl _, Nat.le_refl _⟩⟩
 . refine (h1 w n (by omega) (by simpa [bigN] using hn)).mono fun e w' ⟨G, hG, hG63, he, hw⟩ => ?_;subst he hw;obtain ⟨Z, hZ⟩ : ∃ Z, Z = Builtin.zeroCells z.cells n ++ Builtin.zeroCells z.cells (G - n) := ⟨_, rfl⟩;have hZs : Z.size = G * t.sz := by
     rw [hZ]; simp only [Array.size_append, Go.size_zeroCells, hzs];rw [<- Nat.add_mul]; congr 1; omega
   rw [<- hZ];have hheap : (w.drew.alloc (.cells Z E)).heap = w.heap.push (.cells Z E) := rfl;refine ⟨[.slice (some ⟨w.heap.size, 0, none⟩) 0 G], [w.heap.size], [], rfl, ⟨_, [], [w.heap.size], [], [], [], rfl, rfl, rfl, ⟨[_], ⟨some ⟨w.heap.size, 0, none⟩, G, rfl, Nat.zero_le _, .inr (.inl ⟨rfl, w.heap.size, Z, E, [], Z.toList, [], rfl, ?_, rfl, ⟨?_, ?_⟩, ⟨rfl, rfl, rfl⟩, rfl⟩)⟩, rfl⟩, ⟨rfl, rfl, rfl⟩⟩, by simp, by simp, by simp, fun b hb => ?_, ⟨rfl, rfl, rfl, ?_, Nat.le_succ _⟩⟩
   . rw [hheap]; simp
   . exact hZs
   . unfold maxLen; omega
   . rw [hheap, Array.getElem?_push]; rw [if_neg (by omega)]
   . rw [hheap]; simp
end Go.Vm
end
section
namespace Go.Vm
open Go.Sort (putRow Holds grow putCells mapBlock onCells)
open Go.Proofs (sortWorld OneCell CmpLays1)
variable {P : Program}
abbrev RowT : Ty := .sl (.int .i64)
structure El where
 x : List Int
 v : Value
 F : List Nat
 S : List Nat
theorem b3a {w : World} : ∀ {xs : List (List Int)} {us : List Value} {F S : List Nat}, RepL (Rep w RowT .deep) xs us F S →
   ∃ l : List El, xs = l.map El.x /\ us = l.map El.v /\ F = l.flatMap El.F /\ S = l.flatMap El.S /\ ∀ e ∈ l, Rep w RowT .deep e.x [e.v] e.F e.S := by
 intro xs;induction xs with
 | nil => rintro us F S ⟨rfl, rfl, rfl⟩; exact ⟨[], rfl, rfl, rfl, rfl, by simp⟩
 | cons x xs ih =>
   rintro us F S ⟨v1, v2, F1, F2, S1, S2, rfl, rfl, rfl, h1, h2⟩;obtain ⟨l, rfl, rfl, rfl, rfl, hl⟩ := ih h2;have hh : ∃ v, v1 = [v] := by obtain ⟨A, c, h, _⟩ := h1; exact ⟨_, h⟩
   obtain ⟨v, rfl⟩ := hh;refine ⟨⟨x, v, F1, S1⟩ :: l, rfl, rfl, rfl, rfl, fun e he => ?_⟩;simp only [List.mem_cons] at he;rcases he with rfl | he
   . exact h1
   . exact hl e he
theorem b3h {w : World} : ∀ (l : List El), (∀ e ∈ l, Rep w RowT .deep e.x [e.v] e.F e.S) -> RepL (Rep w RowT .deep) (l.map El.x) (l.map El.v) (l.flatMap El.F) (l.flatMap El.S)
 | [], _ => ⟨rfl, rfl, rfl⟩
 | e :: l, h => ⟨[e.v], _, e.F, _, e.S, _, rfl, rfl, rfl, h e (by simp), b3h l fun a ha => h a (by simp [ha])⟩
theorem grow_of {W W' : World} (hb : Bel W W') (hs : ∀ b, b < W.heap.size -> W'.heap[b]? = W.heap[b]?) : ∃ q os, W' = grow (W.drewN q) os := by
 refine ⟨W'.drawn - W.drawn, W'.heap.extract W.heap.size W'.heap.size, ?_⟩;obtain ⟨h1, h2, h3, h4, h5⟩ := hb;obtain ⟨hp, tp, dr, o, ou⟩ := W';simp only at h1 h2 h3 h4 h5 hs;subst h1 h2 h3;unfold grow World.drewN;congr 1
 . apply Array.ext_getElem?;intro i;simp only [Array.getElem?_append];split
   . exact hs i (by assumption)
   . rw [Array.getElem?_extract];split
     . congr 1; omega
     . rw [Array.getElem?_eq_none]; omega
 . simp only; omega
section
variable {α : Type} [Inhabited α] {enc : α -> Value} {w : World} {b m : Nat} {dk : Array α} {os : Array Obj}
theorem a9x (hb : b < w.heap.size) : ∀ k, k < w.heap.size -> k ≠ b -> (sortWorld enc w b 0 m dk os).heap[k]? = w.heap[k]? := by
 intro k hk hne;unfold sortWorld grow putRow mapBlock;simp only [Array.getElem?_append, Array.size_modify, Array.getElem?_modify];have h1 : (Sort.ahead w m).heap = w.heap := rfl;rw [h1, if_pos hk, if_neg (Ne.symm hne)]
theorem b2N : w.heap.size ≤ (sortWorld enc w b 0 m dk os).heap.size := by
 unfold sortWorld grow putRow mapBlock;have h1 : (Sort.ahead w m).heap = w.heap := rfl;simp [h1]
theorem b0P : Bel w (sortWorld enc w b 0 m dk os) := ⟨rfl, rfl, rfl, b2N, Nat.le_add_right _ _⟩
theorem b0Q {arr : Array Value} {e : TypeId} {us sp : List Value} (hb : w.heap[b]? = some (.cells arr e (0, 0))) (ha : arr.toList = us ++ sp) (hs : dk.size = us.length) :
   ∃ arr', (sortWorld enc w b 0 m dk os).heap[b]? = some (.cells arr' e (0, 0)) /\ arr'.toList = dk.toList.map enc ++ sp := by
 have hlt : b < w.heap.size := by
   rcases Nat.lt_or_ge b w.heap.size with h | h
   . exact h
   . rw [Array.getElem?_eq_none h] at hb; cases hb
 refine ⟨putCells enc 0 dk arr, ?_, ?_⟩
 . unfold sortWorld grow putRow mapBlock;simp only [Array.getElem?_append, Array.size_modify, Array.getElem?_modify];have h1 : (Sort.ahead w m).heap = w.heap := rfl;rw [h1, if_pos hlt, if_pos trivial, hb]; rfl
 . have hsz : arr.size = us.length + sp.length := by rw [<- Array.length_toList, ha, List.length_append]
   apply List.ext_getElem?;intro i;rw [Array.getElem?_toList];simp only [putCells, Array.getElem?_mapIdx];by_cases hi : i < dk.size
   . rw [List.getElem?_append_left (by simpa using hi), Array.getElem?_eq_getElem (by omega)];simp [hi]
   . rw [List.getElem?_append_right (by simp; omega)];have h2 : arr[i]? = sp[i - us.length]? := by rw [<- Array.getElem?_toList, ha, List.getElem?_append_right (by omega)]
     rw [h2];simp only [List.length_map, Array.length_toList, hs];cases sp[i - us.length]? with
     | none => rfl
     | some v => simp; omega
end
abbrev fn2 (t : Ty) : FSig := ⟨[(false, RowT), (false, RowT)], [(.val false, t, .deep)]⟩
section
variable {α : Type} [Inhabited α] {enc : α -> Value} {w : World} {b : Nat} {arr : Array Value} {et : TypeId} {sp : List Value}
structure ElG (w : World) (b : Nat) (e : El) : Prop where
 rep : Rep w RowT .deep e.x [e.v] e.F e.S
 notF : b ∉ e.F
 notS : b ∉ e.S
theorem a8m (hb : w.heap[b]? = some (.cells arr et (0, 0))) {t : Ty} {g : Vals (fn2 t).ins -> Option (Outs (fn2 t).outs)} {f : FuncId} {caps : Array Value} {S2 A2 : List Nat}
   (hfn : ∀ w', a0W w w' S2 -> w.heap.size ≤ w'.heap.size -> ∀ d r vs Sa, g d = some r -> a4W w' (fn2 t).ins d vs Sa -> Calls P f (vs.toArray ++ caps) w' (b2X w' (fn2 t).outs r (Sa ++ A2)))
   (hbS : b ∉ S2) (hSlt : ∀ c ∈ S2, c < w.heap.size) {x y : El} (hx : ElG w b x) (hy : ElG w b y) {r : t.den} (hg : g (x.x, y.x, ()) = some (r, ())) (m : Nat) (dk : Array α) (os : Array Obj) :
   Calls P f (#[x.v, y.v] ++ caps) (sortWorld enc w b 0 m dk os) fun e w' => (∃ v F S, Rep w' t .deep r [v] F S /\ e = .returned v) /\ ∃ q os', w' = grow ((sortWorld enc w b 0 m dk os).drewN q) os' := by
 have hlt : b < w.heap.size := by
   rcases Nat.lt_or_ge b w.heap.size with h | h
   . exact h
   . rw [Array.getElem?_eq_none h] at hb; cases hb
 have hold := fun k hk hne => a9x (enc := enc) (m := m) (dk := dk) (os := os) hlt k hk hne;have row : ∀ z : El, ElG w b z -> ∃ S', Rep (sortWorld enc w b 0 m dk os) RowT .sh z.x [z.v] [] S' := fun z ⟨h1, h2, h3⟩ => by
   obtain ⟨S', h4, -⟩ := a8f _ (a1f _ h1 (w' := sortWorld enc w b 0 m dk os) fun c hc => hold c (a2H _ h1 c (by simpa using hc)) (by rintro rfl; simp only [List.mem_append] at hc; exact hc.elim h2 h3));exact ⟨S', h4⟩
 obtain ⟨S1, h1⟩ := row x hx;obtain ⟨S3, h3⟩ := row y hy;have hc := hfn (sortWorld enc w b 0 m dk os) (fun c hc => hold c (hSlt c hc) (by rintro rfl; exact hbS hc)) b2N (x.x, y.x, ()) (r, ()) [x.v, y.v] (S1 ++ (S3 ++ [])) hg
   ⟨_, _, _, S1, _, rfl, rfl, h1, rfl, ⟨_, _, _, S3, [], rfl, rfl, h3, rfl, rfl, rfl⟩⟩
 refine hc.mono fun e w' hp => ?_;obtain ⟨us, F, S, rfl, hout, -, -, -, hs, hbel⟩ := hp;obtain ⟨v, vs', F1, F2, T1, T2, rfl, -, -, ⟨ws, hr, hsh⟩, ⟨rfl, -, -⟩⟩ := hout;have hsh : ws = [v] := by simpa [a0F] using hsh
 subst hsh;exact ⟨⟨v, F1, T1, hr, rfl⟩, grow_of hbel hs⟩
end
theorem a8l {w : World} {b : Nat} {arr : Array Value} {e : TypeId} {l : List El} {sp : List Value} {c : Nat} (hb : w.heap[b]? = some (.cells arr e (0, 0))) (ha : arr.toList = l.map El.v ++ sp) (hs : arr.size = c) (hm : c ≤ maxLen) (hlen : l.length ≤ c)
   (hl : ∀ e ∈ l, Rep w RowT .deep e.x [e.v] e.F e.S) : Rep w (.sl RowT) .deep (l.map El.x) [.slice (some ⟨b, 0, none⟩) l.length c] (b :: l.flatMap El.F) (l.flatMap El.S) :=
 ⟨_, c, by simp, by simpa using hlen, .inr (.inl ⟨rfl, b, arr, e, l.map El.v, sp, l.flatMap El.F, rfl, hb, ha, ⟨by simpa [Ty.sz] using hs, hm⟩, b3h l hl, rfl⟩)⟩
abbrev encE (l : List El) (i : Fin l.length) : Value := (l.get i).v
section
open Go.Proofs (SW Row1)
variable {α : Type} [Inhabited α] {enc : α -> Value} {w0 W : World} {blk off : Nat} {dk d0 : Array α}
def a9B (P : Program) (g : Nat) (cb : Array Value) (enc : α -> Value) (eq : α -> α -> Bool) (blk off size : Nat) (w : World) : Prop :=
 ∀ (m : Nat) (os : Array Obj) (dk : Array α), dk.size = size -> ∀ x y : α,
   Calls P g (#[enc x, enc y] ++ cb) (sortWorld enc w blk off m dk os) fun e w' => e = .returned (.bool (eq x y)) /\ ∃ q os', w' = grow ((sortWorld enc w blk off m dk os).drewN q) os'
theorem sw_eql {g : Nat} {cb : Array Value} {eq : α -> α -> Bool} {size : Nat} (h : SW enc w0 blk off dk W) (hC : a9B P g cb enc eq blk off size w0) (hs : dk.size = size) (x y : α) (n : Nat) (os : Array Obj) :
   Calls P g (#[enc x, enc y] ++ cb) (grow (W.drewN n) os) fun e w' => e = .returned (.bool (eq x y)) /\ ∃ q os', w' = grow ((grow (W.drewN n) os).drewN q) os' := by
 obtain ⟨m, os0, hw⟩ := h.grown n os;rw [hw];exact hC m os0 dk hs x y
theorem sw_set (h : SW enc w0 blk off dk W) (hblk : blk < w0.heap.size) (i : Nat) (x : α) (hi : i < dk.size) : SW enc w0 blk off (dk.setIfInBounds i x) (W.setCell ⟨blk, off + i, none⟩ (enc x)) := by
 obtain ⟨m, os, rfl⟩ := h;refine ⟨m, os, ?_⟩;unfold sortWorld;rw [<- Go.Sort.putRow_set enc _ blk off dk i x hi, Go.Sort.setCell_eq, Go.Sort.setCell_eq];unfold mapBlock grow;simp only;rw [Go.Sort.modify_append_left _ _ _ _ (by simpa [putRow, mapBlock] using hblk)]
open Go.Lib (lay) in
theorem sw_lay (hblk : blk < w0.heap.size) : ∀ (xs : List α) (dk : Array α) (W : World) (k : Nat), SW enc w0 blk off dk W -> k + xs.length ≤ dk.size -> SW enc w0 blk off (lay dk k xs) (W.setCells blk (off + k) (xs.map enc))
 | [], _, _, _, h, _ => h
 | x :: r, d, W, k, h, hl => by
   have hl' : k + (r.length + 1) ≤ d.size := by simpa using hl
   simp only [List.map_cons, World.setCells, lay];rw [show off + k + 1 = off + (k + 1) by omega];exact sw_lay hblk r _ _ (k + 1) (sw_set h hblk k x (by omega)) (by simp; omega)
end
def a2C (p : List Int) : List (List Int) -> List (List Int)
 | [] => []
 | x :: l => if x = p then a2C x l else x :: a2C x l
def a7G : List (List Int) -> List (List Int)
 | [] => []
 | x :: l => x :: a2C x l
theorem a4C (y : List Int) : ∀ (l : List (List Int)) (p : List Int), a2C p (l ++ [y]) = a2C p l ++ (if y = l.getLastD p then [] else [y])
 | [], p => by simp [a2C]
 | x :: l, p => by
   have := a4C y l x;simp only [List.cons_append, a2C, this, List.getLastD_cons];split <;> simp
theorem b0d (y : List Int) (l : List (List Int)) : a7G (l ++ [y]) = a7G l ++ (if l.getLast? = some y then [] else [y]) := by
 cases l with
 | nil => simp [a7G, a2C]
 | cons x l =>
   simp only [List.cons_append, a7G, a4C];have : (x :: l).getLast? = some (l.getLastD x) := by
     rw [List.getLast?_cons, List.getLastD_eq_getLast?]
   rw [this];by_cases h : y = l.getLastD x
   . rw [if_pos h, if_pos (by rw [h])]
   . rw [if_neg h, if_neg fun h2 => h (Option.some.inj h2).symm]
section
variable {α : Type} [Inhabited α]
open Go.Lib (keptUpTo keptUpTo_succ)
def a5U (cx : α -> List Int) (d : Array α) (j : Nat) : Bool := decide (j = 0 ∨ cx d[j]! ≠ cx d[j - 1]!)
theorem a6V (cx : α -> List Int) (d : Array α) : ∀ m, m ≤ d.size -> (keptUpTo (a5U cx d) d m).map cx = a7G ((d.toList.take m).map cx)
 | 0, _ => rfl
 | m + 1, h => by
   have hlt : m < d.toList.length := by rw [Array.length_toList]; omega
   rw [keptUpTo_succ, List.map_append, a6V cx d m (by omega), List.take_succ_eq_append_getElem hlt, List.map_append, List.map_singleton, b0d];congr 1;have e1 : d.toList[m] = d[m]! := by rw [getElem!_pos d m (by omega)]; simp
   rw [e1];by_cases hm : m = 0
   . subst hm; simp [a5U]
   . have e2 : ((d.toList.take m).map cx).getLast? = some (cx d[m - 1]!) := by
       rw [List.getLast?_eq_getElem?];simp only [List.length_map, List.length_take, Array.length_toList, Nat.min_eq_left (show m ≤ d.size by omega), List.getElem?_map, List.getElem?_take];rw [if_pos (by omega), Array.getElem?_toList, Array.getElem?_eq_getElem (by omega), getElem!_pos d (m - 1) (by omega)]; rfl
     rw [e2];by_cases hk : cx d[m]! = cx d[m - 1]!
     . have hkp : a5U cx d m = false := by simp [a5U, hm, hk]
       rw [hkp, hk]; simp
     . have hkp : a5U cx d m = true := by simp [a5U, hm, hk]
       have hk2 : ¬ some (cx d[m - 1]!) = some (cx d[m]!) := fun h2 => hk (Option.some.inj h2).symm;rw [hkp, if_neg hk2]; simp
theorem b2o (kp : Nat -> Bool) (d : Array α) : (keptUpTo kp d d.size).Sublist d.toList := by
 have h : (keptUpTo kp d d.size).Sublist ((List.range d.size).map (d[·]!)) := (List.filter_sublist).map _
 rwa [Go.Lib.range_map_get] at h
end
end Go.Vm
end
