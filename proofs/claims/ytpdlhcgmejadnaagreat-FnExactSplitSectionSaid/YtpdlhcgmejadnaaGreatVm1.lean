/- What a machine on values does is what the program does. -/
import Derived.Below
import Derived.Laws.CopyRow
import Derived.Laws.MakeOwn
import Derived.Laws.OwnMore
import Derived.Laws.Rows
import Derived.Laws.Slices
import Derived.Orders
import Derived.RowKit3
open Option.some renaming injEq->za,inj->zd
open List renaming mem_append->zb,mem_cons->zc,nodup_append->zg,nodup_cons->zi,length_take->zj,mem_cons_of_mem->zk,length_drop->zm,getElem?_eq_none->zn,take_append_drop->zo,nil_append->zp,getElem?_take->zq,getElem?_drop->zr,getElem?_eq_getElem->zt,append_nil->zu,replicate->zx,length_append->zy,getElem?_append_right->zz,take_of_length_le->zC,drop_append_of_le_length->zD,drop_of_length_le->zE,append_assoc->zG,getElem?_map->zI,getElem?_append_left->zM,eq_nil_of_length_eq_zero->zQ,getElem?_cons_zero->zR,append_eq_nil_iff->zT,drop_drop->zU,replicate_succ->zV,flatMap_cons->zW,flatten_cons->zX,drop_append->zZ,map_append->z1,drop_zero->z2,take_left->z3
open Prod.mk renaming injEq->ze
open Nat renaming decEq->zf,lt_of_lt_of_le->zl,ne_of_beq_eq_false->zw,decLe->zA,lt_or_ge->zB,le_refl->zH,eq_of_beq_eq_true->zJ,le_trans->zK,zero_le->zO,beq->zP,min_eq_left->z0,add_assoc->z4
open List.cons renaming injEq->zh
open Bool renaming false_eq_true->zs,or_eq_false_iff->zL
open Option renaming map_some->zv,map_eq_some_iff->zF,getD_some->zY
open Array renaming length_toList->zN,getElem?_eq_none->zS
set_option linter.unusedSimpArgs false
set_option linter.unusedVariables false
section
namespace Go.Vm
inductive Ty where
 | int (k:IntKind)
 | bool
 | pair (a b:Ty)
 | sl (t:Ty)
 | any
 deriving DecidableEq
abbrev Ty.den:Ty->Type
 | .int _=>Int
 | .bool=>Bool
 | .pair a b=>a.den×b.den
 | .sl t=>List t.den
 | .any=>Unit
def Ty.sz:Ty->Nat
 | .pair a b=>a.sz+b.sz
 | _=>1
def Ty.dflt:(t:Ty)->t.den
 | .int _=>(0:Int)
 | .bool=>false
 | .pair a b=>(a.dflt,b.dflt)
 | .sl _=>[]
 | .any=>()
inductive Mode where
 | deep|shal|sh
 deriving DecidableEq
def Mode.inn:Mode->Mode
 | .deep => .deep
 | _ => .sh
def Mode.own:Mode->Bool
 | .sh=>false
 | _=>true
def Mode.isDeep:Mode->Bool
 | .deep=>true
 | _=>false
structure Cell where
 t:Ty
 m:Mode
 x:t.den
def Cell.as (c:Cell) (t:Ty):Option t.den :=
 match decEq c.t t with
 | .isTrue h=>some (h▸c.x)
 | .isFalse _=>none
def enc (m:Mode):(t:Ty)->t.den->List Cell
 | .pair a b,x=>enc m a x.1++enc m b x.2
 | .int k,x=>[⟨.int k,.sh,x⟩]
 | .bool,x=>[⟨.bool,.sh,x⟩]
 | .sl t,x=>[⟨.sl t,m,x⟩]
 | .any,x=>[⟨.any,.sh,x⟩]
def dec (m:Mode):(t:Ty)->List Cell->Option (t.den×List Cell)
 | .pair a b,cs =>
   match dec m a cs with
   | none=>none
   | some p=>match dec m b p.2 with
     | none=>none
     | some q=>some ((p.1,q.1),q.2)
 | .int k,c::cs=>match c.as (.int k)with
   | some x=>match decEq c.m .sh with
     | .isTrue _=>some (x,cs)
     | .isFalse _=>none
   | none=>none
 | .bool,c::cs=>match c.as .bool with
   | some x=>match decEq c.m .sh with
     | .isTrue _=>some (x,cs)
     | .isFalse _=>none
   | none=>none
 | .sl t,c::cs=>match c.as (.sl t)with
   | some x=>match decEq c.m m with
     | .isTrue _=>some (x,cs)
     | .isFalse _=>none
   | none=>none
 | .any,c::cs=>match c.as .any with
   | some x=>match decEq c.m .sh with
     | .isTrue _=>some (x,cs)
     | .isFalse _=>none
   | none=>none
 | _,[]=>none
def a0u (m:Mode) (t:Ty) (cs:List Cell):Option t.den :=
 match dec m t cs with
 | some (x,[])=>some x
 | _=>none
inductive Path where
 | root (j:Nat)
 | hop (p:Path) (i sz j:Nat)
 deriving DecidableEq
inductive OutK where
 | val (agg:Bool)
 | ptr
 | fr (agg:Bool)
 deriving DecidableEq
structure FSig where
 ins:List (Bool×Ty)
 outs:List (OutK×Ty×Mode)
 deriving DecidableEq
abbrev Vals:List (Bool×Ty)->Type
 | []=>Unit
 | p::ps=>p.2.den×Vals ps
abbrev Outs:List (OutK×Ty×Mode)->Type
 | []=>Unit
 | p::ps=>p.2.1.den×Outs ps
inductive TK where
 | t|a
 | s (z:Nat)
 deriving DecidableEq
inductive TV where
 | dead
 | val (agg:Bool) (cs:List Cell)
 | rptr (s:Bool) (cs:List Cell)
 | ref (r:Nat) (p:Path)
 | view (r:Nat) (p:Path) (n:Nat) (agg:Bool)
 | fn (f:FuncId) (caps:List TV)
 | fnx (s:FSig) (g:Vals s.ins->Option (Outs s.outs))
 | tup (k:TK) (ts:List TV)
 | pfn (t:TV)
abbrev und:TV := .tup .t []
def b0a:TV->Bool
 | .tup .t []=>true
 | _=>false
structure Root where
 mem:Bool
 cs:List Cell
structure St where
 ts:List TV
 rs:List (Nat×Root)
def nth {α:Type}:List α->Nat->α->α
 | [],_,d=>d
 | x::_,0,_=>x
 | _::l,n+1,d=>nth l n d
def upd {α:Type}:List α->Nat->α->List α
 | [],_,_=>[]
 | _::l,0,y=>y::l
 | x::l,n+1,y=>x::upd l n y
def rget:List (Nat×Root)->Nat->Option Root
 | [],_=>none
 | (i,x)::l,r=>match zf i r with
   | .isTrue _=>some x
   | .isFalse _=>rget l r
def rdel:List (Nat×Root)->Nat->List (Nat×Root)
 | [],_=>[]
 | (i,x)::l,r=>match zf i r with
   | .isTrue _=>rdel l r
   | .isFalse _=>(i,x)::rdel l r
def rput (l:List (Nat×Root)) (r:Nat) (x:Root):List (Nat×Root):=(r,x)::rdel l r
def a0W (cs:List Cell):Path->List Cell
 | .root j=>cs.drop j
 | .hop p i _ j=>match a0W cs p with
   | ⟨.sl t,m,xs⟩::_=>(enc m.inn t (xs.getD i t.dflt)).drop j
   | _=>[]
def a2m (cs:List Cell):Path->List Cell->Option (List Cell)
 | .root j,new=>some (cs.take j++new)
 | .hop p i _ j,new=>match a0W cs p with
   | ⟨.sl t,m,xs⟩::rest=>match a0u m.inn t ((enc m.inn t (xs.getD i t.dflt)).take j++new)with
     | some x'=>a2m cs p (⟨.sl t,m,xs.set i x'⟩::rest)
     | none=>none
   | _=>none
end Go.Vm
end
section
namespace Go.Vm
def RepL {α:Type} (R:α->List Value->List Nat->List Nat->Prop):List α->List Value->List Nat->List Nat->Prop
 | [],vs,F,S=>vs=[]/\F=[]/\S=[]
 | x::xs,vs,F,S=>∃ v1 v2 F1 F2 S1 S2,vs=v1++v2/\F=F1++F2/\S=S1++S2/\R x v1 F1 S1/\RepL R xs v2 F2 S2
theorem a0R {α:Type} {R:α->List Value->List Nat->List Nat->Prop} (xs ys:List α) (vs:List Value) (F S:List Nat) :
   RepL R (xs++ys) vs F S↔∃ v1 v2 F1 F2 S1 S2,vs=v1++v2/\F=F1++F2/\S=S1++S2/\RepL R xs v1 F1 S1/\RepL R ys v2 F2 S2:=by
 induction xs generalizing vs F S with
 | nil =>
   constructor
   . intro h;exact⟨[],vs,[],F,[],S,rfl,rfl,rfl,⟨rfl,rfl,rfl⟩,h⟩
   . rintro⟨v1,v2,F1,F2,S1,S2,rfl,rfl,rfl,⟨rfl,rfl,rfl⟩,h⟩;simpa using h
 | cons x xs ih =>
   constructor
   . rintro⟨v1,v2,F1,F2,S1,S2,rfl,rfl,rfl,hx,h⟩;obtain⟨w1,w2,G1,G2,T1,T2,rfl,rfl,rfl,h1,h2⟩:=(ih _ _ _).1 h;exact⟨v1++w1,w2,F1++G1,G2,S1++T1,T2,by simp,by simp,by simp,⟨v1,w1,F1,G1,S1,T1,rfl,rfl,rfl,hx,h1⟩,h2⟩
   . rintro⟨v1,v2,F1,F2,S1,S2,rfl,rfl,rfl,⟨w1,w2,G1,G2,T1,T2,rfl,rfl,rfl,hx,h1⟩,h2⟩;exact⟨w1,w2++v2,G1,G2++F2,T1,T2++S2,by simp,by simp,by simp,hx,(ih _ _ _).2 ⟨w2,v2,G2,F2,T2,S2,rfl,rfl,rfl,h1,h2⟩⟩
theorem a5A {α:Type} {R R':α->List Value->List Nat->List Nat->Prop} {xs:List α} {vs:List Value} {F S:List Nat}
   (h:RepL R xs vs F S) (hi:∀ x vs F1 S1,(∀ b∈F1,b∈F)->(∀ b∈S1,b∈S)->R x vs F1 S1->R' x vs F1 S1):RepL R' xs vs F S:=by
 induction xs generalizing vs F S with
 | nil=>exact h
 | cons x xs ih =>
   obtain⟨v1,v2,F1,F2,S1,S2,rfl,rfl,rfl,hx,h⟩:=h;exact⟨v1,v2,F1,F2,S1,S2,rfl,rfl,rfl,hi _ _ _ _ (fun b hb=>by simp[hb]) (fun b hb=>by simp[hb]) hx,
     ih h fun y us F1' S1' hF hS=>hi y us F1' S1' (fun b hb=>by simp[hF b hb]) (fun b hb=>by simp[hS b hb])⟩
def Rep (w:World):(t:Ty)->Mode->t.den->List Value->List Nat->List Nat->Prop
 | .int k,_,x,vs,F,S=>vs=[.int k x]/\F=[]/\S=[]
 | .bool,_,x,vs,F,S=>vs=[.bool x]/\F=[]/\S=[]
 | .any,_,_,vs,F,S=>(∃ v,vs=[v]/\v.oneCell'=true/\∀ cs,v ≠ .agg cs)/\F=[]/\S=[]
 | .pair a b,m,x,vs,F,S=>∃ v1 v2 F1 F2 S1 S2,vs=v1++v2/\F=F1++F2/\S=S1++S2/\Rep w a m x.1 v1 F1 S1/\Rep w b m x.2 v2 F2 S2
 | .sl t,m,xs,vs,F,S=>∃ A c,vs=[.slice A xs.length c]/\xs.length≤c ∧
     (xs = []/\F=[]/\S=[]/\(m.own=true->c=0) ∨
      m.own=true/\(∃ b arr e us sp F',A=some ⟨b,0,none⟩/\w.heap[b]? = some (.cells arr e (0,0))/\arr.toList=us++sp/\(arr.size=c*t.sz/\c≤maxLen) ∧
         RepL (Rep w t m.inn) xs us F' S/\F=b::F') ∨
      m.own=false/\xs≠[]/\(∃ ad us S',A=some ad/\(∀ i v,us[i]? = some v->w.cell? (ad.add i)=some v)/\RepL (Rep w t .sh) xs us [] S'/\F=[]/\S=ad.block::S'))
def RepC (w:World) (c:Cell) (vs:List Value) (F S:List Nat):Prop:=(∃ v,vs=[v])/\Rep w c.t c.m c.x vs F S
def a0K (w:World):List Cell->List Value->List Nat->List Nat->Prop:=RepL (RepC w)
theorem a0n (w:World) (m:Mode) (t:Ty):∀ (x:t.den) (vs:List Value) (F S:List Nat),Rep w t m x vs F S↔a0K w (enc m t x) vs F S:=by
 have one:∀ (c:Cell) vs F S,a0K w [c] vs F S↔RepC w c vs F S:=by
   intro c vs F S;constructor
   . rintro⟨v1,v2,F1,F2,S1,S2,rfl,rfl,rfl,h,⟨rfl,rfl,rfl⟩⟩;simpa using h
   . intro h;exact⟨vs,[],F,[],S,[],by simp,by simp,by simp,h,⟨rfl,rfl,rfl⟩⟩
 induction t with
 | int k =>
   intro x vs F S;refine Iff.trans ?_ (one _ _ _ _).symm;constructor
   . rintro⟨rfl,rfl,rfl⟩;exact⟨⟨_,rfl⟩,rfl,rfl,rfl⟩
   . rintro⟨_,h⟩;exact h
 | bool =>
   intro x vs F S;refine Iff.trans ?_ (one _ _ _ _).symm;constructor
   . rintro⟨rfl,rfl,rfl⟩;exact⟨⟨_,rfl⟩,rfl,rfl,rfl⟩
   . rintro⟨_,h⟩;exact h
 | any =>
   intro x vs F S;refine Iff.trans ?_ (one _ _ _ _).symm;constructor
   . rintro⟨⟨v,rfl,h⟩,rfl,rfl⟩;exact⟨⟨_,rfl⟩,⟨v,rfl,h⟩,rfl,rfl⟩
   . rintro⟨_,h⟩;exact h
 | pair a b iha ihb =>
   intro x vs F S;unfold a0K;simp only[Rep,enc,a0R];constructor
   . rintro⟨v1,v2,F1,F2,S1,S2,rfl,rfl,rfl,h1,h2⟩;exact⟨v1,v2,F1,F2,S1,S2,rfl,rfl,rfl,(iha _ _ _ _).1 h1,(ihb _ _ _ _).1 h2⟩
   . rintro⟨v1,v2,F1,F2,S1,S2,rfl,rfl,rfl,h1,h2⟩;exact⟨v1,v2,F1,F2,S1,S2,rfl,rfl,rfl,(iha _ _ _ _).2 h1,(ihb _ _ _ _).2 h2⟩
 | sl t _ =>
   intro x vs F S;refine Iff.trans ?_ (one _ _ _ _).symm;constructor
   . intro h;obtain⟨A,c,rfl,h'⟩:=h;exact⟨⟨_,rfl⟩,A,c,rfl,h'⟩
   . rintro⟨_,h⟩;exact h
theorem a5k (w:World) (m:Mode) (t:Ty) (xs:List t.den) (vs:List Value) (F S:List Nat) :
   RepL (Rep w t m) xs vs F S↔a0K w (xs.flatMap (enc m t)) vs F S:=by
 induction xs generalizing vs F S with
 | nil=>simp[RepL,a0K]
 | cons x xs ih =>
   unfold a0K;simp only[RepL,zW,a0R];constructor
   . rintro⟨v1,v2,F1,F2,S1,S2,rfl,rfl,rfl,h1,h2⟩;exact⟨v1,v2,F1,F2,S1,S2,rfl,rfl,rfl,(a0n _ _ _ _ _ _ _).1 h1,(ih _ _ _).1 h2⟩
   . rintro⟨v1,v2,F1,F2,S1,S2,rfl,rfl,rfl,h1,h2⟩;exact⟨v1,v2,F1,F2,S1,S2,rfl,rfl,rfl,(a0n _ _ _ _ _ _ _).2 h1,(ih _ _ _).2 h2⟩
theorem a2A (m:Mode) (t:Ty):∀ x:t.den,(enc m t x).length=t.sz:=by
 induction t with
 | int k=>intro x;rfl
 | bool=>intro x;rfl
 | any=>intro x;rfl
 | pair a b iha ihb=>intro x;simp[enc,Ty.sz,iha,ihb]
 | sl t _=>intro x;rfl
theorem b0Z (m:Mode) (t:Ty) (xs:List t.den):(xs.flatMap (enc m t)).length=xs.length*t.sz:=by
 induction xs with
 | nil=>simp
 | cons x xs ih=>simp[zW,a2A,ih,Nat.add_mul,Nat.add_comm]
theorem a0k {w:World} {cs:List Cell} {vs:List Value} {F S:List Nat} (h:a0K w cs vs F S):vs.length=cs.length:=by
 induction cs generalizing vs F S with
 | nil=>obtain⟨rfl,_⟩:=h;rfl
 | cons c cs ih =>
   obtain⟨v1,v2,F1,F2,S1,S2,rfl,rfl,rfl,⟨⟨v,rfl⟩,_⟩,h⟩:=h;simp[ih h]
theorem as_some {c:Cell} {t:Ty} {x:t.den} (h:c.as t=some x):∃ hh:c.t=t,hh▸c.x=x:=by
 unfold Cell.as at h;split at h
 . rename_i hh _;exact⟨hh,by simpa using h⟩
 . cases h
theorem b2r {c:Cell} {t:Ty} {x:t.den} (h:c.as t=some x):c=⟨t,c.m,x⟩:=by
 obtain⟨rfl,rfl⟩:=as_some h;rfl
theorem dec_eq (m:Mode) (t:Ty):∀ (cs:List Cell) (x:t.den) (r:List Cell),dec m t cs=some (x,r)->cs=enc m t x++r:=by
 induction t with
 | int k =>
   intro cs x r h;cases cs with
   | nil=>simp[dec]at h
   | cons c cs =>
     simp only[dec]at h;split at h
     . rename_i y hy;split at h
       . rename_i hm _;simp only[za,ze]at h;obtain⟨rfl,rfl⟩:=h;rw[b2r hy,hm];rfl
       . cases h
     . cases h
 | bool =>
   intro cs x r h;cases cs with
   | nil=>simp[dec]at h
   | cons c cs =>
     simp only[dec]at h;split at h
     . rename_i y hy;split at h
       . rename_i hm _;simp only[za,ze]at h;obtain⟨rfl,rfl⟩:=h;rw[b2r hy,hm];rfl
       . cases h
     . cases h
 | any =>
   intro cs x r h;cases cs with
   | nil=>simp[dec]at h
   | cons c cs =>
     simp only[dec]at h;split at h
     . rename_i y hy;split at h
       . rename_i hm _;simp only[za,ze]at h;obtain⟨-,rfl⟩:=h;rw[b2r hy,hm];rfl
       . cases h
     . cases h
 | pair a b iha ihb =>
   intro cs x r h;simp only[dec]at h;split at h
   . cases h
   . rename_i p hp;split at h
     . cases h
     . rename_i q hq;simp only[za,ze]at h;obtain⟨rfl,rfl⟩:=h;have h1:=iha cs p.1 p.2 hp;have h2:=ihb p.2 q.1 q.2 hq;rw[h1,h2];simp[enc]
 | sl t _ =>
   intro cs x r h;cases cs with
   | nil=>simp[dec]at h
   | cons c cs =>
     simp only[dec]at h;split at h
     . rename_i y hy;split at h
       . rename_i hm _;simp only[za,ze]at h;obtain⟨rfl,rfl⟩:=h;rw[b2r hy,hm];rfl
       . cases h
     . cases h
theorem a4n {m:Mode} {t:Ty} {cs:List Cell} {x:t.den} (h:a0u m t cs=some x):cs=enc m t x:=by
 unfold a0u at h;split at h
 . rename_i y hy;simp only[za]at h;subst h;simpa using dec_eq m t cs y [] hy
 . cases h
def a0a (w w':World) (L:List Nat):Prop:=∀ b∈L,w'.heap[b]? = w.heap[b]?
theorem a1s {w w':World} {a:Addr} (h:w'.heap[a.block]? = w.heap[a.block]?):w'.cell? a=w.cell? a:=by
 unfold World.cell?;rw[h]
theorem a0P (a:Addr) (n:Nat):(a.add n).block=a.block:=by unfold Addr.add;split<;>rfl
theorem a2c (a:Addr) (n k:Nat):(a.add n).add k=a.add (n+k):=by
 unfold Addr.add;by_cases hn:n=0
 . simp[hn]
 . by_cases hk:k=0
   . simp[hk]
   . simp[hn,hk,z4]
theorem a1u {w w':World} (t:Ty):∀ {m:Mode} {x:t.den} {vs:List Value} {F S:List Nat},Rep w t m x vs F S->a0a w w' (F++S)->Rep w' t m x vs F S:=by
 induction t with
 | int k=>intro m x vs F S h _;exact h
 | bool=>intro m x vs F S h _;exact h
 | any=>rintro m x vs F S ⟨h,h2⟩ _;exact⟨h,h2⟩
 | pair a b iha ihb =>
   rintro m x vs F S ⟨v1,v2,F1,F2,S1,S2,rfl,rfl,rfl,h1,h2⟩ hs;exact⟨v1,v2,F1,F2,S1,S2,rfl,rfl,rfl,iha h1 fun b hb=>hs b (by simp at hb ⊢;rcases hb with hb|hb<;>simp[hb]),ihb h2 fun b hb=>hs b (by simp at hb ⊢;rcases hb with hb|hb<;>simp[hb])⟩
 | sl t ih =>
   rintro m xs vs F S ⟨A,c,rfl,hc,h⟩ hs;refine⟨A,c,rfl,hc,?_⟩;rcases h with h|⟨ho,b,arr,e,us,sp,F',hA,hb,harr,hsz,hr,rfl⟩|⟨ho,hne,ad,us,S',hA,hcell,hr,rfl,rfl⟩
   . exact .inl h
   . refine .inr (.inl ⟨ho,b,arr,e,us,sp,F',hA,?_,harr,hsz,?_,rfl⟩)
     . rw[hs b (by simp)];exact hb
     . refine a5A hr fun x vs F1 S1 hF hS hx=>ih hx fun b' hb'=>hs b' ?_;simp only[zb]at hb';rcases hb' with hb'|hb'
       . simp[hF b' hb']
       . simp[hS b' hb']
   . refine .inr (.inr ⟨ho,hne,ad,us,S',hA,fun i v hv=>?_,?_,rfl,rfl⟩)
     . have hq:=a1s (w:=w) (w':=w') (a:=ad.add i) (by rw[a0P];exact hs _ (by simp));rw[hq];exact hcell i v hv
     . refine a5A hr fun x vs F1 S1 hF hS hx=>ih hx fun b' hb'=>hs b' ?_;simp only[zb]at hb';rcases hb' with hb'|hb'
       . exact absurd (hF b' hb') (by simp)
       . simp[hS b' hb']
theorem a0I {w w':World} {cs:List Cell} {vs:List Value} {F S:List Nat} (h:a0K w cs vs F S) (hs:a0a w w' (F++S)):a0K w' cs vs F S :=
 a5A h fun c vs F1 S1 hF hS hc=>⟨hc.1,a1u _ hc.2 fun b hb=>hs b (by
   simp only[zb]at hb ⊢;rcases hb with hb|hb
   . exact .inl (hF b hb)
   . exact .inr (hS b hb))⟩
end Go.Vm
end
section
namespace Go.Vm
theorem a0s {w:World} {t:Ty} {m:Mode} {x:t.den} {vs:List Value} {F S:List Nat} (h:Rep w t m x vs F S):vs.length=t.sz:=by
 have:=a0k ((a0n _ _ _ _ _ _ _).1 h);rw[this,a2A]
theorem a0Y {w:World} {t:Ty} {m:Mode} {xs:List t.den} {vs:List Value} {F S:List Nat} (h:RepL (Rep w t m) xs vs F S):vs.length=xs.length*t.sz:=by
 have:=a0k ((a5k _ _ _ _ _ _ _).1 h);rw[this,b0Z]
theorem a3O (t:Ty):0<t.sz:=by
 induction t with
 | pair a b iha ihb=>simp[Ty.sz];omega
 | _=>simp[Ty.sz]
theorem a4X {α:Type} {R R':α->List Value->List Nat->List Nat->Prop} {xs:List α} {vs:List Value} {F S:List Nat}
   (h:RepL R xs vs F S) (hi:∀ x us F1 S1,R x us F1 S1->∃ S',R' x us [] S'/\∀ b∈S',b∈F1∨b∈S1) :
   ∃ S',RepL R' xs vs [] S'/\∀ b∈S',b∈F∨b∈S:=by
 induction xs generalizing vs F S with
 | nil=>obtain⟨rfl,rfl,rfl⟩:=h;exact⟨[],⟨rfl,rfl,rfl⟩,by simp⟩
 | cons x xs ih =>
   obtain⟨v1,v2,F1,F2,S1,S2,rfl,rfl,rfl,hx,h⟩:=h;obtain⟨T1,h1,k1⟩:=hi _ _ _ _ hx;obtain⟨T2,h2,k2⟩:=ih h;refine⟨T1++T2,⟨v1,v2,[],[],T1,T2,rfl,rfl,rfl,h1,h2⟩,fun b hb=>?_⟩;simp only[zb]at hb ⊢;rcases hb with hb|hb
   . rcases k1 b hb with h|h<;>simp[h]
   . rcases k2 b hb with h|h<;>simp[h]
theorem a0V {w:World} {b:Nat} {arr:Array Value} {e:TypeId} {us sp:List Value} (hb:w.heap[b]? = some (.cells arr e (0,0))) (ha:arr.toList=us++sp)
   (i:Nat) (v:Value) (hv:us[i]? = some v):w.cell? ((⟨b,0,none⟩:Addr).add i)=some v:=by
 have hadd:(⟨b,0,none⟩:Addr).add i=⟨b,i,none⟩:=by
   unfold Addr.add;split<;>simp_all
 rw[hadd];unfold World.cell?;simp only[hb];rw[<-Array.getElem?_toList,ha];have hi:i<us.length:=by
   rcases zB i us.length with h|h
   . exact h
   . simp[zn h]at hv
 rw[zM hi,hv];rfl
theorem a9m {w:World} (t:Ty):∀ {m:Mode} {x:t.den} {vs:List Value} {F S:List Nat},Rep w t m x vs F S->∃ S',Rep w t .sh x vs [] S'/\∀ b∈S',b∈F∨b∈S:=by
 induction t with
 | int k=>rintro m x vs F S ⟨rfl,rfl,rfl⟩;exact⟨[],⟨rfl,rfl,rfl⟩,by simp⟩
 | bool=>rintro m x vs F S ⟨rfl,rfl,rfl⟩;exact⟨[],⟨rfl,rfl,rfl⟩,by simp⟩
 | any=>rintro m x vs F S ⟨h,rfl,rfl⟩;exact⟨[],⟨h,rfl,rfl⟩,by simp⟩
 | pair a b iha ihb =>
   rintro m x vs F S ⟨v1,v2,F1,F2,S1,S2,rfl,rfl,rfl,h1,h2⟩;obtain⟨T1,g1,k1⟩:=iha h1;obtain⟨T2,g2,k2⟩:=ihb h2;refine⟨T1++T2,⟨v1,v2,[],[],T1,T2,rfl,rfl,rfl,g1,g2⟩,fun b hb=>?_⟩;simp only[zb]at hb ⊢;rcases hb with hb|hb
   . rcases k1 b hb with h|h<;>simp[h]
   . rcases k2 b hb with h|h<;>simp[h]
 | sl t ih =>
   rintro m xs vs F S ⟨A,c,rfl,hc,h⟩;rcases h with⟨rfl,rfl,rfl,h⟩|⟨ho,b,arr,e,us,sp,F',hA,hb,harr,hsz,hr,rfl⟩|⟨ho,hne,ad,us,S',hA,hcell,hr,rfl,rfl⟩
   . exact⟨[],⟨A,c,rfl,hc,.inl ⟨rfl,rfl,rfl,by simp[Mode.own]⟩⟩,by simp⟩
   . by_cases hne:xs=[]
     . subst hne;obtain⟨-,-,-⟩:=hr;exact⟨[],⟨A,c,rfl,hc,.inl ⟨rfl,rfl,rfl,by simp[Mode.own]⟩⟩,by simp⟩
     obtain⟨S',hr',k⟩:=a4X hr (R':=Rep w t .sh) fun x us F1 S1 h=>ih h;refine⟨b::S',⟨A,c,rfl,hc,.inr (.inr ⟨rfl,hne,⟨b,0,none⟩,us,S',hA,a0V hb harr,hr',rfl,rfl⟩)⟩,fun b' hb'=>?_⟩;simp only[zc]at hb' ⊢;rcases hb' with rfl|hb'
     . simp
     . rcases k b' hb' with h|h<;>simp[h]
   . exact⟨ad.block::S',⟨A,c,rfl,hc,.inr (.inr ⟨rfl,hne,ad,us,S',hA,hcell,hr,rfl,rfl⟩)⟩,by simp⟩
theorem b1X {w:World} (t:Ty) {m:Mode} {xs:List t.den} {vs:List Value} {F S:List Nat} (ho:m.own=true) (h:Rep w (.sl t) m xs vs F S) :
   ∃ F' S',Rep w (.sl t) .shal xs vs F' S'/\F'.Sublist F/\(∀ b∈S',b∈F∨b∈S)/\(F.Nodup->(∀ b∈F,b∉S)->∀ b∈F',b∉S'):=by
 obtain⟨A,c,rfl,hc,h⟩:=h;rcases h with⟨rfl,rfl,rfl,h⟩|⟨_,b,arr,e,us,sp,F',hA,hb,harr,hsz,hr,rfl⟩|⟨h,_⟩
 . exact⟨[],[],⟨A,c,rfl,hc,.inl ⟨rfl,rfl,rfl,fun _=>h ho⟩⟩,by simp,by simp,by simp⟩
 . obtain⟨S',hr',k⟩:=a4X hr (R':=Rep w t .sh) fun x us F1 S1 h=>a9m t h;refine⟨[b],S',⟨A,c,rfl,hc,.inr (.inl ⟨rfl,b,arr,e,us,sp,[],hA,hb,harr,hsz,hr',rfl⟩)⟩,by simp,fun b' hb'=>?_,fun hn hd b' hb' hS=>?_⟩
   . rcases k b' hb' with h|h<;>simp[h]
   . simp only[List.mem_singleton]at hb';subst hb';rcases k _ hS with h|h
     . exact(zi.1 hn).1 h
     . exact hd _ (by simp) h
 . rw[ho]at h;cases h
theorem a7s {α:Type} {R:α->List Value->List Nat->List Nat->Prop} {xs:List α} {vs:List Value} {F S:List Nat} {i:Nat} {x:α} (hx:xs[i]? = some x) (h:RepL R xs vs F S) :
   ∃ v1 v2 v3 F1 F2 F3 S1 S2 S3,vs=v1++(v2++v3)/\F=F1++(F2++F3)/\S=S1++(S2++S3)/\RepL R (xs.take i) v1 F1 S1/\R x v2 F2 S2/\RepL R (xs.drop (i+1)) v3 F3 S3:=by
 have hi:i<xs.length:=by
   rcases zB i xs.length with h|h
   . exact h
   . simp[zn h]at hx
 have hxs:xs=xs.take i++(x::xs.drop (i+1)):=by
   have h1:xs[i]=x:=by simpa[zt hi]using hx
   rw[<-h1,List.getElem_cons_drop,zo]
 rw[hxs]at h;obtain⟨v1,v2,F1,F2,S1,S2,rfl,rfl,rfl,h1,h2⟩:=(a0R _ _ _ _ _).1 h;obtain⟨w1,w2,G1,G2,T1,T2,rfl,rfl,rfl,h3,h4⟩:=h2;exact⟨v1,w1,w2,F1,G1,G2,S1,T1,T2,rfl,rfl,rfl,h1,h3,h4⟩
theorem b3U {α:Type} {R:α->List Value->List Nat->List Nat->Prop} {xs:List α} {i:Nat} {x:α} (hi:i<xs.length) {v1 v2 v3:List Value} {F1 F2 F3 S1 S2 S3:List Nat}
   (h1:RepL R (xs.take i) v1 F1 S1) (h2:R x v2 F2 S2) (h3:RepL R (xs.drop (i+1)) v3 F3 S3):RepL R (xs.set i x) (v1++(v2++v3)) (F1++(F2++F3)) (S1++(S2++S3)):=by
 have:xs.set i x=xs.take i++(x::xs.drop (i+1)):=by
   rw[List.set_eq_take_append_cons_drop,if_pos hi]
 rw[this];exact(a0R _ _ _ _ _).2 ⟨v1,v2++v3,F1,F2++F3,S1,S2++S3,rfl,rfl,rfl,h1,v2,v3,F2,F3,S2,S3,rfl,rfl,rfl,h2,h3⟩
theorem a7S {α:Type} {xs:List α} {i:Nat} (d:α) (h:i<xs.length):xs[i]? = some (xs.getD i d):=by
 rw[zt h,List.getD_eq_getElem?_getD,zt h];rfl
theorem a6l {w:World} {t:Ty} {xs:List t.den} {A:Option Addr} {n c:Nat} {F S:List Nat} (h:Rep w (.sl t) .sh xs [.slice A n c] F S) {i:Nat} (hi:i<xs.length) :
   n=xs.length/\∃ ad us S',A=some ad/\ad.block∈S/\(∀ j v,us[j]? = some v->w.cell? (ad.add (i*t.sz+j))=some v)/\a0K w (enc .sh t (xs.getD i t.dflt)) us [] S'/\∀ b∈S',b∈S:=by
 obtain⟨A',c',he,hc,h⟩:=h;simp only[zh,Value.slice.injEq,and_true]at he;obtain⟨rfl,rfl,rfl⟩:=he;refine⟨rfl,?_⟩;rcases h with⟨rfl,_⟩|⟨h,_⟩|⟨_,_,ad,us,S',hA,hcell,hr,_,rfl⟩
 . simp at hi
 . cases h
 . obtain⟨v1,v2,v3,F1,F2,F3,S1,S2,S3,rfl,hF,rfl,h1,h2,h3⟩:=a7s (a7S t.dflt hi) hr;have hl:=a0Y h1;simp only[zj]at hl;rw[z0 (by omega)]at hl;have hF2:F2=[]:=by
     have:=hF.symm;simp at this;exact this.2.1
   subst hF2;refine⟨ad,v2,S2,hA,by simp,fun j v hv=>?_,(a0n _ _ _ _ _ _ _).1 h2,by simp +contextual⟩;refine hcell _ _ ?_;have hj:j<v2.length:=by
     rcases zB j v2.length with h|h
     . exact h
     . simp[zn h]at hv
   rw[<-hl,zz (by omega)];rw[show v1.length+j-v1.length=j from by omega,zM hj,hv]
theorem b2D {w:World} {a:Addr} {v:Value} (h:w.cell? a=some v):a.block<w.heap.size:=World.block_lt_of_cell? w a h
theorem a2W {w:World} (t:Ty):∀ {m:Mode} {x:t.den} {vs:List Value} {F S:List Nat},Rep w t m x vs F S->∀ b,b∈F∨b∈S->b<w.heap.size:=by
 have aux:∀ (t:Ty) (m:Mode),(∀ {m:Mode} {x:t.den} {vs:List Value} {F S:List Nat},Rep w t m x vs F S->∀ b,b∈F∨b∈S->b<w.heap.size) →
     ∀ (xs:List t.den) (vs:List Value) (F S:List Nat),RepL (Rep w t m) xs vs F S->∀ b,b∈F∨b∈S->b<w.heap.size:=by
   intro t m ih xs;induction xs with
   | nil=>rintro vs F S ⟨rfl,rfl,rfl⟩ b hb;simp at hb
   | cons x xs ihx =>
     rintro vs F S ⟨v1,v2,F1,F2,S1,S2,rfl,rfl,rfl,hx,h⟩ b hb;simp only[zb]at hb;have h1:=ih hx b;have h2:=ihx _ _ _ h b
     grind
 induction t with
 | int k=>rintro m x vs F S ⟨rfl,rfl,rfl⟩ b hb;simp at hb
 | bool=>rintro m x vs F S ⟨rfl,rfl,rfl⟩ b hb;simp at hb
 | any=>rintro m x vs F S ⟨h,rfl,rfl⟩ b hb;simp at hb
 | pair a b iha ihb =>
   rintro m x vs F S ⟨v1,v2,F1,F2,S1,S2,rfl,rfl,rfl,h1,h2⟩ b hb;simp only[zb]at hb;have g1:=iha h1 b;have g2:=ihb h2 b
   grind
 | sl t ih =>
   rintro m xs vs F S ⟨A,c,rfl,hc,h⟩ b' hb';rcases h with⟨rfl,rfl,rfl,h⟩|⟨ho,b,arr,e,us,sp,F',hA,hb,harr,hsz,hr,rfl⟩|⟨ho,hne,ad,us,S',hA,hcell,hr,rfl,rfl⟩
   . simp at hb'
   . have:=aux t m.inn ih xs us F' S hr b';have hlt:b<w.heap.size:=by
       rcases zB b w.heap.size with h|h
       . exact h
       . simp[zS h]at hb
     simp only[zc]at hb'
     grind
   . have:=aux t .sh ih xs us [] S' hr b';have hl:=a0Y hr;have hpos:0<us.length:=by
       rw[hl];have h1:0<xs.length:=List.length_pos_iff.2 hne;exact Nat.mul_pos h1 (a3O t)
     have hlt:=b2D (hcell 0 us[0] (by simp[hpos]));rw[a0P]at hlt;simp only[zc]at hb'
     grind
theorem a3F {w:World} {cs:List Cell} {vs:List Value} {F S:List Nat} (h:a0K w cs vs F S):∀ b,b∈F∨b∈S->b<w.heap.size:=by
 induction cs generalizing vs F S with
 | nil=>obtain⟨rfl,rfl,rfl⟩:=h;simp
 | cons c cs ih =>
   obtain⟨v1,v2,F1,F2,S1,S2,rfl,rfl,rfl,⟨_,hc⟩,h⟩:=h;intro b hb;simp only[zb]at hb;have g1:=a2W c.t hc b;have g2:=ih h b
   grind
end Go.Vm
end
section
namespace Go.Vm
theorem a0B {w w':World} {L L':List Nat} (h:a0a w w' L) (hs:∀ b∈L',b∈L):a0a w w' L':=fun b hb=>h b (hs b hb)
theorem a2V {w:World} {t:Ty} {m:Mode} {xs:List t.den} {A:Option Addr} {n c:Nat} {F S:List Nat} (ho:m.own=true) (h:Rep w (.sl t) m xs [.slice A n c] F S) {i:Nat} (hi:i<xs.length) :
   n = xs.length/\∃ b arr e v1 v2 v3 sp F1 F2 F3 S1 S2 S3,A=some ⟨b,0,none⟩/\w.heap[b]? = some (.cells arr e (0,0))/\arr.toList=v1++(v2++v3)++sp/\v1.length=i*t.sz/\v2.length=t.sz ∧
     F=b::(F1++(F2++F3))/\S=S1++(S2++S3)/\a0K w (enc m.inn t (xs.getD i t.dflt)) v2 F2 S2 ∧
     ∀ w' x' v2' arr' F2' S2',w'.heap[b]? = some (.cells arr' e (0,0))->arr'.toList=v1++(v2'++v3)++sp->a0a w w' (F1++F3++S1++S3)->a0K w' (enc m.inn t x') v2' F2' S2' →
       Rep w' (.sl t) m (xs.set i x') [.slice A n c] (b::(F1++(F2'++F3))) (S1++(S2'++S3)):=by
 obtain⟨A',c',he,hc,h⟩:=h;simp only[zh,Value.slice.injEq,and_true]at he;obtain⟨rfl,rfl,rfl⟩:=he;refine⟨rfl,?_⟩;rcases h with⟨rfl,_⟩|⟨_,b,arr,e,us,sp,F',hA,hb,harr,hsz,hr,rfl⟩|⟨h,_⟩
 . simp at hi
 . obtain⟨v1,v2,v3,F1,F2,F3,S1,S2,S3,rfl,rfl,rfl,h1,h2,h3⟩:=a7s (a7S t.dflt hi) hr;have hl:=a0Y h1;simp only[zj]at hl;rw[z0 (by omega)]at hl;have hl2:=a0s h2;refine⟨b,arr,e,v1,v2,v3,sp,F1,F2,F3,S1,S2,S3,hA,hb,harr,hl,hl2,rfl,rfl,(a0n _ _ _ _ _ _ _).1 h2,?_⟩;intro w' x' v2' arr' F2' S2' hb' harr' hs hx';have hl2':=a0s ((a0n _ _ _ _ _ _ _).2 hx');refine⟨A,c,by simp,by simpa using hc,.inr (.inl ⟨ho,b,arr',e,v1++(v2'++v3),sp,F1++(F2'++F3),hA,hb',by simpa using harr',?_,?_,rfl⟩)⟩
   . refine⟨?_,hsz.2⟩;rw[<-hsz.1,<-zN,<-zN,harr,harr'];simp[hl2,hl2']
   . refine b3U (by simpa using hi) ?_ ((a0n _ _ _ _ _ _ _).2 hx') ?_
     . exact a5A h1 fun x vs G T hG hT hx=>a1u t hx fun b' hb'=>hs b' (by
         simp only[zb]at hb' ⊢;rcases hb' with hb'|hb'
         . exact .inl (.inl (.inl (hG b' hb')))
         . exact .inl (.inr (hT b' hb')))
     . exact a5A h3 fun x vs G T hG hT hx=>a1u t hx fun b' hb'=>hs b' (by
         simp only[zb]at hb' ⊢;rcases hb' with hb'|hb'
         . exact .inl (.inl (.inr (hG b' hb')))
         . exact .inr (hT b' hb'))
 . rw[ho]at h;cases h
def a1S (cs:List Cell):Path->Prop
 | .root j=>j≤cs.length
 | .hop p i sz j=>a1S cs p/\j≤sz/\∃ t m xs rest,a0W cs p=⟨.sl t,m,xs⟩::rest/\m.own=true/\i<xs.length/\sz=t.sz
def Loc (w:World) (rv:List Value) (B:Option Addr):Path->Option Addr->List Value->Prop
 | .root j,ad,us=>ad=B.map (·.add j)/\us=rv.drop j
 | .hop p i sz j,ad,us=>∃ A n c ad' us',Loc w rv B p ad' (.slice (some A) n c::us')/\i<n/\ad=some (A.add (i*sz+j))/\us.length=sz-j/\∀ q v,us[q]? = some v->w.cell? (A.add (i*sz+j+q))=some v
theorem a0r {w:World} {rv:List Value} {B:Option Addr} {p:Path}:∀ {ad ad':Option Addr} {us us':List Value},Loc w rv B p ad us->Loc w rv B p ad' us'->ad=ad'/\us=us':=by
 induction p with
 | root j =>
   rintro ad ad' us us' ⟨rfl,rfl⟩ ⟨rfl,rfl⟩;exact⟨rfl,rfl⟩
 | hop p i sz j ih =>
   rintro ad ad' us us' ⟨A,n,c,a1,u1,h1,hi,rfl,hl,hc⟩ ⟨A',n',c',a2,u2,h2,hi',rfl,hl',hc'⟩;obtain⟨-,he⟩:=ih h1 h2;simp only[zh,Value.slice.injEq,za]at he;obtain⟨⟨rfl,rfl,rfl⟩,rfl⟩:=he;refine⟨rfl,List.ext_getElem? fun q=>?_⟩;by_cases hq:q<us.length
   . have h1:=hc q us[q] (by simp[hq]);have h2:=hc' q us'[q] (by simp[show q<us'.length by omega]);rw[h1]at h2;rw[zt hq,zt (by omega),zd h2]
   . rw[zn (by omega),zn (by omega)]
theorem a0F {w:World} {cs:List Cell} {vs:List Value} {F S:List Nat} (j:Nat) (h:a0K w cs vs F S) :
   ∃ F1 F2 S1 S2,F=F1++F2/\S=S1++S2/\a0K w (cs.take j) (vs.take j) F1 S1/\a0K w (cs.drop j) (vs.drop j) F2 S2:=by
 rw[<-zo j cs]at h;obtain⟨v1,v2,F1,F2,S1,S2,rfl,rfl,rfl,h1,h2⟩:=(a0R _ _ _ _ _).1 h;have hl1:v1.length=(cs.take j).length:=a0k h1;have hl2:v2.length=(cs.drop j).length:=a0k h2;simp only[zj,zm]at hl1 hl2;by_cases hj:j≤cs.length
 . have e1:(v1++v2).take j=v1:=by rw[List.take_append_of_le_length (by omega),zC (by omega)]
   have e2:(v1++v2).drop j=v2:=by rw[zD (by omega),zE (by omega),zp]
   exact⟨F1,F2,S1,S2,rfl,rfl,by rw[e1];exact h1,by rw[e2];exact h2⟩
 . have:v2=[]:=zQ (by omega);subst this;have e1:(v1++[]).take j=v1:=by rw[zu];exact zC (by omega)
   have e2:(v1++[]).drop j=[]:=by rw[zu];exact zE (by omega)
   exact⟨F1,F2,S1,S2,rfl,rfl,by rw[e1];exact h1,by rw[e2];exact h2⟩
theorem a0M {w:World} {cs ds:List Cell} {vs us:List Value} {F G S T:List Nat} (h:a0K w cs vs F S) (k:a0K w ds us G T):a0K w (cs++ds) (vs++us) (F++G) (S++T) :=
 (a0R _ _ _ _ _).2 ⟨vs,us,F,G,S,T,rfl,rfl,rfl,h,k⟩
theorem a0T {w:World} {c:Cell} {cs:List Cell} {vs:List Value} {F S:List Nat} (h:a0K w (c::cs) vs F S) :
   ∃ v vs' F1 F2 S1 S2,vs=v::vs'/\F=F1++F2/\S=S1++S2/\Rep w c.t c.m c.x [v] F1 S1/\a0K w cs vs' F2 S2:=by
 obtain⟨v1,v2,F1,F2,S1,S2,rfl,rfl,rfl,⟨⟨v,rfl⟩,hc⟩,h⟩:=h;exact⟨v,v2,F1,F2,S1,S2,rfl,rfl,rfl,hc,h⟩
theorem a2U {w:World} {c:Cell} {cs:List Cell} {v:Value} {vs:List Value} {F1 F2 S1 S2:List Nat} (h:Rep w c.t c.m c.x [v] F1 S1) (k:a0K w cs vs F2 S2) :
 a0K w (c::cs) (v::vs) (F1++F2) (S1++S2):=⟨[v],vs,F1,F2,S1,S2,rfl,rfl,rfl,⟨⟨v,rfl⟩,h⟩,k⟩
theorem a1I {w:World} {t:Ty} {m:Mode} {xs:List t.den} {v:Value} {F S:List Nat} (h:Rep w (.sl t) m xs [v] F S):∃ A c,v = .slice A xs.length c:=by
 obtain⟨A,c,he,_⟩:=h;simp only[zh,and_true]at he;exact⟨A,c,he⟩
theorem lens {w:World} {cs:List Cell} {vs:List Value} {F S:List Nat} (B:Option Addr) (h:a0K w cs vs F S):∀ p,a1S cs p →
   ∃ F1 Fm F2 S1 Sm S2 us ad,F=F1++(Fm++F2)/\S=S1++(Sm++S2)/\a0K w (a0W cs p) us Fm Sm/\Loc w vs B p ad us ∧
     ∀ w' new Fm' Sm' cs',a0a w w' (F1++F2++S1++S2)->a0K w' new us Fm' Sm'->a2m cs p new=some cs'->a0K w' cs' vs (F1++(Fm'++F2)) (S1++(Sm'++S2)):=by
 intro p;induction p with
 | root j =>
   intro hj;obtain⟨F1,F2,S1,S2,rfl,rfl,h1,h2⟩:=a0F j h;refine⟨F1,F2,[],S1,S2,[],vs.drop j,B.map (·.add j),by simp,by simp,h2,⟨rfl,rfl⟩,?_⟩;intro w' new Fm' Sm' cs' hs hn hset;simp only[a2m,za]at hset;subst hset;have h1':=a0I h1 (a0B hs (by intro b hb;simp only[zb,zc]at hb ⊢;grind));have:=a0M h1' hn;rw[zo]at this;simpa using this
 | hop p i sz j ih =>
   rintro⟨hp,hj,t,m,xs,rest,hg,ho,hi,rfl⟩;obtain⟨F1,Fm,F2,S1,Sm,S2,us,ad,rfl,rfl,hr,hl,hu⟩:=ih hp;rw[hg]at hr;obtain⟨v,us',G1,G2,T1,T2,rfl,rfl,rfl,hc,hrest⟩:=a0T hr;obtain⟨A,c,rfl⟩:=a1I hc;obtain⟨-,b,arr,e,v1,v2,v3,sp,E1,E2,E3,D1,D2,D3,rfl,hb,harr,hl1,hl2,rfl,rfl,hel,hup⟩:=a2V ho hc hi;obtain⟨E21,E22,D21,D22,rfl,rfl,he1,he2⟩:=a0F j hel;have hget:a0W cs (.hop p i t.sz j)=(enc m.inn t (xs.getD i t.dflt)).drop j:=by simp only[a0W,hg]
   refine⟨F1++b::(E1++E21),E22,E3++(G2++F2),S1++(D1++D21),D22,D3++(T2++S2),v2.drop j,some ((⟨b,0,none⟩:Addr).add (i*t.sz+j)),by simp,by simp,by rw[hget];exact he2,
     ⟨⟨b,0,none⟩,xs.length,c,ad,us',hl,hi,rfl,by simp[hl2],fun q v hv=>?_⟩,?_⟩
   . refine a0V hb (us:=v1++v2) (sp:=v3++sp) (by rw[harr];simp) _ _ ?_;have hq:j+q<v2.length:=by
       rcases zB (j+q) v2.length with h|h
       . exact h
       . rw[zr,zn h]at hv;cases hv
     rw[zz (by omega),hl1,show i*t.sz+j+q-i*t.sz=j+q from by omega,<-zr,hv]
   . intro w' new Fm' Sm' cs' hs hn hset;simp only[a2m,hg]at hset;split at hset
     . rename_i x' hx';have hdec:=a4n hx';have h1':=a0I he1 (a0B hs (by intro b hb;simp only[zb,zc]at hb ⊢;grind));have hx:=a0M h1' hn;rw[zo]at hx;rw[hdec]at hx;have hb':w'.heap[b]? = some (.cells arr e (0,0)):=by rw[hs b (by simp)];exact hb
       have hup':=hup w' x' v2 arr _ _ hb' harr (a0B hs (by intro b hb;simp only[zb,zc]at hb ⊢;grind)) hx;have hrest':=a0I hrest (a0B hs (by intro b hb;simp only[zb,zc]at hb ⊢;grind));have:=hu w' (⟨.sl t,m,xs.set i x'⟩::rest) _ _ cs' (a0B hs (by intro b hb;simp only[zb,zc]at hb ⊢;grind)) (a2U (c:=⟨.sl t,m,xs.set i x'⟩) hup' hrest') hset;simpa using this
     . cases hset
theorem b3A {w:World} {cs:List Cell} {vs:List Value} {F S:List Nat} (B:Option Addr) (h:a0K w cs vs F S) (p:Path) (i sz j:Nat) (hp:a1S cs (.hop p i sz j)) :
   ∃ b arr e pre us post G1 G2 Fm F2 S1 Sm S2,w.heap[b]? = some (.cells arr e (0,0))/\arr.toList=pre++(us++post)/\pre.length=i*sz+j/\F=G1++b::(G2++(Fm++F2))/\S=S1++(Sm++S2) ∧
     a0K w (a0W cs (.hop p i sz j)) us Fm Sm/\Loc w vs B (.hop p i sz j) (some ((⟨b,0,none⟩:Addr).add (i*sz+j))) us ∧
     ∀ w' new us' arr' Fm' Sm' cs',w'.heap[b]? = some (.cells arr' e (0,0))->arr'.toList=pre++(us'++post)->a0a w w' (G1++G2++F2++S1++S2)->a0K w' new us' Fm' Sm' →
       a2m cs (.hop p i sz j) new=some cs'->a0K w' cs' vs (G1++b::(G2++(Fm'++F2))) (S1++(Sm'++S2)):=by
 obtain⟨hp,hj,t,m,xs,rest,hg,ho,hi,rfl⟩:=hp;obtain⟨F1,Fm,F2,S1,Sm,S2,us,ad,rfl,rfl,hr,hl,hu⟩:=lens B h p hp;rw[hg]at hr;obtain⟨v,us',G1,G2,T1,T2,rfl,rfl,rfl,hc,hrest⟩:=a0T hr;obtain⟨A,c,rfl⟩:=a1I hc;obtain⟨-,b,arr,e,v1,v2,v3,sp,E1,E2,E3,D1,D2,D3,rfl,hb,harr,hl1,hl2,rfl,rfl,hel,hup⟩:=a2V ho hc hi;obtain⟨E21,E22,D21,D22,rfl,rfl,he1,he2⟩:=a0F j hel;have hget:a0W cs (.hop p i t.sz j)=(enc m.inn t (xs.getD i t.dflt)).drop j:=by simp only[a0W,hg]
 have htk:(v2.take j).length=j:=by rw[zj,hl2];omega
 refine⟨b,arr,e,v1++v2.take j,v2.drop j,v3++sp,F1,E1++E21,E22,E3++(G2++F2),S1++(D1++D21),D22,D3++(T2++S2),hb,?_,by simp only[zy,hl1,htk],by simp,by simp,by rw[hget];exact he2,
   ⟨⟨b,0,none⟩,xs.length,c,ad,us',hl,hi,rfl,by simp[hl2],fun q v hv=>?_⟩,?_⟩
 . rw[harr];have hq:v1++(v2++v3)++sp=v1++((v2.take j++v2.drop j)++v3)++sp:=by rw[zo]
   rw[hq];simp only[zG]
 . refine a0V hb (us:=v1++v2) (sp:=v3++sp) (by rw[harr];simp) _ _ ?_;have hq:j+q<v2.length:=by
     rcases zB (j+q) v2.length with h|h
     . exact h
     . rw[zr,zn h]at hv;cases hv
   rw[zz (by omega),hl1,show i*t.sz+j+q-i*t.sz=j+q from by omega,<-zr,hv]
 . intro w' new us2 arr' Fm' Sm' cs' hb' harr' hs hn hset;simp only[a2m,hg]at hset;split at hset
   . rename_i x' hx';have hdec:=a4n hx';have h1':=a0I he1 (a0B hs (by intro b hb;simp only[zb]at hb ⊢;grind));have hx:=a0M h1' hn;rw[hdec]at hx;have hup':=hup w' x' (v2.take j++us2) arr' _ _ hb' (by rw[harr'];simp) (a0B hs (by intro b hb;simp only[zb]at hb ⊢;grind)) hx;have hrest':=a0I hrest (a0B hs (by intro b hb;simp only[zb]at hb ⊢;grind));have:=hu w' (⟨.sl t,m,xs.set i x'⟩::rest) _ _ cs' (a0B hs (by intro b hb;simp only[zb]at hb ⊢;grind)) (a2U (c:=⟨.sl t,m,xs.set i x'⟩) hup' hrest') hset;simpa using this
   . cases hset
end Go.Vm
end
section
namespace Go.Vm
structure TInfo where
 agg:Bool
 t:Ty
 elem:TypeId:=0
 fs:List (Nat×Nat×Bool):=[]
abbrev Tab:=TypeId->Option TInfo
inductive PS where
 | val (agg:Bool) (t:Ty)
 | rptr (t:Ty)
 | wr (agg:Bool) (t:Ty) (m:Mode)
 | tk (agg:Bool) (t:Ty) (m:Mode)
 | fnx (s:FSig)
 | wp (t:Ty) (m:Mode)
 | pfn (s:FSig)
abbrev PS.den:PS->Type
 | .val _ t=>t.den
 | .rptr t=>t.den
 | .wr _ t _=>t.den
 | .tk _ t _=>t.den
 | .fnx s=>Vals s.ins->Option (Outs s.outs)
 | .wp t _=>t.den
 | .pfn s=>Vals s.ins->Option (Outs s.outs)
abbrev Ins:List PS->Type
 | []=>Unit
 | p::ps=>p.den×Ins ps
abbrev Muts:List PS->Type
 | []=>Unit
 | .wr _ t _::ps=>t.den×Muts ps
 | .val _ _::ps=>Muts ps
 | .rptr _::ps=>Muts ps
 | .tk _ _ _::ps=>Muts ps
 | .fnx _::ps=>Muts ps
 | .wp t _::ps=>t.den×Muts ps
 | .pfn _::ps=>Muts ps
structure Sig where
 ps:List PS
 outs:List (OutK×Ty×Mode)
structure Callee where
 f:FuncId
 s:Sig
 F:Ins s.ps->Option (Outs s.outs×Muts s.ps)
structure Clo where
 f:FuncId
 s:FSig
 caps:List PS
 G:Ins caps->Vals s.ins->Option (Outs s.outs)
structure Ctx where
 tab:Tab
 callees:List Callee
 clos:List Clo
 eqs:List TypeId
 grows:List (FuncId×Ty)
 lits:List Nat
mutual
def TV.uses (r:Nat):TV->Bool
 | .ref r' _=>zP r' r
 | .view r' _ _ _=>zP r' r
 | .fn _ caps=>TV.usesL r caps
 | .tup _ ts=>TV.usesL r ts
 | .pfn t=>TV.uses r t
 | _=>false
def TV.usesL (r:Nat):List TV->Bool
 | []=>false
 | t::ts=>TV.uses r t||TV.usesL r ts
end
def Path.flat:Path->Bool
 | .root _=>true
 | .hop .. => false
mutual
def TV.deep (r:Nat) (v:Bool):TV->Bool
 | .ref r' p=>zP r' r&&!p.flat
 | .view r' p _ _=>zP r' r&&(v||!p.flat)
 | .fn _ caps=>TV.deepL r v caps
 | .tup _ ts=>TV.deepL r v ts
 | .pfn t=>TV.deep r v t
 | _=>false
def TV.deepL (r:Nat) (v:Bool):List TV->Bool
 | []=>false
 | t::ts=>TV.deep r v t||TV.deepL r v ts
end
def kill (r:Nat) (ts:List TV):List TV:=ts.map fun t=>match t.uses r with
 | true => .dead
 | false=>t
def a0g (r:Nat) (v:Bool) (ts:List TV):List TV:=ts.map fun t=>match t.deep r v with
 | true => .dead
 | false=>t
def St.put (σ:St) (d:Option Tmp) (t:TV):St:=match d with
 | some d=>⟨upd σ.ts d t,σ.rs⟩
 | none=>σ
def St.new (σ:St) (r:Nat) (x:Root):St:=⟨kill r σ.ts,rput σ.rs r x⟩
def St.del (σ:St) (r:Nat):St:=⟨kill r σ.ts,rdel σ.rs r⟩
mutual
def TV.ren (r d:Nat):TV->TV
 | .ref r' p => .ref (match zf r' r with | .isTrue _=>d | .isFalse _=>r') p
 | .view r' p n a => .view (match zf r' r with | .isTrue _=>d | .isFalse _=>r') p n a
 | .fn f caps => .fn f (TV.renL r d caps)
 | .tup k ts => .tup k (TV.renL r d ts)
 | .pfn t => .pfn (TV.ren r d t)
 | t=>t
def TV.renL (r d:Nat):List TV->List TV
 | []=>[]
 | t::ts=>TV.ren r d t::TV.renL r d ts
end
def St.ren (σ:St) (r d:Nat) (x:Root):St:=⟨(kill d σ.ts).map (TV.ren r d),rput (rdel σ.rs r) d x⟩
def Cell.sh (c:Cell):Cell:=⟨c.t,.sh,c.x⟩
def isSh:List Cell->Bool
 | []=>true
 | c::cs=>(match decEq c.m .sh with
   | .isTrue _=>true
   | .isFalse _=>false)&&isSh cs
def cI (n:Int):Cell:=⟨.int .i64,.sh,n⟩
def cB (b:Bool):Cell:=⟨.bool,.sh,b⟩
def vI (n:Int):TV := .val false [cI n]
def vB (b:Bool):TV := .val false [cB b]
def b0i:Value->TV
 | .int k n => .val false [⟨.int k,.sh,n⟩]
 | .bool b => .val false [⟨.bool,.sh,b⟩]
 | _ => .dead
def a0x (σ:St):Operand->TV
 | .tmp t=>nth σ.ts t .dead
 | .const v=>b0i v
 | .global _ => .dead
 | .func f => .fn f []
def asInt:TV->Option (IntKind×Int)
 | .val false [⟨.int k,.sh,x⟩]=>some (k,x)
 | _=>none
def asBool:TV->Option Bool
 | .val false [⟨.bool,.sh,x⟩]=>some x
 | _=>none
section
variable {R:Type}
def binK (op:BinOp) (x y:TV) (k:TV->Option R):Option R :=
 match asInt x,asInt y with
 | some (kx,a),some (ky,b) =>
   match decEq kx ky with
   | .isFalse _=>none
   | .isTrue _ =>
     match op with
     | .add=>k (.val false [⟨.int kx,.sh,kx.wrap (a+b)⟩])
     | .sub=>k (.val false [⟨.int kx,.sh,kx.wrap (a-b)⟩])
     | .mul=>k (.val false [⟨.int kx,.sh,kx.wrap (a*b)⟩])
     | .quo=>if b=0 then none else k (.val false [⟨.int kx,.sh,kx.wrap (a.tdiv b)⟩])
     | .rem=>if b=0 then none else k (.val false [⟨.int kx,.sh,a.tmod b⟩])
     | .eql=>k (vB (a==b))
     | .neq=>k (vB (a !=b))
     | .lss=>k (vB (decide (a<b)))
     | .leq=>k (vB (decide (a≤b)))
     | .gtr=>k (vB (decide (a>b)))
     | .geq=>k (vB (decide (a≥b)))
     | _=>none
 | _,_=>none
def eqT:(t:Ty)->t.den->t.den->Bool
 | .int _,a,b=>(a:Int)==b
 | .bool,a,b=>(a:Bool)==b
 | .pair s t,a,b=>eqT s a.1 b.1&&eqT t a.2 b.2
 | .sl _,_,_=>false
 | .any,_,_=>false
def noSl:Ty->Bool
 | .int _=>true
 | .bool=>true
 | .pair a b=>noSl a&&noSl b
 | .sl _=>false
 | .any=>false
def hasN:List Nat->Nat->Bool
 | [],_=>false
 | x::l,r=>zP x r||hasN l r
def eqB (op:BinOp) (b:Bool) (k:TV->Option R):Option R:=match op with
 | .eql=>k (vB b)
 | .neq=>k (vB (!b))
 | _=>none
def eqK (c:Ctx) (op:BinOp) (T:TypeId) (x y:TV) (k:TV->Option R):Option R :=
 match c.tab T with
 | none=>none
 | some i=>match i.agg with
   | false=>match i.t,asBool x,asBool y with
     | .bool,some a,some b=>eqB op (a==b) k
     | _,_,_=>none
   | true=>match x,y with
     | .val true cs,.val true ds=>match hasN c.eqs T&&noSl i.t with
       | true=>match a0u .sh i.t cs,a0u .sh i.t ds with
         | some a,some b=>eqB op (eqT i.t a b) k
         | _,_=>none
       | false=>none
     | _,_=>none
def isShift:BinOp->Bool
 | .shl=>true
 | .shr=>true
 | _=>false
def b0A (op:BinOp) (x y:TV) (k:TV->Option R):Option R:=match asInt x,asInt y with
 | some (kx,a),some (_,b)=>if b<0 then none else match op with
   | .shl=>k (.val false [⟨.int kx,.sh,kx.wrap (a*2 ^ (min b.toNat kx.bits))⟩])
   | .shr=>k (.val false [⟨.int kx,.sh,a.fdiv (2 ^ (min b.toNat kx.bits))⟩])
   | _=>none
 | _,_=>none
def binC (c:Ctx) (op:BinOp) (T:TypeId) (x y:TV) (k:TV->Option R):Option R:=match isShift op with
 | true=>b0A op x y k
 | false=>match asInt x with
   | some _=>binK op x y k
   | none=>eqK c op T x y k
def unK (op:UnOp) (x:TV) (k:TV->Option R):Option R :=
 match op with
 | .neg=>match asInt x with
   | some (kx,a)=>k (.val false [⟨.int kx,.sh,kx.wrap (0-a)⟩])
   | none=>none
 | .not=>match asBool x with
   | some b=>k (vB (!b))
   | none=>none
 | _=>none
inductive Src where
 | sh (agg:Bool) (cs:List Cell)
 | mv (r:Nat) (agg:Bool) (cs:List Cell)
def a1C (c:Ctx) (σ:St) (T:TypeId):Operand->Option Src
 | .const (.slice none 0 0)=>match c.tab T with
   | some ⟨false,.sl t,_,_⟩=>some (.sh false [⟨.sl t,.deep,[]⟩])
   | _=>none
 | x => match a0x σ x with
   | .val agg cs=>some (.sh agg cs)
   | .view r (.root 0) n agg=>match rget σ.rs r with
     | some ⟨_,cs⟩=>match zf n cs.length with
       | .isTrue _=>some (.mv r agg cs)
       | .isFalse _=>none
     | none=>none
   | _=>none
def a5m (c:Ctx) (asg:Bool) (o:Oper) (x:Operand) (σ:St) (k:St->Option R):Option R :=
 match o.dst with
 | none=>none
 | some d=>match x with
   | .const (.slice none 0 0)=>match c.tab o.type with
     | some ⟨false,.sl t,_,_⟩=>k ((σ.new (4*d) ⟨false,[⟨.sl t,.deep,[]⟩]⟩).put (some d) (.view (4*d) (.root 0) 1 false))
     | _=>none
   | x => match asg,a0x σ x with
     | true,.view r (.root 0) n a=>match rget σ.rs r with
       | some ⟨false,cs⟩=>match zf n cs.length,zf r (4*d)with
         | .isTrue _,.isFalse _=>k ((σ.ren r (4*d) ⟨false,cs⟩).put (some d) (.view (4*d) (.root 0) n a))
         | _,_=>k (σ.put (some d) (.view r (.root 0) n a))
       | _=>k (σ.put (some d) (.view r (.root 0) n a))
     | _,t=>k (σ.put (some d) t)
def a4T (σ:St) (r:Nat) (p:Path) (n:Nat) (agg:Bool):Option TV :=
 match rget σ.rs r with
 | some x=>match zA n (a0W x.cs p).length,isSh ((a0W x.cs p).take n)with
   | .isTrue _,true=>some (.val agg ((a0W x.cs p).take n))
   | .isTrue _,false=>some (.view r p n agg)
   | _,_=>none
 | none=>none
def a6S (c:Ctx) (T:TypeId) (a:TV) (σ:St) (k:TV->Option R):Option R :=
 match c.tab T with
 | none=>none
 | some i=>match a with
   | .rptr _ cs=>match zA i.t.sz cs.length with
     | .isTrue _=>k (.val i.agg (cs.take i.t.sz))
     | .isFalse _=>none
   | .ref r p=>match a4T σ r p i.t.sz i.agg with
     | some t=>k t
     | none=>none
   | .pfn t=>match i.agg with
     | false=>k t
     | true=>none
   | _=>none
def setM (cs:List Cell) (p:Path) (new:List Cell):Option (List Cell) :=
 match a2m cs p new with
 | some cs'=>some cs'
 | none=>match p with
   | .root _=>none
   | .hop q i _ j=>match a0W cs q with
     | ⟨.sl t,m,xs⟩::rest=>match m with
       | .sh=>none
       | _=>match a0u .sh t (((enc m.inn t (xs.getD i t.dflt)).take j++new).map Cell.sh)with
         | some x'=>a2m cs q (⟨.sl t,.shal,xs.set i x'⟩::rest)
         | none=>none
     | _=>none
def asFn:TV->Bool
 | .fn _ _=>true
 | .fnx _ _=>true
 | _=>false
def TV.boxed (r:Nat) (f:TV) (t:TV):TV:=match t with
 | .ref r' (.root 0)=>match zf r' r with
   | .isTrue _ => .pfn f
   | .isFalse _=>t
 | _=>match t.uses r with
   | true => .dead
   | false=>t
def a6v (ag:Bool) (r:Nat) (p:Path) (x:Root) (f:TV) (σ:St) (k:St->Option R):Option R :=
 match ag,p,x with
 | false,.root 0,⟨true,[⟨.any,_,_⟩]⟩=>match asFn f,f.uses r with
   | true,false=>k ⟨σ.ts.map (TV.boxed r f),rdel σ.rs r⟩
   | _,_=>none
 | _,_,_=>none
def b1Z (c:Ctx) (T:TypeId) (a:TV) (x:Operand) (σ:St) (k:St->Option R):Option R :=
 match c.tab T,a with
 | some i,.ref r p=>match rget σ.rs r,a1C c σ T x with
   | some root,some (.sh _ cs)=>match zf cs.length i.t.sz,zA i.t.sz (a0W root.cs p).length with
     | .isTrue _,.isTrue _=>match setM root.cs p (cs++(a0W root.cs p).drop i.t.sz)with
       | some cs'=>k ⟨a0g r p.flat σ.ts,rput σ.rs r ⟨root.mem,cs'⟩⟩
       | none=>none
     | _,_=>none
   | some root,some (.mv q _ cs)=>match zf cs.length i.t.sz,zA i.t.sz (a0W root.cs p).length,zf q r with
     | .isTrue _,.isTrue _,.isFalse _=>match setM root.cs p (cs++(a0W root.cs p).drop i.t.sz)with
       | some cs'=>k ⟨a0g r p.flat (kill q σ.ts),rput (rdel σ.rs q) r ⟨root.mem,cs'⟩⟩
       | none=>none
     | _,_,_=>none
   | some root,none=>a6v i.agg r p root (a0x σ x) σ k
   | _,_=>none
 | _,_=>none
def Path.addJ:Path->Nat->Path
 | .root j,n => .root (j+n)
 | .hop p i sz j,n => .hop p i sz (j+n)
def a1Z (c:Ctx) (σ:St) (T:TypeId) (x:TV) (f:Nat) (k:TV->Option R):Option R :=
 match c.tab T with
 | none=>none
 | some i=>match nth (i.fs.map some) f none with
   | none=>none
   | some (off,_,_)=>match x with
     | .rptr s cs=>match zA off cs.length with
       | .isTrue _=>k (.rptr s (cs.drop off))
       | .isFalse _=>none
     | .ref r p=>match rget σ.rs r with
       | some root=>match zA off (a0W root.cs p).length with
         | .isTrue _=>k (.ref r (p.addJ off))
         | .isFalse _=>none
       | none=>none
     | _=>none
def b1D (c:Ctx) (σ:St) (T:TypeId) (x:TV) (f:Nat) (k:TV->Option R):Option R :=
 match c.tab T with
 | none=>none
 | some i=>match nth (i.fs.map some) f none with
   | none=>none
   | some (off,sz,ag)=>match ag||zP sz 1 with
    | false=>none
    | true=>match x with
     | .val true cs=>match zA (off+sz) cs.length with
       | .isTrue _=>k (.val ag ((cs.drop off).take sz))
       | .isFalse _=>none
     | .view r (.root j) n true=>match rget σ.rs r with
       | some root=>match zA (off+sz) n,zA (j+n) root.cs.length with
         | .isTrue _,.isTrue _=>k (.view r (.root (j+off)) sz ag)
         | _,_=>none
       | none=>none
     | _=>none
def a0p (c : Ctx) (σ:St) (T:TypeId) (x:TV) (ix:TV) (k:TV->Option R):Option R :=
 match asInt ix with
 | none=>none
 | some (_,n)=>match c.tab T with
   | some ⟨false,.sl tt,_,_⟩=>match x with
     | .val false [⟨.sl t,.sh,xs⟩]=>if 0≤n/\n<(xs.length:Int)then(if t=tt then k (.rptr true (enc .sh t (xs.getD n.toNat t.dflt)))else none)else none
     | .view r p 1 false=>match rget σ.rs r with
       | none=>none
       | some root=>match a0W root.cs p with
         | ⟨.sl t,m,xs⟩::_=>if t=tt then(match m with
           | .sh=>if 0≤n/\n<(xs.length:Int)then k (.rptr true (enc .sh t (xs.getD n.toNat t.dflt)))else none
           | _=>if 0≤n/\n<(xs.length:Int)then k (.ref r (.hop p n.toNat t.sz 0))else none)else none
         | _=>none
     | _=>none
   | _=>none
def lenOf (σ:St):TV->Option Nat
 | .val false [⟨.sl _,_,xs⟩]=>some xs.length
 | .view r p 1 false=>match rget σ.rs r with
   | none=>none
   | some root=>match a0W root.cs p with
     | ⟨.sl _,_,xs⟩::_=>some xs.length
     | _=>none
 | _=>none
def boxK (c:Ctx) (o:Oper) (T:TypeId) (x:Operand) (σ:St) (k:St->Option R):Option R :=
 match o.dst with
 | none=>none
 | some d=>match a1C c σ T x with
   | some (.sh _ cs)=>k ((σ.new (4*d) ⟨true,cs⟩).put (some d) (.ref (4*d) (.root 0)))
   | some (.mv q _ cs)=>match zf q (4*d)with
     | .isTrue _=>none
     | .isFalse _=>match rget σ.rs q with
       | some ⟨false,_⟩=>k ((σ.ren q (4*d) ⟨true,cs⟩).put (some d) (.ref (4*d) (.root 0)))
       | some ⟨true,_⟩=>k (((σ.del q).new (4*d) ⟨true,cs⟩).put (some d) (.ref (4*d) (.root 0)))
       | none=>none
   | none=>match asFn (a0x σ x)with
     | true=>k (σ.put (some d) (.pfn (a0x σ x)))
     | false=>none
def a6k (c:Ctx) (o:Oper) (T:TypeId) (σ:St) (k:St->Option R):Option R :=
 match o.dst,c.tab T with
 | some d,some i=>k ((σ.new (4*d) ⟨true,enc .deep i.t i.t.dflt⟩).put (some d) (.ref (4*d) (.root 0)))
 | _,_=>none
def bigN:Nat:=1099511627776
def b1Y:Operand->Operand->Bool
 | .tmp a,.tmp b=>zP a b
 | _,_=>false
def a1l (c:Ctx) (o:Oper) (T:TypeId) (same:Bool) (l:TV) (σ:St) (k:St->Option R):Option R :=
 match same,o.dst,c.tab T,asInt l with
 | true,some d,some ⟨false,.sl t,_,_⟩,some (_,n)=>if 0≤n/\n≤(bigN:Int)then
     k ((σ.new (4*d) ⟨false,[⟨.sl t,.deep,zx n.toNat t.dflt⟩]⟩).put (some d) (.view (4*d) (.root 0) 1 false))else none
 | _,_,_,_=>none
def a7E (o:Oper) (x a b:Operand) (σ:St) (k:St->Option R):Option R :=
 match asBool (a0x σ x)with
 | some bv=>if bv=true then k (σ.put o.dst (a0x σ a))else k (σ.put o.dst (a0x σ b))
 | none=>none
def a2I (o:Oper) (x:Operand) (σ:St) (k:St->Option R):Option R :=
 match a0x σ x with
 | .rptr s cs=>k (σ.put o.dst (.rptr s cs))
 | .ref r p=>k (σ.put o.dst (.ref r p))
 | .fn f caps=>k (σ.put o.dst (.fn f caps))
 | .fnx s g=>k (σ.put o.dst (.fnx s g))
 | _=>none
def a3y (o:Oper) (x:Operand) (i:Nat) (σ:St) (k:St->Option R):Option R :=
 match a0x σ x with
 | .tup .t ts=>if i<ts.length then k (σ.put o.dst (nth ts i .dead))else none
 | _=>none
def lenK (o:Oper) (x:Operand) (σ:St) (k:St->Option R):Option R :=
 match lenOf σ (a0x σ x)with
 | some n=>k (σ.put o.dst (vI (n:Int)))
 | none=>none
def nilO:Operand->Bool
 | .const (.slice none 0 0)=>true
 | _=>false
structure Lend where
 rd:List Nat
 lent:List Nat
 wr:List (Nat×Path)
 tk:List Nat
def a7U (r:Nat) (cs:List Cell):List Nat:=match isSh cs with
 | true=>[]
 | false=>[r]
def cutL {α:Type} (xs:List α) (l h:Int):List α:=(xs.take h.toNat).drop l.toNat
def cutAs:(t:Ty)->Nat->Int->Int->t.den->Option t.den
 | .sl t,z,l,h,xs=>match zf t.sz z with
   | .isTrue _=>some (cutL (α:=t.den) xs l h)
   | .isFalse _=>none
 | _,_,_,_,_=>none
def a2L (σ:St) (agg:Bool) (t:Ty):TV->Option (t.den×List Nat×List Nat)
 | .val a cs=>match decEq a agg with
   | .isTrue _=>match a0u .sh t cs with
     | some x=>some (x,[],[])
     | none=>none
   | .isFalse _=>none
 | .view r p n a=>match decEq a agg,rget σ.rs r with
   | .isTrue _,some x=>match a0u .sh t (((a0W x.cs p).take n).map Cell.sh)with
     | some y=>some (y,[r],a7U r ((a0W x.cs p).take n))
     | none=>none
   | _,_=>none
 | .tup (.s z) [.view r p n _,l,h]=>match agg,asInt l,asInt h,rget σ.rs r with
   | false,some (_,l),some (_,h),some x=>match a0u .sh t (((a0W x.cs p).take n).map Cell.sh)with
     | some y=>match cutAs t z l h y with
       | some y'=>some (y',[r],a7U r ((a0W x.cs p).take n))
       | none=>none
     | none=>none
   | _,_,_,_=>none
 | _=>none
def a3a (σ:St) (t:Ty):TV->Option (t.den×List Nat×List Nat)
 | .rptr _ cs=>match a0u .sh t (cs.take t.sz)with
   | some x=>some (x,[],[])
   | none=>none
 | .ref r p=>match rget σ.rs r with
   | some x=>match a0u .sh t (((a0W x.cs p).take t.sz).map Cell.sh)with
     | some y=>some (y,[r],a7U r ((a0W x.cs p).take t.sz))
     | none=>none
   | none=>none
 | _=>none
def a7n (σ:St) (agg:Bool) (t:Ty) (m:Mode):TV->Option (t.den×Nat×Path)
 | .view r p n a=>match decEq a agg,zf n t.sz,rget σ.rs r with
   | .isTrue _,.isTrue _,some x=>match a0u m t ((a0W x.cs p).take n),m.own with
     | some y,true=>some (y,r,p)
     | _,_=>none
   | _,_,_=>none
 | _=>none
def a7m (σ:St) (agg:Bool) (t:Ty) (m:Mode):TV->Option (t.den×Nat)
 | .view r (.root 0) n a=>match decEq a agg,rget σ.rs r with
   | .isTrue _,some ⟨false,cs⟩=>match zf n cs.length,a0u m t cs with
     | .isTrue _,some y=>some (y,r)
     | _,_=>none
   | _,_=>none
 | _=>none
def a0U (σ:St):(ps:List PS)->List TV->Option (Ins ps×List Nat×List Nat)
 | [],[]=>some ((),[],[])
 | .val agg t::ps,a::az=>match a2L σ agg t a,a0U σ ps az with
   | some (x,l),some (y,l')=>some ((x,y),l.1++l'.1,l.2++l'.2)
   | _,_=>none
 | .rptr t::ps,a::az=>match a3a σ t a,a0U σ ps az with
   | some (x,l),some (y,l')=>some ((x,y),l.1++l'.1,l.2++l'.2)
   | _,_=>none
 | .fnx s::ps,.fnx s' g::az=>match decEq s' s,a0U σ ps az with
   | .isTrue h,some (y,l')=>some ((h▸g,y),l')
   | _,_=>none
 | _,_=>none
def a2K (σ:St) (s:FSig):List Clo->TV->Option ((Vals s.ins->Option (Outs s.outs))×List Nat×List Nat)
 | _,.fnx s' g=>match decEq s' s with
   | .isTrue h=>some (h▸g,[],[])
   | .isFalse _=>none
 | [],_=>none
 | c :: cl,.fn f caps=>match zf c.f f,decEq c.s s with
   | .isTrue _,.isTrue h=>match a0U σ c.caps caps with
     | some (y,l)=>some (h▸c.G y,l)
     | none=>none
   | _,_=>a2K σ s cl (.fn f caps)
 | _,_=>none
def a0X (σ:St) (all:List Clo):(ps:List PS)->List TV->Option (Ins ps×List Nat×List Nat)
 | [],[]=>some ((),[],[])
 | .val agg t::ps,a::az=>match a2L σ agg t a,a0X σ all ps az with
   | some (x,l),some (y,l')=>some ((x,y),l.1++l'.1,l.2++l'.2)
   | _,_=>none
 | .rptr t::ps,a::az=>match a3a σ t a,a0X σ all ps az with
   | some (x,l),some (y,l')=>some ((x,y),l.1++l'.1,l.2++l'.2)
   | _,_=>none
 | .fnx s::ps,.fnx s' g::az=>match decEq s' s,a0X σ all ps az with
   | .isTrue h,some (y,l')=>some ((h▸g,y),l')
   | _,_=>none
 | .pfn s::ps,.pfn t::az=>match a2K σ s all t,a0X σ all ps az with
   | some (x,l),some (y,l')=>some ((x,y),l.1++l'.1,l.2++l'.2)
   | _,_=>none
 | _,_=>none
def a3Z (σ:St) (s:FSig) (all:List Clo):List Clo->TV->Option ((Vals s.ins->Option (Outs s.outs))×List Nat×List Nat)
 | _,.fnx s' g=>match decEq s' s with
   | .isTrue h=>some (h▸g,[],[])
   | .isFalse _=>none
 | [],_=>none
 | c :: cl,.fn f caps=>match zf c.f f,decEq c.s s with
   | .isTrue _,.isTrue h=>match a0X σ all c.caps caps with
     | some (y,l)=>some (h▸c.G y,l)
     | none=>none
   | _,_=>a3Z σ s all cl (.fn f caps)
 | _,_=>none
def a6g (σ:St) (t:Ty) (m:Mode):TV->Option (t.den×Nat)
 | .ref r (.root 0)=>match rget σ.rs r with
   | some ⟨true,cs⟩=>match zf cs.length t.sz,a0u m t cs with
     | .isTrue _,some y=>some (y,r)
     | _,_=>none
   | _=>none
 | _=>none
def a0O (c:Ctx) (σ:St):(ps:List PS)->List TV->Option (Ins ps×Lend)
 | [],[]=>some ((),⟨[],[],[],[]⟩)
 | .val agg t::ps,a::az=>match a2L σ agg t a,a0O c σ ps az with
   | some (x,l),some (y,l')=>some ((x,y),⟨l.1++l'.rd,l.2++l'.lent,l'.wr,l'.tk⟩)
   | _,_=>none
 | .rptr t::ps,a::az=>match a3a σ t a,a0O c σ ps az with
   | some (x,l),some (y,l')=>some ((x,y),⟨l.1++l'.rd,l.2++l'.lent,l'.wr,l'.tk⟩)
   | _,_=>none
 | .wr agg t m::ps,a::az=>match a7n σ agg t m a,a0O c σ ps az with
   | some (x,q),some (y,l')=>some ((x,y),⟨l'.rd,l'.lent,q::l'.wr,l'.tk⟩)
   | _,_=>none
 | .tk agg t m::ps,a::az=>match a7m σ agg t m a,a0O c σ ps az with
   | some (x,q),some (y,l')=>some ((x,y),⟨l'.rd,l'.lent,l'.wr,q::l'.tk⟩)
   | _,_=>none
 | .fnx s::ps,a::az=>match a3Z σ s c.clos c.clos a,a0O c σ ps az with
   | some (x,l),some (y,l')=>some ((x,y),⟨l.1++l'.rd,l.2++l'.lent,l'.wr,l'.tk⟩)
   | _,_=>none
 | .wp t m::ps,a::az=>match a6g σ t m a,a0O c σ ps az with
   | some (x,q),some (y,l')=>some ((x,y),⟨l'.rd,l'.lent,(q,.root 0)::l'.wr,l'.tk⟩)
   | _,_=>none
 | _,_=>none
def b1I (rd:List Nat):List (Nat×Path)->List Nat->Bool
 | [],[]=>true
 | [(r,_)],[]=>!hasN rd r
 | [],[r]=>!hasN rd r
 | _,_=>false
def a0w:(ps:List PS)->Muts ps->List (Nat×Path)->St->Option St
 | .wr _ t m::ps,d,(r,p)::l,σ=>match rget σ.rs r with
   | some x=>match a2m x.cs p (enc m t d.1++(a0W x.cs p).drop t.sz)with
       | some cs=>a0w ps d.2 l ⟨a0g r false σ.ts,rput σ.rs r ⟨x.mem,cs⟩⟩
       | none=>none
   | none=>none
 | .wp t m::ps,d,(r,_)::l,σ=>match rget σ.rs r with
   | some x=>a0w ps d.2 l ⟨a0g r true σ.ts,rput σ.rs r ⟨x.mem,enc m t d.1⟩⟩
   | none=>none
 | .val _ _::ps,d,l,σ=>a0w ps d l σ
 | .rptr _::ps,d,l,σ=>a0w ps d l σ
 | .tk _ _ _::ps,d,l,σ=>a0w ps d l σ
 | .fnx _::ps,d,l,σ=>a0w ps d l σ
 | .pfn _::ps,d,l,σ=>a0w ps d l σ
 | [],_,[],σ=>some σ
 | _,_,_,_=>none
def a0G:List Nat->St->St
 | [],σ=>σ
 | r::l,σ=>a0G l (σ.del r)
def a3V:List (OutK×Ty×Mode)->Bool
 | []=>true
 | (k,t,m)::l=>(match k with
   | .ptr=>false
   | .fr _=>noSl t||m.isDeep
   | .val _=>noSl t||m.isDeep)&&a3V l
def a1m:List PS->Bool
 | []=>true
 | .wr _ t m::ps=>(noSl t||m.isDeep)&&a1m ps
 | .wp t m::ps=>(noSl t||m.isDeep)&&a1m ps
 | _::ps=>a1m ps
def a4F:List Nat->St->St
 | [],σ=>σ
 | r::l,σ=>match rget σ.rs r with
   | some x=>a4F l ⟨a0g r false σ.ts,rput σ.rs r ⟨x.mem,x.cs.map Cell.sh⟩⟩
   | none=>a4F l σ
def a1e (id:Nat):(outs:List (OutK×Ty×Mode))->Outs outs->St->St×List TV
 | [],_,σ=>(σ,[])
 | (.ptr,t,_)::l,d,σ=>let q:=a1e (id+1) l d.2 σ;(q.1,.rptr true (enc .sh t d.1)::q.2)
 | (.fr agg,t,_)::l,d,σ=>let q:=a1e (id+1) l d.2 σ;(q.1,.val agg (enc .sh t d.1)::q.2)
 | (.val agg,t,m)::l,d,σ=>match isSh (enc m t d.1)with
   | true=>let q:=a1e (id+1) l d.2 σ;(q.1,.val agg (enc m t d.1)::q.2)
   | false=>let q:=a1e (id+1) l d.2 (σ.new id ⟨false,enc m t d.1⟩);(q.1,.view id (.root 0) t.sz agg::q.2)
def a5n:List TV->TV
 | [t]=>t
 | ts => .tup .t ts
def a1w (id:Nat) (s:Sig) (l:Lend) (r:Outs s.outs×Muts s.ps) (σ:St):Option (St×List TV) :=
 match a0w s.ps r.2 l.wr (match a3V s.outs&&a1m s.ps with
     | true=>σ
     | false=>a4F l.lent σ)with
 | none=>none
 | some σ1=>some (a1e id s.outs r.1 (a0G l.tk σ1))
def a7N (o:Oper) (k:St->Option R):Option (St×List TV)->Option R
 | some q=>k (q.1.put o.dst (a5n q.2))
 | none=>none
def a3L (o:Oper):Nat:=match o.dst with
 | some d=>4*d
 | none=>1000000
def a3K (c:Ctx) (o:Oper) (f:FuncId) (az:List TV) (σ:St) (k:St->Option R):List Callee->Option R
 | []=>none
 | e :: l=>match zf e.f f with
   | .isTrue _=>match a0O c σ e.s.ps az with
     | some (d,ld)=>match b1I (ld.rd++ld.lent) ld.wr ld.tk with
       | true=>(e.F d).bind fun r=>a7N o k (a1w (a3L o) e.s ld r σ)
       | false=>none
     | none=>a3K c o f az σ k l
   | .isFalse _=>a3K c o f az σ k l
def a1U (σ:St):(l:List (Bool×Ty))->List TV->Option (Vals l×List Nat×List Nat)
 | [],[]=>some ((),[],[])
 | p::ps,a::az=>match a2L σ p.1 p.2 a,a1U σ ps az with
   | some (x,l),some (y,l')=>some ((x,y),l.1++l'.1,l.2++l'.2)
   | _,_=>none
 | _,_=>none
def a8C (o:Oper) (s:FSig) (g:Vals s.ins->Option (Outs s.outs)) (az:List TV) (σ:St) (k:St->Option R):Option R :=
 match a1U σ s.ins az with
 | some (d,l)=>(g d).bind fun r=>a7N o k (a1w (a3L o) ⟨[],s.outs⟩ ⟨l.1,l.2,[],[]⟩ (r,()) σ)
 | none=>none
def anyC:Cell:=⟨.any,.sh,()⟩
def bigA:Nat:=549755813888
inductive RK where
 | copy|move|share
def slOf (t:Ty):List Cell->Option (List t.den×Mode)
 | c::_=>match c.as (.sl t)with
   | some xs=>some (xs,c.m)
   | none=>none
 | []=>none
def b0F:Root->Path->Bool
 | ⟨false,[c]⟩,.root 0=>c.m.isDeep
 | _,_=>false
def a6o (f : Bool) (σ:St) (t:Ty) (x:Operand):Option (List t.den×RK×St):=match nilO x with
 | true=>some ([],.copy,σ)
 | false => match a0x σ x with
   | .val false cs=>match slOf t cs,isSh cs with
     | some (ys,_),true=>some (ys,(match noSl t with
       | true => .copy
       | false => .share),σ)
     | _,_=>none
   | .view r p 1 false=>match rget σ.rs r with
     | none=>none
     | some root=>match slOf t (a0W root.cs p)with
       | none=>none
       | some (ys,_)=>match noSl t with
         | true=>some (ys,.copy,σ)
         | false=>match f&&b0F root p with
           | true=>some (ys,.move,σ.del r)
           | false=>some (ys,.share,a4F [r] σ)
   | _=>none
def b2Z (σ:St) (t:Ty) (s:Operand):Option (List t.den×Mode×St):=match nilO s with
 | true=>some ([],.deep,σ)
 | false => match a0x σ s with
   | .view r (.root j) 1 false=>match rget σ.rs r with
     | none=>none
     | some root=>match slOf t (root.cs.drop j)with
       | none=>none
       | some (xs,m)=>match m.own with
         | false=>none
         | true=>some (xs,m,⟨a0g r false σ.ts,rput σ.rs r ⟨root.mem,root.cs.take j++anyC::root.cs.drop (j+1)⟩⟩)
   | _=>none
def a6m:RK->Mode->Option Mode
 | .copy,m=>some m
 | .move,.deep=>some .deep
 | .move,_=>none
 | .share,_=>some .shal
def a5B (σ:St) (d:Nat) (t:Ty) (m:Mode) (xs:List t.den):St:=(σ.new (4*d) ⟨false,[⟨.sl t,m,xs⟩]⟩).put (some d) (.view (4*d) (.root 0) 1 false)
def b4x (f:Bool) (σ:St) (t:Ty) (s x:Operand):Option (List t.den×List t.den×Mode×St):=match a6o f σ t x with
 | none=>none
 | some (ys,kd,σ1)=>match b2Z σ1 t s with
   | none=>none
   | some (xs,m,σ2)=>match a6m kd m with
     | none=>none
     | some m'=>some (xs,ys,m',σ2)
def appM (σ:St) (t:Ty) (s x:Operand):Option (List t.den×List t.den×Mode×St):=match b4x true σ t s x with
 | some q=>some q
 | none=>b4x false σ t s x
def a8w (c:Ctx) (o:Oper) (T:TypeId) (s x:Operand) (σ:St) (k:St->Option R):Option R :=
 match o.dst,c.tab T with
 | some d,some ⟨false,.sl t,_,_⟩=>match appM σ t s x with
   | none=>none
   | some (xs,ys,m',σ2)=>if xs.length+ys.length≤bigA then k (a5B σ2 d t m' (xs++ys))else none
 | _,_=>none
def a5p (c:Ctx) (o:Oper) (T T':TypeId) (s x:Operand) (σ:St) (k:St->Option R):Option R :=
 match o.dst,c.tab T,c.tab T',asInt (a0x σ x)with
 | some d,some ⟨false,.sl t,_,_⟩,some ⟨false,.int _,_,_⟩,some (_,n)=>match b2Z σ t s with
   | none=>none
   | some (xs,m,σ2)=>if 0≤n/\xs.length+n.toNat≤bigA then k (a5B σ2 d t m (xs++zx n.toNat t.dflt))else none
 | _,_,_,_=>none
def b3K:Path->Path->Option (Nat×Nat)
 | .hop (.root a) i sz j,.hop (.root a') i' sz' j'=>match zf a a',zf sz sz',zf j j' with
   | .isTrue _,.isTrue _,.isTrue _=>some (i,i')
   | _,_,_=>none
 | _,_=>none
def a6D (c : Ctx) (o1 o2 o3:Oper) (σ:St) (k:St->Option R):Option R :=
 match o1.op,o1.dst,o2.op,o2.dst,o3.op,o3.dst with
 | .call ⟨.builtin .append,args,ats⟩,some d1,.indexAddr T2 ax ix,some d2,.store T3 (.tmp e2) (.tmp e1),none=>match args.toList,ats.toList with
   | [s, x], [T, T']=>match zf T T',zf T T3,zf e1 d1,zf e2 d2,zf d1 d2,Nat.blt d1 σ.ts.length&&Nat.blt d2 σ.ts.length with
     | .isTrue _,.isTrue _,.isTrue _,.isTrue _,.isFalse _,true=>match c.tab T,a0x σ s with
       | some ⟨false,.sl t,_,_⟩,.view r p 1 false=>match noSl t,a6o true σ t x,rget σ.rs r with
         | true, some (ys,_,_),some root=>match slOf t (a0W root.cs p)with
           | some (xs,m)=>match m.own with
             | true=>if xs.length+ys.length≤bigA then a0p c (σ.put (some d1) .dead) T2 (a0x (σ.put (some d1) .dead) ax) (a0x (σ.put (some d1) .dead) ix) fun tv=>match tv with
               | .ref r2 p2=>match zf r2 r,b3K p p2 with
                 | .isTrue _,some ii=>if ii.1=ii.2 then(match a2m root.cs p (⟨.sl t,m,xs++ys⟩::(a0W root.cs p).drop 1)with
                   | some cs'=>k ⟨a0g r false ((σ.put (some d1) .dead).put (some d2) .dead).ts,rput σ.rs r ⟨root.mem,cs'⟩⟩
                   | none=>none)else none
                 | _,_=>none
               | _=>none else none
             | false=>none
           | none=>none
         | _,_,_=>none
       | _,_=>none
     | _,_,_,_,_,_=>none
   | _,_=>none
 | _,_,_,_,_,_=>none
def a8G {α:Type} (xs:List α) (l h:Int) (ys:List α):List α:=xs.take l.toNat++(ys.take (h-l).toNat++xs.drop (l.toNat+(ys.take (h-l).toNat).length))
def b4k (c:Ctx) (o:Oper) (T:TypeId) (d x:Operand) (σ:St) (k:St->Option R):Option R :=
 match c.tab T,a0x σ d with
 | some ⟨false,.sl t,_,_⟩,.tup (.s z) [.view r (.root j) 1 false,tl,th]=>match noSl t,asInt tl,asInt th,rget σ.rs r,a6o true σ t x with
   | true,some (_,l),some (_,h),some root,some (ys,_,_)=>match slOf t (root.cs.drop j),zf z t.sz with
     | some (xs,m),.isTrue _=>match m.own with
       | true=>if 0≤l/\l≤h/\h≤((xs:List t.den).length:Int)then k ((⟨a0g r false σ.ts,rput σ.rs r ⟨root.mem,root.cs.take j++⟨.sl t,m,a8G xs l h ys⟩::root.cs.drop (j+1)⟩⟩:St).put o.dst (vI (((ys:List t.den).take (h-l).toNat).length:Int)))else none
       | false=>none
     | _,_=>none
   | _,_,_,_,_=>none
 | _,_=>none
def a3M (c:Ctx) (e:TypeId) (t:Ty):List Operand->St->Option (List t.den×St)
 | [],σ=>some ([],σ)
 | x :: l,σ=>match a1C c σ e x with
   | some (.sh _ cs)=>match a0u .deep t cs with
     | some y=>match a3M c e t l σ with
       | some (ys,σ')=>some (y::ys,σ')
       | none=>none
     | none=>none
   | some (.mv q _ cs)=>match a0u .deep t cs with
     | some y=>match a3M c e t l (σ.del q)with
       | some (ys,σ')=>some (y::ys,σ')
       | none=>none
     | none=>none
   | none=>none
def a4G (c : Ctx) (e:TypeId) (t:Ty):List Operand->St->Option (List t.den×St)
 | [],σ=>some ([],σ)
 | x :: l, σ=>match a1C c σ e x with
   | some (.sh _ cs)=>match a0u .sh t (cs.map Cell.sh)with
     | some y=>match a4G c e t l σ with
       | some (ys,σ')=>some (y::ys,σ')
       | none=>none
     | none=>none
   | _ => match a0x σ x with
     | .view r p n _=>match rget σ.rs r with
       | none=>none
       | some root=>match a0u .sh t (((a0W root.cs p).take n).map Cell.sh)with
         | some y=>match a4G c e t l (a4F [r] σ)with
           | some (ys,σ')=>some (y::ys,σ')
           | none=>none
         | none=>none
     | _=>none
def a3W:Nat->List (Nat×Operand)->Option (List Operand)
 | _,[]=>some []
 | i,(j,x)::l=>match zf j i with
   | .isFalse _=>none
   | .isTrue _=>match a3W (i+1) l with
     | some xs=>some (x::xs)
     | none=>none
def a1x (c:Ctx) (o:Oper) (T:TypeId) (len:Nat) (parts:List (Nat×Operand)) (σ:St) (k:St->Option R):Option R :=
 match o.dst,c.tab T with
 | some d,some ⟨false,.sl t,e,_⟩=>match a3W 0 parts with
   | none=>none
   | some xs=>match zP xs.length len&&Nat.ble (len*t.sz) 16384 with
     | false=>none
     | true=>match a3M c e t xs σ with
       | some (ys,σ1)=>k (a5B σ1 d t .deep ys)
       | none=>match a4G c e t xs σ with
         | some (ys,σ1)=>k (a5B σ1 d t .shal ys)
         | none=>none
 | _,_=>none
def mmK (mx:Bool) (x y:TV) (k:TV->Option R):Option R:=match asInt x,asInt y with
 | some (kx,a),some (_,b)=>match mx with
   | true=>k (.val false [⟨.int kx,.sh,if b>a then b else a⟩])
   | false=>k (.val false [⟨.int kx,.sh,if b<a then b else a⟩])
 | _,_=>none
def a2H (o:Oper) (fn:Fn) (first caps:List Operand) (σ:St) (k:St->Option R):Option R:=match fn,first with
 | .func f,[]=>k (σ.put o.dst (.fn f (caps.map (a0x σ))))
 | _,_=>none
def a7g (σ:St) (cs:List Cell) (x:Operand):Option (List Cell):=match nilO x with
 | true=>match cs with
   | ⟨.sl t,_,_⟩::_=>some [⟨.sl t,.deep,[]⟩]
   | _=>none
 | false=>match a0x σ x with
   | .val _ pcs=>some pcs
   | _=>none
def putF (i:TInfo) (σ:St):List (Nat×Operand)->List Cell->Option (List Cell)
 | [],cs=>some cs
 | (f, x)::l,cs=>match nth (i.fs.map some) f none with
   | none=>none
   | some (off,sz,_)=>match a7g σ (cs.drop off) x with
     | none=>none
     | some pcs=>match zf pcs.length sz,zA (off+sz) cs.length with
       | .isTrue _,.isTrue _=>putF i σ l (cs.take off++(pcs++cs.drop (off+sz)))
       | _,_=>none
def a2J (c:Ctx) (σ:St) (cs:List Cell) (x:Operand):Option (List Cell×St):=match nilO x with
 | true=>match cs with
   | ⟨.sl t,_,_⟩::_=>some ([⟨.sl t,.deep,[]⟩],σ)
   | _=>none
 | false=>match a1C c σ 0 x with
   | some (.sh _ pcs)=>some (pcs,σ)
   | some (.mv q _ pcs)=>some (pcs,σ.del q)
   | none=>none
def putO (c:Ctx) (i:TInfo):List (Nat×Operand)->List Cell->St->Option (List Cell×St)
 | [],cs,σ=>some (cs,σ)
 | (f, x)::l,cs,σ=>match nth (i.fs.map some) f none with
   | none=>none
   | some (off,sz,_)=>match a2J c σ (cs.drop off) x with
     | none=>none
     | some p=>match zf p.1.length sz,zA (off+sz) cs.length with
       | .isTrue _,.isTrue _=>putO c i l (cs.take off++(p.1++cs.drop (off+sz))) p.2
       | _,_=>none
def a2x (i:TInfo) (σ:St) (parts:List (Nat×Operand)):Option (List Cell):=match putF i σ parts (enc .deep i.t i.t.dflt)with
 | some cs=>match isSh cs with
   | true=>some cs
   | false=>none
 | none=>none
def a4g (c:Ctx) (o:Oper) (T:TypeId) (parts:List (Nat×Operand)) (σ:St) (k:St->Option R):Option R:=match c.tab T with
 | some ⟨true,t,e,f::fs⟩=>match a2x ⟨true,t,e,f::fs⟩ σ parts with
   | some cs=>k (σ.put o.dst (.val true cs))
   | none=>match o.dst,putO c ⟨true,t,e,f::fs⟩ parts (enc .deep t t.dflt) σ with
     | some d,some q=>k ((q.2.new (4*d) ⟨false,q.1⟩).put (some d) (.view (4*d) (.root 0) q.1.length true))
     | _,_=>none
 | _=>none
def a9V (σ:St) (cs:List Cell) (x:Operand):Option (TV×Nat):=match nilO x with
 | true=>match cs with
   | ⟨.sl t,_,_⟩::_=>some (.val false [⟨.sl t,.deep,[]⟩],1)
   | _=>none
 | false=>match a0x σ x with
   | .val a pcs=>some (.val a pcs,pcs.length)
   | .view r p n a=>some (.view r p n a,n)
   | _=>none
def aggT (i:TInfo) (σ:St) (cs:List Cell):Nat->List (Nat×Operand)->Option (List TV)
 | j,[]=>match zf j cs.length with
   | .isTrue _=>some []
   | .isFalse _=>none
 | j,(f,x)::l=>match nth (i.fs.map some) f none with
   | none=>none
   | some (off,sz,_)=>match a9V σ (cs.drop j) x with
     | none=>none
     | some q=>match zf off j,zf q.2 sz,zA (off+sz) cs.length with
       | .isTrue _,.isTrue _,.isTrue _=>match aggT i σ cs (j+sz) l with
         | some ts=>some (q.1::ts)
         | none=>none
       | _,_,_=>none
def a6F (c:Ctx) (o:Oper) (T:TypeId) (parts:List (Nat×Operand)) (σ:St) (k:St->Option R):Option R:=match c.tab T with
 | some ⟨true,t,e,f::fs⟩=>match aggT ⟨true,t,e,f::fs⟩ σ (enc .deep t t.dflt) 0 parts with
   | some ts=>k (σ.put o.dst (.tup .a ts))
   | none=>none
 | _=>none
def a3z (c:Ctx) (S T:TypeId) (x:TV) (k:TV->Option R):Option R:=match c.tab S,c.tab T,asInt x with
 | some ⟨false,.int _,_,_⟩,some ⟨false,.int kd,_,_⟩,some (_,n)=>k (.val false [⟨.int kd,.sh,kd.wrap n⟩])
 | _,_,_=>none
def a4D (σ:St):Option Operand->Int->Option Int
 | none,d=>some d
 | some x,_=>match asInt (a0x σ x)with
   | some (_,n)=>some n
   | none=>none
def a9O (σ:St) (x:Operand):Bool:=match nilO x with
 | true=>true
 | false=>match a0x σ x with
   | .val false _=>true
   | .view _ _ _ false=>true
   | _=>false
def a6s (c:Ctx) (o:Oper) (T:TypeId) (x:Operand) (lo hi mx:Option Operand) (σ:St) (k:St->Option R):Option R:=match a9O σ x,mx,c.tab T with
 | true,none,some ⟨false,.sl t,_,_⟩=>match a4G c T (.sl t) [x] σ with
   | some ([xs],σ1)=>match a4D σ lo 0,a4D σ hi ((xs:List t.den).length:Int)with
     | some l,some h=>if 0≤l/\l≤h/\h≤((xs:List t.den).length:Int)then k (σ1.put o.dst (.val false [⟨.sl t,.sh,cutL (α:=t.den) xs l h⟩]))else none
     | _,_=>none
   | _=>none
 | _,_,_=>none
def a4A (c:Ctx) (o:Oper):Bool:=match o.dst with
 | some d=>hasN c.lits d
 | none=>false
def subK (c:Ctx) (o:Oper) (T:TypeId) (x:Operand) (lo hi mx:Option Operand) (σ:St) (k:St->Option R):Option R:=match mx,c.tab T,a0x σ x with
 | none,some ⟨false,.sl t,_,_⟩,.view r p n false=>match a2L σ false (.sl t) (.view r p n false)with
   | some (xs,_)=>match a4D σ lo 0,a4D σ hi ((xs:List t.den).length:Int)with
     | some l,some h=>if 0≤l/\l≤h/\h≤((xs:List t.den).length:Int)then k (σ.put o.dst (.tup (.s t.sz) [.view r p n false,vI l,vI h]))else none
     | _,_=>none
   | none=>none
 | _,_,_=>none
def litK (c:Ctx) (o:Oper) (T:TypeId) (len:Nat) (parts:List (Nat×Operand)) (σ:St) (k:St->Option R):Option R:=match c.tab T,len,parts with
 | some ⟨false,.sl t,_,_⟩,0,[]=>k (σ.put o.dst (.val false [⟨.sl t,.deep,[]⟩]))
 | _,_,_=>none
def b2v:List (FuncId×Ty)->FuncId->Option Ty
 | [],_=>none
 | p::l,g=>match zf p.1 g with
   | .isTrue _=>some p.2
   | .isFalse _=>b2v l g
def b4G (o:Oper) (t:Ty) (xs:List Operand) (σ:St) (k:St->Option R):Option R:=match xs with
 | [s,x]=>match nilO s,asInt (a0x σ x)with
   | true,some (.i64,n)=>if 0≤n/\n≤(bigN:Int)then a8C o ⟨[],[(.val false,.sl t,.deep)]⟩ (fun _=>some (([]:List t.den),())) [] σ k else none
   | _,_=>none
 | _=>none
def Cell.shal:Cell->Cell
 | ⟨.sl t,m,x⟩=>match m.own with
   | true=>⟨.sl t,.shal,x⟩
   | false=>⟨.sl t,m,x⟩
 | c=>c
def shal1 (r:Nat) (σ:St):St:=match rget σ.rs r with
 | some x=>⟨a0g r false σ.ts,rput σ.rs r ⟨x.mem,x.cs.map Cell.shal⟩⟩
 | none=>σ
def a5S:List Nat->St->St
 | [],σ=>σ
 | r::l,σ=>a5S l (shal1 r σ)
def a8z:List PS->List TV->List Nat
 | .wr _ _ .shal::ps,.ref r _::az=>r::a8z ps az
 | .wp _ .shal::ps,.ref r _::az=>r::a8z ps az
 | .wr _ _ .shal::ps,.view r _ _ _::az=>r::a8z ps az
 | _::ps,_::az=>a8z ps az
 | _,_=>[]
def a7i (g:FuncId) (az:List TV):List Callee->List Nat
 | []=>[]
 | e::l=>match zf e.f g with
   | .isTrue _=>a8z e.s.ps az
   | .isFalse _=>a7i g az l
def a1r (c:Ctx) (o:Oper):List Callee:=match a4A c o with
 | true=>c.callees.reverse
 | false=>c.callees
theorem a4h {c:Ctx} {o:Oper} {p:Callee->Prop} (h:∀ e∈c.callees,p e):∀ e∈a1r c o,p e:=by
 intro e he;unfold a1r at he;split at he
 . exact h e (List.mem_reverse.1 he)
 . exact h e he
def b1p (c:Ctx) (o:Oper) (g:FuncId) (f:Operand) (xs:List Operand) (caps:List TV) (σ:St) (k:St->Option R):Option R:=match a7i g (xs.map (a0x σ)++caps) c.callees with
 | []=>a3K c o g (xs.map (a0x σ)++caps) σ k (a1r c o)
 | l=>match a0x (a5S l σ) f with
   | .fn g' caps'=>a3K c o g' (xs.map (a0x (a5S l σ))++caps') (a5S l σ) k (a1r c o)
   | _=>none
def a0C (c:Ctx) (o:Oper) (σ:St) (k:St->Option R):Option R :=
 match o.op with
 | .move x=>a5m c false o x σ k
 | .assign x=>a5m c (!a4A c o) o x σ k
 | .pick x a b=>a7E o x a b σ k
 | .alloc T=>a6k c o T σ k
 | .box T x=>boxK c o T x σ k
 | .load T a=>a6S c T (a0x σ a) σ fun t=>k (σ.put o.dst t)
 | .store T a x=>match o.dst with
   | none=>b1Z c T (a0x σ a) x σ k
   | some _=>none
 | .nilCheck x=>a2I o x σ k
 | .binOp op T x y _=>binC c op T (a0x σ x) (a0x σ y) fun t=>k (σ.put o.dst t)
 | .unOp op _ x=>unK op (a0x σ x) fun t=>k (σ.put o.dst t)
 | .makeSlice T l cp=>a1l c o T (b1Y l cp) (a0x σ l) σ k
 | .fieldAddr T x f=>a1Z c σ T (a0x σ x) f fun t=>k (σ.put o.dst t)
 | .indexAddr T x i=>a0p c σ T (a0x σ x) (a0x σ i) fun t=>k (σ.put o.dst t)
 | .field T x f=>b1D c σ T (a0x σ x) f fun t=>k (σ.put o.dst t)
 | .extract x i=>a3y o x i σ k
 | .buildSlice T len parts=>match a4A c o with
   | true=>litK c o T len parts.toList σ k
   | false=>a1x c o T len parts.toList σ k
 | .makeFunc fn first caps=>a2H o fn first.toList caps.toList σ k
 | .build T parts=>match a4A c o with
   | true=>a6F c o T parts.toList σ k
   | false=>a4g c o T parts.toList σ k
 | .convert S T x=>a3z c S T (a0x σ x) fun t=>k (σ.put o.dst t)
 | .slice T x lo hi mx=>match a4A c o with
   | true=>subK c o T x lo hi mx σ k
   | false=>a6s c o T x lo hi mx σ k
 | .call cl=>match cl.callee with
   | .builtin .len=>match cl.args.toList,cl.argTypes.toList with
     | [x],[T]=>match c.tab T with
       | some ⟨false,.sl _,_,_⟩=>lenK o x σ k
       | _=>none
     | _,_=>none
   | .builtin .append=>match cl.args.toList,cl.argTypes.toList with
     | [s,x],[T,T']=>match zf T T' with
       | .isTrue _=>a8w c o T s x σ k
       | .isFalse _=>a5p c o T T' s x σ k
     | _,_=>none
   | .builtin .copy=>match cl.args.toList,cl.argTypes.toList with
     | [d,x],[T,_]=>b4k c o T d x σ k
     | _,_=>none
   | .builtin .min=>match cl.args.toList with
     | [x,y]=>mmK false (a0x σ x) (a0x σ y) fun t=>k (σ.put o.dst t)
     | _=>none
   | .builtin .max=>match cl.args.toList with
     | [x,y]=>mmK true (a0x σ x) (a0x σ y) fun t=>k (σ.put o.dst t)
     | _=>none
   | .value f=>match a0x σ f with
     | .fn g caps=>match b2v c.grows g with
       | some t=>match caps with
         | []=>b4G o t cl.args.toList σ k
         | _=>none
       | none=>b1p c o g f cl.args.toList caps σ k
     | .fnx s g=>a8C o s g (cl.args.toList.map (a0x σ)) σ k
     | _=>none
   | _=>none
 | _=>none
def opsK (c:Ctx) (all:List Oper):List Oper->St->(St->Option R)->Option R
 | [],σ,k=>k σ
 | o :: l, σ,k=>match o.guard with
   | none=>a0C c o σ fun σ'=>opsK c all l σ' k
   | some (j,want)=>match (nth (all.map some) j none).bind (·.dst)with
     | none=>none
     | some t=>match b0a (nth σ.ts t .dead)with
       | true=>opsK c all l (σ.put o.dst und) k
       | false=>match asBool (nth σ.ts t .dead)with
         | none=>none
         | some b=>if b=true then(match want with
             | true=>a0C c o ⟨upd σ.ts t (vB true),σ.rs⟩ fun σ'=>opsK c all l σ' k
             | false=>opsK c all l ((⟨upd σ.ts t (vB true),σ.rs⟩:St).put o.dst und) k)
           else(match want with
             | false=>a0C c o ⟨upd σ.ts t (vB false),σ.rs⟩ fun σ'=>opsK c all l σ' k
             | true=>opsK c all l ((⟨upd σ.ts t (vB false),σ.rs⟩:St).put o.dst und) k)
end
end Go.Vm
end
section
namespace Go.Vm
open Go.RowKit (Below)
structure Bel (w w':World):Prop where
 os:w'.os=w.os
 tape:w'.tape=w.tape
 output:w'.output=w.output
 size:w.heap.size≤w'.heap.size
 drawn:w.drawn≤w'.drawn
theorem Bel.refl (w:World):Bel w w:=⟨rfl,rfl,rfl,zH _,zH _⟩
theorem Bel.trans {a b c:World} (h:Bel a b) (k:Bel b c):Bel a c :=
 ⟨k.os.trans h.os,k.tape.trans h.tape,k.output.trans h.output,zK h.size k.size,zK h.drawn k.drawn⟩
def a0E (agg:Bool) (vs:List Value) (v:Value):Prop:=if agg=true then v = .agg vs.toArray else vs=[v]
def a5H (w:World):(l:List (Bool×Ty))->Vals l->List Value->List Nat->Prop
 | [],_,vs,S=>vs=[]/\S=[]
 | p::ps,d,vs,S=>∃ v vs' us S1 S2,vs=v::vs'/\S=S1++S2/\Rep w p.2 .sh d.1 us [] S1/\a0E p.1 us v/\a5H w ps d.2 vs' S2
def b1B (w:World) (k:OutK) (t:Ty) (m:Mode) (d:t.den) (v:Value) (F S:List Nat):Prop:=match k with
 | .val agg=>∃ us,Rep w t m d us F S/\a0E agg us v
 | .ptr=>F=[]/\∃ ad us S',v = .pointer (some ad)/\(∀ (i:Nat) (u:Value),us[i]? = some u->w.cell? (ad.add i)=some u)/\ad.block<w.heap.size/\Rep w t .sh d us [] S'/\S=ad.block::S'
 | .fr agg=>∃ us,Rep w t m d us F S/\a0E agg us v
def a4N (w:World):(l:List (OutK×Ty×Mode))->Outs l->List Value->List Nat->List Nat->Prop
 | [],_,vs,F,S=>vs=[]/\F=[]/\S=[]
 | p::ps,d,vs,F,S=>∃ v vs' F1 F2 S1 S2,vs=v::vs'/\F=F1++F2/\S=S1++S2/\b1B w p.1 p.2.1 p.2.2 d.1 v F1 S1/\a4N w ps d.2 vs' F2 S2
def retV:List Value->Value
 | [v]=>v
 | vs => .tuple vs.toArray
def b3t (w0:World) (outs:List (OutK×Ty×Mode)) (r:Outs outs) (A:List Nat) (e:Ending) (w':World):Prop :=
 ∃ vs F S,e = .returned (retV vs)/\a4N w' outs r vs F S/\F.Nodup/\(∀ b∈F,w0.heap.size≤b)/\(∀ b∈S,b∉F/\(b<w0.heap.size->b∈A))/\(∀ b,b<w0.heap.size->w'.heap[b]? = w0.heap[b]?)/\Bel w0 w'
def b0K (P:Program) (s:FSig) (g:Vals s.ins->Option (Outs s.outs)) (w:World) (v:Value) (S A:List Nat):Prop :=
 ∃ f caps, v = .func (.func f) #[] caps /\ (∃ fn, P.funcs[f]? = some fn /\ fn.body.isNone = false /\ (fn.name == "runtime.NumGoroutine") = false) /\ (∀ b ∈ S, b < w.heap.size) /\ (∀ b ∈ A, b ∈ S) ∧
   ∀ w',a0a w w' S->w.heap.size≤w'.heap.size->∀ d r vs Sa,g d=some r->a5H w' s.ins d vs Sa->Calls P f (vs.toArray++caps) w' (b3t w' s.outs r (Sa++A))
structure RG where
 vs:List Value
 blk:Option Nat
 F:List Nat
 S:List Nat
def RG.base (g:RG):Option Addr:=g.blk.map fun b=>⟨b,0,none⟩
def a0S (w:World) (x:Root) (g:RG):Prop :=
 ∃ F,a0K w x.cs g.vs F g.S ∧
   (x.mem=false/\g.blk=none/\g.F=F∨x.mem=true/\∃ b arr e,g.blk=some b/\w.heap[b]? = some (.cells arr e (0,0))/\arr.toList=g.vs/\g.F=b::F)
def TupR:TK->List Value->Value->Prop
 | .a,vs,v=>v = .agg (vs.flatMap fun v=>v.cells.toList).toArray
 | .t,vs,v=>v = .tuple vs.toArray
 | .s z,vs,v=>∃ A n cp k1 k2,∃ l h:Nat,vs=[.slice A n cp,.int k1 l,.int k2 h]/\l≤h/\h≤n/\v = .slice (if cp=l then A else A.map (·.add (l*z))) (h-l) (cp-l)
def ptrA:Bool->Nat->List Nat->List Nat
 | true,b,A=>b::A
 | false,_,A=>A
theorem b4X {s:Bool} {b:Nat} {A:List Nat}:∀ c∈ptrA s b A,c∈b::A:=by cases s<;>simp +contextual [ptrA]
theorem a8n {s:Bool} {b:Nat} {A:List Nat}:∀ c∈A,c∈ptrA s b A:=by cases s<;>simp +contextual [ptrA]
section
variable (P:Program) (rs:List (Nat×Root)) (G:Nat->RG) (w:World)
mutual
def TRep:TV->Value->List Nat->List Nat->Prop
 | .dead,_,S,A=>S=[]/\A=[]
 | .val agg cs,v,S,A=>A=S/\∃ vs,a0K w cs vs [] S/\a0E agg vs v
 | .rptr s cs,v,S,A=>∃ ad vs A0,v = .pointer (some ad)/\(∀ i u,vs[i]? = some u->w.cell? (ad.add i)=some u)/\ad.block<w.heap.size/\a0K w cs vs [] A0/\S=ad.block::A0/\A=ptrA s ad.block A0
 | .ref r p,v,S,A=>S=[]/\A=[]/\∃ x ad us,rget rs r=some x/\a1S x.cs p/\Loc w (G r).vs (G r).base p (some ad) us/\v = .pointer (some ad)
 | .view r p n agg,v,S,A=>S=[]/\A=[]/\∃ x ad us,rget rs r=some x/\a1S x.cs p/\Loc w (G r).vs (G r).base p ad us/\n≤us.length/\a0E agg (us.take n) v
 | .fn f caps,v,S,A=>∃ vs,v = .func (.func f) #[] vs.toArray/\a1A caps vs S A
 | .fnx s g,v,S,A=>b0K P s g w v S A
 | .tup k ts,v,S,A=>∃ vs,TupR k vs v/\a1A ts vs S A
 | .pfn t,v,S,A=>∃ ad u S0,v = .pointer (some ad)/\w.cell? ad=some u/\ad.block<w.heap.size/\TRep t u S0 A/\S=ad.block::S0
def a1A:List TV->List Value->List Nat->List Nat->Prop
 | [],vs,S,A=>vs=[]/\S=[]/\A=[]
 | t::ts,vs,S,A=>∃ v vs' S1 S2 A1 A2,vs=v::vs'/\S=S1++S2/\A=A1++A2/\TRep t v S1 A1/\a1A ts vs' S2 A2
end
end
structure Env where
 w0:World
 M:List Nat
 A:List Nat
 ma:∀ b∈M,b∈A
def Fine (E:Env) (G:Nat->RG) (S:List Nat):Prop:=∀ b∈S,(∀ r,b∉(G r).F)/\(b<E.w0.heap.size->b∈E.A)
structure Fine2 (E:Env) (G:Nat->RG) (S A:List Nat):Prop where
 free:∀ b∈S,∀ r,b∉(G r).F
 inA:∀ b∈A,b<E.w0.heap.size->b∈E.A
theorem Fine.two {E:Env} {G:Nat->RG} {S:List Nat} (h:Fine E G S):Fine2 E G S S:=⟨fun b hb=>(h b hb).1,fun b hb=>(h b hb).2⟩
theorem Fine2.one {E:Env} {G:Nat->RG} {S:List Nat} (h:Fine2 E G S S):Fine E G S:=fun b hb=>⟨h.free b hb,h.inA b hb⟩
theorem Fine2.sub {E:Env} {G:Nat->RG} {S A S' A':List Nat} (h:Fine2 E G S A) (h1:∀ b∈S',b∈S) (h2:∀ b∈A',b∈A):Fine2 E G S' A':=⟨fun b hb=>h.free b (h1 b hb),fun b hb=>h.inA b (h2 b hb)⟩
theorem Fine2.nil (E:Env) (G:Nat->RG):Fine2 E G [] []:=⟨by simp,by simp⟩
structure RelR (E:Env) (rs:List (Nat×Root)) (w:World) (G:Nat->RG):Prop where
 roots:∀ r x,rget rs r=some x->a0S w x (G r)
 lt:∀ r,∀ b∈(G r).F,b<w.heap.size
 nodup:∀ r,(G r).F.Nodup
 fin:∃ n,∀ r,n≤r->rget rs r=none/\(G r).F=[]
 disj:∀ r r' b,b∈(G r).F->b∈(G r').F->r=r'
 shr:∀ r x,rget rs r=some x->Fine E G (G r).S
 own:∀ r b,b∈(G r).F->E.w0.heap.size≤b∨b∈E.M
 frame:∀ b,b<E.w0.heap.size->b∉E.M->w.heap[b]? = E.w0.heap[b]?
 base:Bel E.w0 w
def RelT (P:Program) (E:Env) (ts:List TV) (rs:List (Nat×Root)) (tmps:Array Value) (w:World) (G:Nat->RG):Prop :=
 tmps.size=ts.length/\∀ (i:Nat) (t:TV),ts[i]? = some t->∃ v S A,tmps[i]? = some v/\TRep P rs G w t v S A/\Fine2 E G S A
structure Rel (P:Program) (E:Env) (σ:St) (a:Act) (w:World) (G:Nat->RG):Prop where
 defers:a.defers=[]
 temps:RelT P E σ.ts σ.rs a.tmps w G
 r:RelR E σ.rs w G
theorem a0m {α:Type}:∀ (l:List α) (i:Nat) (d:α),nth l i d=l[i]?.getD d
 | [],_,_=>by simp[nth]
 | _::_,0,_=>by simp[nth]
 | _::l,i+1,d=>by simp[nth,a0m l i d]
theorem a5h {α:Type}:∀ (l:List α) (i:Nat) (x:α),upd l i x=l.set i x
 | [],_,_=>by simp[upd]
 | _::_,0,_=>by simp[upd]
 | _::l,i+1,x=>by simp[upd,a5h l i x]
theorem a0D (l:List (Nat×Root)) (r q:Nat):rget (rdel l r) q=if q=r then none else rget l q:=by
 induction l with
 | nil=>simp[rdel,rget]
 | cons p l ih =>
   obtain⟨i,x⟩:=p;simp only[rdel];by_cases hi:i=r
   . cases h:zf i r with
     | isFalse h'=>exact absurd hi h'
     | isTrue _ =>
       simp only[ih,rget];by_cases hq:q=r
       . simp[hq]
       . cases h:zf i q with
         | isTrue h'=>omega
         | isFalse _=>rfl
   . cases h:zf i r with
     | isTrue h'=>exact absurd h' hi
     | isFalse _ =>
       simp only[rget,ih];by_cases hq:i=q
       . subst hq;simp[hi]
       . cases h:zf i q with
         | isTrue h'=>exact absurd h' hq
         | isFalse _=>rfl
theorem a0j (l:List (Nat×Root)) (r q:Nat) (x:Root):rget (rput l r x) q=if q=r then some x else rget l q:=by
 simp only[rput,rget];cases h:zf r q with
 | isTrue h'=>simp[h']
 | isFalse h'=>rw[a0D];simp[Ne.symm h']
end Go.Vm
end
section
namespace Go.Vm
variable {P:Program}
theorem a4s {w w':World} {cs:List Cell} {vs:List Value} {F S:List Nat} {B:Option Addr} (h:a0K w cs vs F S):∀ {p:Path} {ad:Option Addr} {us:List Value},a1S cs p->Loc w vs B p ad us->a0a w w' F->Loc w' vs B p ad us:=by
 intro p;induction p with
 | root j=>intro ad us _ hl _;exact hl
 | hop p i sz j ih =>
   rintro ad us hp ⟨A,n,c,ad',us',hl,hi,rfl,hlen,hc⟩ hs;refine⟨A,n,c,ad',us',ih hp.1 hl hs,hi,rfl,hlen,fun q v hv=>?_⟩;obtain⟨b,arr,e,pre,us2,post,G1,G2,Fm,F2,S1,Sm,S2,hb,harr,hpre,rfl,rfl,hr,hl2,-⟩:=b3A B h p i sz j hp;have hA:A.add (i*sz+j)=(⟨b,0,none⟩:Addr).add (i*sz+j):=by
     obtain⟨A2,n2,c2,ad2,us3,hl3,_,he,_⟩:=hl2;obtain⟨-,h3⟩:=a0r hl hl3;simp only[zh,Value.slice.injEq,za]at h3;rw[h3.1.1];exact(zd he).symm
   have hblk:A.block=b:=by
     have:=congrArg Addr.block hA;simpa only[a0P]using this
   have hq:=a1s (w:=w) (w':=w') (a:=A.add (i*sz+j+q)) (by rw[a0P,hblk];exact hs b (by simp));rw[hq];exact hc q v hv
theorem a3x {s:FSig} {g:Vals s.ins->Option (Outs s.outs)} {w w':World} {v:Value} {S A:List Nat} (h:b0K P s g w v S A) (hs:a0a w w' S) (hz:w.heap.size≤w'.heap.size):b0K P s g w' v S A:=by
 obtain⟨f,caps,rfl,he,hlt,hA,h⟩:=h;refine⟨f,caps,rfl,he,fun b hb=>zl (hlt b hb) hz,hA,fun w2 h2 hz2=>h w2 (fun b hb=>?_) (zK hz hz2)⟩;rw[h2 b hb,hs b hb]
mutual
theorem a0t {rs:List (Nat×Root)} {G:Nat->RG} {w w':World} (hR:∀ r x,rget rs r=some x->a0S w x (G r)) (hF:∀ r x,rget rs r=some x->a0a w w' (G r).F) (hz:w.heap.size≤w'.heap.size) :
   ∀ (t:TV) (v:Value) (S A:List Nat),TRep P rs G w t v S A->a0a w w' S->TRep P rs G w' t v S A
 | .dead,_,_,_,h,_=>h
 | .val agg cs,v,S,A,h,hs=>by
   obtain⟨rfl,vs,h1,h2⟩:=h;exact⟨rfl,vs,a0I h1 (by simpa using hs),h2⟩
 | .rptr s cs,v,S,A,h,hs=>by
   obtain⟨ad,vs,A0,rfl,hc,hlt,h1,rfl,rfl⟩:=h;refine⟨ad,vs,A0,rfl,fun i u hu=>?_,zl hlt hz,a0I h1 (a0B hs (by simp +contextual)),rfl,rfl⟩;have hq:=a1s (w:=w) (w':=w') (a:=ad.add i) (by rw[a0P];exact hs _ (by simp));rw[hq];exact hc i u hu
 | .ref r p,v,S,A,h,hs=>by
   obtain⟨rfl,rfl,x,ad,us,hx,hp,hl,rfl⟩:=h;obtain⟨F,hr,hm⟩:=hR r x hx;refine⟨rfl,rfl,x,ad,us,hx,hp,a4s hr hp hl (a0B (hF r x hx) fun b hb=>?_),rfl⟩;rcases hm with⟨_,_,he⟩|⟨_,_,_,_,_,_,_,he⟩<;>rw[he]
   . exact hb
   . exact zk _ hb
 | .view r p n agg,v,S,A,h,hs=>by
   obtain⟨rfl,rfl,x,ad,us,hx,hp,hl,h1,h2⟩:=h;obtain⟨F,hr,hm⟩:=hR r x hx;refine⟨rfl,rfl,x,ad,us,hx,hp,a4s hr hp hl (a0B (hF r x hx) fun b hb=>?_),h1,h2⟩;rcases hm with⟨_,_,he⟩|⟨_,_,_,_,_,_,_,he⟩<;>rw[he]
   . exact hb
   . exact zk _ hb
 | .fn f caps,v,S,A,h,hs=>by
   obtain⟨vs,rfl,h⟩:=h;exact⟨vs,rfl,a4c hR hF hz caps vs S A h hs⟩
 | .fnx s g,v,S,A,h,hs=>by
   exact a3x h hs hz
 | .tup k ts,v,S,A,h,hs=>by
   obtain⟨vs,hv,h⟩:=h;exact⟨vs,hv,a4c hR hF hz ts vs S A h hs⟩
 | .pfn t,v,S,A,h,hs=>by
   obtain⟨ad,u,S0,rfl,hc,hlt,h,rfl⟩:=h;refine⟨ad,u,S0,rfl,?_,zl hlt hz,a0t hR hF hz t u S0 A h (a0B hs (by simp +contextual)),rfl⟩;rw[a1s (w:=w) (w':=w') (a:=ad) (hs _ (by simp))];exact hc
theorem a4c {rs:List (Nat×Root)} {G:Nat->RG} {w w':World} (hR:∀ r x,rget rs r=some x->a0S w x (G r)) (hF:∀ r x,rget rs r=some x->a0a w w' (G r).F) (hz:w.heap.size≤w'.heap.size) :
   ∀ (ts:List TV) (vs:List Value) (S A:List Nat),a1A P rs G w ts vs S A->a0a w w' S->a1A P rs G w' ts vs S A
 | [],_,_,_,h,_=>h
 | t::ts,vs,S,A,h,hs=>by
   obtain⟨v,vs',S1,S2,A1,A2,rfl,rfl,rfl,h1,h2⟩:=h;exact⟨v,vs',S1,S2,A1,A2,rfl,rfl,rfl,a0t hR hF hz t v S1 A1 h1 (a0B hs (by simp +contextual)),a4c hR hF hz ts vs' S2 A2 h2 (a0B hs (by simp +contextual))⟩
end
mutual
theorem a1k {rs rs':List (Nat×Root)} {G G':Nat->RG} {w:World} (r:Nat) (hrs:∀ q,q≠r->rget rs' q=rget rs q) (hG:∀ q,q≠r->rget rs q≠none->G' q=G q) :
   ∀ (t:TV) (v:Value) (S A:List Nat),t.uses r=false->TRep P rs G w t v S A->TRep P rs' G' w t v S A
 | .dead,_,_,_,_,h=>h
 | .val agg cs,v,S,A,_,h=>h
 | .rptr s cs,v,S,A,_,h=>h
 | .ref q p,v,S,A,hu,h=>by
   have hq:q≠r:=zw hu;obtain⟨rfl,rfl,x,ad,us,hx,hp,hl,rfl⟩:=h;exact⟨rfl,rfl,x,ad,us,by rw[hrs q hq];exact hx,hp,by rw[hG q hq (by rw[hx];simp)];exact hl,rfl⟩
 | .view q p n agg,v,S,A,hu,h=>by
   have hq:q≠r:=zw hu;obtain⟨rfl,rfl,x,ad,us,hx,hp,hl,h1,h2⟩:=h;exact⟨rfl,rfl,x,ad,us,by rw[hrs q hq];exact hx,hp,by rw[hG q hq (by rw[hx];simp)];exact hl,h1,h2⟩
 | .fn f caps,v,S,A,hu,h=>by
   obtain⟨vs,rfl,h⟩:=h;exact⟨vs,rfl,a4b r hrs hG caps vs S A (by simpa[TV.uses]using hu) h⟩
 | .fnx s g,v,S,A,_,h=>h
 | .tup k ts,v,S,A,hu,h=>by
   obtain⟨vs,hv,h⟩:=h;exact⟨vs,hv,a4b r hrs hG ts vs S A (by simpa[TV.uses]using hu) h⟩
 | .pfn t,v,S,A,hu,h=>by
   obtain⟨ad,u,S0,rfl,hc,hlt,h,rfl⟩:=h;exact⟨ad,u,S0,rfl,hc,hlt,a1k r hrs hG t u S0 A (by simpa[TV.uses]using hu) h,rfl⟩
theorem a4b {rs rs':List (Nat×Root)} {G G':Nat->RG} {w:World} (r:Nat) (hrs:∀ q,q≠r->rget rs' q=rget rs q) (hG:∀ q,q≠r->rget rs q≠none->G' q=G q) :
   ∀ (ts:List TV) (vs:List Value) (S A:List Nat),TV.usesL r ts=false->a1A P rs G w ts vs S A->a1A P rs' G' w ts vs S A
 | [],_,_,_,_,h=>h
 | t::ts,vs,S,A,hu,h=>by
   obtain⟨v,vs',S1,S2,A1,A2,rfl,rfl,rfl,h1,h2⟩:=h;simp only[TV.usesL,zL]at hu;exact⟨v,vs',S1,S2,A1,A2,rfl,rfl,rfl,a1k r hrs hG t v S1 A1 hu.1 h1,a4b r hrs hG ts vs' S2 A2 hu.2 h2⟩
end
mutual
theorem a1L {rs rs':List (Nat×Root)} {G G':Nat->RG} {w w':World} (r:Nat) (v0:Bool) (x x':Root) (hx:rget rs r=some x) (hx':rget rs' r=some x') (hlen:x.cs.length≤x'.cs.length) (hblk:(G' r).blk=(G r).blk)
   (hvs:v0=false->(G' r).vs=(G r).vs) (hrs:∀ q,q≠r->rget rs' q=rget rs q) (hG:∀ q,q≠r->rget rs q≠none->G' q=G q)
   (hR:∀ q y,rget rs q=some y->a0S w y (G q)) (hF:∀ q,q≠r->a0a w w' (G q).F) (hz:w.heap.size≤w'.heap.size) :
   ∀ (t:TV) (v:Value) (S A:List Nat),t.deep r v0=false->TRep P rs G w t v S A->a0a w w' S->TRep P rs' G' w' t v S A
 | .dead,_,_,_,_,h,_=>h
 | .val agg cs,v,S,A,_,h,hs=>by
   obtain⟨rfl,vs,h1,h2⟩:=h;exact⟨rfl,vs,a0I h1 (by simpa using hs),h2⟩
 | .rptr s cs,v,S,A,_,h,hs=>by
   obtain⟨ad,vs,A0,rfl,hc,hlt,h1,rfl,rfl⟩:=h;refine⟨ad,vs,A0,rfl,fun i u hu=>?_,zl hlt hz,a0I h1 (a0B hs (by simp +contextual)),rfl,rfl⟩;have hq:=a1s (w:=w) (w':=w') (a:=ad.add i) (by rw[a0P];exact hs _ (by simp));rw[hq];exact hc i u hu
 | .ref q p,v,S,A,hu,h,hs=>by
   obtain⟨rfl,rfl,y,ad,us,hy,hp,hl,rfl⟩:=h;by_cases hq:q=r
   . subst hq;cases p with
     | hop p i sz j=>simp[TV.deep,Path.flat]at hu
     | root j =>
       obtain⟨h1,-⟩:=hl;rw[hx]at hy;obtain rfl:=zd hy;refine⟨rfl,rfl,x',ad,_,hx',zK hp hlen,⟨?_,rfl⟩,rfl⟩;rw[h1];simp only[RG.base,hblk]
   . obtain⟨F,hr,hm⟩:=hR q y hy;refine⟨rfl,rfl,y,ad,us,by rw[hrs q hq];exact hy,hp,?_,rfl⟩;rw[hG q hq (by rw[hy];simp)];refine a4s hr hp hl (a0B (hF q hq) fun b hb=>?_);rcases hm with⟨_,_,he⟩|⟨_,_,_,_,_,_,_,he⟩<;>rw[he]
     . exact hb
     . exact zk _ hb
 | .view q p n agg,v,S,A,hu,h,hs=>by
   obtain⟨rfl,rfl,y,ad,us,hy,hp,hl,h1,h2⟩:=h;by_cases hq:q=r
   . subst hq;cases p with
     | hop p i sz j=>simp[TV.deep,Path.flat]at hu
     | root j =>
       have hv:v0=false:=by simpa[TV.deep,Path.flat]using hu
       obtain⟨h3,h4⟩:=hl;rw[hx]at hy;obtain rfl:=zd hy;refine⟨rfl,rfl,x',ad,us,hx',zK hp hlen,⟨?_,?_⟩,h1,h2⟩
       . rw[h3];simp only[RG.base,hblk]
       . rw[h4,hvs hv]
   . obtain⟨F,hr,hm⟩:=hR q y hy;refine⟨rfl,rfl,y,ad,us,by rw[hrs q hq];exact hy,hp,?_,h1,h2⟩;rw[hG q hq (by rw[hy];simp)];refine a4s hr hp hl (a0B (hF q hq) fun b hb=>?_);rcases hm with⟨_,_,he⟩|⟨_,_,_,_,_,_,_,he⟩<;>rw[he]
     . exact hb
     . exact zk _ hb
 | .fn f caps,v,S,A,hu,h,hs=>by
   obtain⟨vs,rfl,h⟩:=h;exact⟨vs,rfl,a4d r v0 x x' hx hx' hlen hblk hvs hrs hG hR hF hz caps vs S A (by simpa[TV.deep]using hu) h hs⟩
 | .fnx s g,v,S,A,_,h,hs=>by
   exact a3x h hs hz
 | .tup k ts,v,S,A,hu,h,hs=>by
   obtain⟨vs,hv,h⟩:=h;exact⟨vs,hv,a4d r v0 x x' hx hx' hlen hblk hvs hrs hG hR hF hz ts vs S A (by simpa[TV.deep]using hu) h hs⟩
 | .pfn t,v,S,A,hu,h,hs=>by
   obtain⟨ad,u,S0,rfl,hc,hlt,h,rfl⟩:=h;refine⟨ad,u,S0,rfl,?_,zl hlt hz,a1L r v0 x x' hx hx' hlen hblk hvs hrs hG hR hF hz t u S0 A (by simpa[TV.deep]using hu) h (a0B hs (by simp +contextual)),rfl⟩;rw[a1s (w:=w) (w':=w') (a:=ad) (hs _ (by simp))];exact hc
theorem a4d {rs rs':List (Nat×Root)} {G G':Nat->RG} {w w':World} (r:Nat) (v0:Bool) (x x':Root) (hx:rget rs r=some x) (hx':rget rs' r=some x') (hlen:x.cs.length≤x'.cs.length) (hblk:(G' r).blk=(G r).blk)
   (hvs:v0=false->(G' r).vs=(G r).vs) (hrs:∀ q,q≠r->rget rs' q=rget rs q) (hG:∀ q,q≠r->rget rs q≠none->G' q=G q)
   (hR:∀ q y,rget rs q=some y->a0S w y (G q)) (hF:∀ q,q≠r->a0a w w' (G q).F) (hz:w.heap.size≤w'.heap.size) :
   ∀ (ts:List TV) (vs:List Value) (S A:List Nat),TV.deepL r v0 ts=false->a1A P rs G w ts vs S A->a0a w w' S->a1A P rs' G' w' ts vs S A
 | [],_,_,_,_,h,_=>h
 | t::ts,vs,S,A,hu,h,hs=>by
   obtain⟨v,vs',S1,S2,A1,A2,rfl,rfl,rfl,h1,h2⟩:=h;simp only[TV.deepL,zL]at hu;exact⟨v,vs',S1,S2,A1,A2,rfl,rfl,rfl,a1L r v0 x x' hx hx' hlen hblk hvs hrs hG hR hF hz t v S1 A1 hu.1 h1 (a0B hs (by simp +contextual)),a4d r v0 x x' hx hx' hlen hblk hvs hrs hG hR hF hz ts vs' S2 A2 hu.2 h2 (a0B hs (by simp +contextual))⟩
end
end Go.Vm
end
section
namespace Go.Vm
variable {P:Program}
def zvs:Ty->List Value
 | .int k=>[.int k 0]
 | .bool=>[.bool false]
 | .pair a b=>zvs a++zvs b
 | .sl _=>[.slice none 0 0]
 | .any=>[.nilFunc]
def a3i (i:TInfo):Value:=if i.agg=true then .agg (zvs i.t).toArray else(zvs i.t).head?.getD undef
structure TabOK (P:Program) (tab:Tab):Prop where
 info:∀ T i,tab T=some i->∃ inf,P.info? T=some inf/\inf.size=i.t.sz/\0<inf.bytes/\inf.bytes≤256/\inf.zero=some (a3i i)
 plain:∀ T i,tab T=some i->i.agg=false->i.t.sz=1
 agg:∀ T i,tab T=some i->∃ d,P.underlying T=some d/\(match d with | .struct _ | .array _ _=>true|_=>false)=i.agg
 slice:∀ T t e fs,tab T=some ⟨false,.sl t,e,fs⟩->P.underlying T=some (.slice e)/\∃ i,tab e=some i/\i.t=t
 field:∀ T i (f off sz:Nat) (ag:Bool),tab T=some i->i.fs[f]? = some (off,sz,ag) →
   ∃ (fields:Array Field) (fd:Field) (d:TypeDesc),P.underlying T=some (.struct fields)/\fields[f]? = some fd/\fd.offset=off/\(∃ inf,P.info? fd.type=some inf/\inf.size=sz)/\sz≠0 ∧
     P.underlying fd.type=some d/\(match d with | .struct _ | .array _ _=>true|_=>false)=ag
 flds:∀ T i,tab T=some i->i.fs≠[]->∃ fields,P.underlying T=some (.struct fields)/\fields.size=i.fs.length
 bool:∀ T i,tab T=some i->i.t = .bool->i.agg=false->P.underlying T=some .bool
 int:∀ T k e fs,tab T=some ⟨false,.int k,e,fs⟩->P.underlying T=some (.int k)
 fn:∀ T e fs,tab T=some ⟨false,.any,e,fs⟩->∃ ps rs v,P.underlying T=some (.func ps rs v)
theorem a0q {E:Env} {σ:St} {a:Act} {w:World} {G:Nat->RG} (h:Rel P E σ a w G) (x:Operand):∃ S A,TRep P σ.rs G w (a0x σ x) (a.eval x) S A/\Fine2 E G S A:=by
 cases x with
 | tmp t =>
   simp only[a0x,a0m,Act.eval];cases ht:σ.ts[t]? with
   | none=>exact⟨[],[],⟨rfl,rfl⟩,Fine2.nil _ _⟩
   | some tv =>
     obtain⟨v,S,A,hv,hr,hf⟩:=h.temps.2 t tv ht;refine⟨S,A,?_,hf⟩;simp only[zY];rw[Array.getD_eq_getD_getElem?,hv];exact hr
 | const v =>
   refine⟨[],[],?_,Fine2.nil _ _⟩;cases v<;>first
     | exact⟨rfl,rfl⟩
     | exact⟨rfl,_,⟨_,_,[],[],[],[],rfl,rfl,rfl,⟨⟨_,rfl⟩,rfl,rfl,rfl⟩,⟨rfl,rfl,rfl⟩⟩,rfl⟩
 | global g=>exact⟨[],[],⟨rfl,rfl⟩,Fine2.nil _ _⟩
 | func f=>exact⟨[],[],⟨[],rfl,rfl,rfl,rfl⟩,Fine2.nil _ _⟩
theorem b4a (a:Act) (d:Option Tmp) (v:Value):(a.put d v).tmps=match d with|some d=>a.tmps.setIfInBounds d v|none=>a.tmps:=by cases d<;>rfl
theorem b4c {E:Env} {ts:List TV} {rs:List (Nat×Root)} {tmps:Array Value} {w:World} {G:Nat->RG} (h:RelT P E ts rs tmps w G) (d:Nat) {t:TV} {v:Value} {S A:List Nat} (ht:TRep P rs G w t v S A) (hf:Fine2 E G S A) :
   RelT P E (upd ts d t) rs (tmps.setIfInBounds d v) w G:=by
 refine⟨by simp[a5h,h.1],fun i u hu=>?_⟩;rw[a5h,List.getElem?_set]at hu;by_cases hi:d=i
 . subst hi;by_cases hl:d<ts.length
   . simp only[hl,if_true]at hu;obtain rfl:=zd hu;exact⟨v,S,A,by simp[h.1,hl],ht,hf⟩
   . simp[hl]at hu
 . simp only[hi,if_false]at hu;obtain⟨v',S',A',hv',h'⟩:=h.2 i u hu;exact⟨v',S',A',by rw[Array.getElem?_setIfInBounds_ne hi];exact hv',h'⟩
theorem a0A {E:Env} {σ:St} {a:Act} {w:World} {G:Nat->RG} (h:Rel P E σ a w G) (d:Option Tmp) {t:TV} {v:Value} {S A:List Nat} (ht:TRep P σ.rs G w t v S A) (hf:Fine2 E G S A) :
   Rel P E (σ.put d t) (a.put d v) w G:=by
 cases d with
 | none=>exact h
 | some d=>exact⟨h.defers,b4c h.temps d ht hf,h.r⟩
def Good (P:Program) (E:Env) {R:Type} (o:Oper) (a:Act) (w:World) (k:St->Option R) (r:R):Prop :=
 ∀ Q,o.wp P a w (fun a' w'=>∃ σ' G',Rel P E σ' a' w' G'/\k σ'=some r) Q
theorem a0v {E:Env} {R:Type} {o:Oper} {a:Act} {w w':World} {k:St->Option R} {r:R} {v:Value} {σ':St} {G':Nat->RG}
   (hrun:(execOp a.eval o).run P w = .ok (.value v) w') (h:Rel P E σ' (a.put o.dst v) w' G') (hk:k σ'=some r):Good P E o a w k r:=by
 intro Q;unfold Oper.wp;rw[hrun,Oper.upon_value];exact⟨σ',G',h,hk⟩
theorem a1y {rs:List (Nat×Root)} {G:Nat->RG} {w:World} {t:TV} {v:Value} {S A:List Nat} {k:IntKind} {x:Int} (h:TRep P rs G w t v S A) (ht:asInt t=some (k,x)):v = .int k x:=by
 unfold asInt at ht;split at ht
 . rename_i k' y;simp only[za,ze]at ht;obtain⟨rfl,rfl⟩:=ht;obtain⟨rfl,vs,hr,hs⟩:=h;obtain⟨u,us,F1,F2,S1,S2,rfl,hF,rfl,hc,h2⟩:=a0T hr;obtain⟨he,-,-⟩:=hc;obtain⟨rfl,-,-⟩:=h2;simp only[a0E,zs,if_false]at hs;simp only[zh,and_true]at he hs;exact hs.symm.trans he
 . cases ht
theorem a2M {rs:List (Nat×Root)} {G:Nat->RG} {w:World} {t:TV} {v:Value} {S A:List Nat} {x:Bool} (h:TRep P rs G w t v S A) (ht:asBool t=some x):v = .bool x:=by
 unfold asBool at ht;split at ht
 . rename_i y;simp only[za]at ht;obtain rfl:=ht;obtain⟨rfl,vs,hr,hs⟩:=h;obtain⟨u,us,F1,F2,S1,S2,rfl,hF,rfl,hc,h2⟩:=a0T hr;obtain⟨he,-,-⟩:=hc;obtain⟨rfl,-,-⟩:=h2;simp only[a0E,zs,if_false]at hs;simp only[zh,and_true]at he hs;exact hs.symm.trans he
 . cases ht
theorem a1E (rs:List (Nat×Root)) (G:Nat->RG) (w:World) (k:IntKind) (x:Int):TRep P rs G w (.val false [⟨.int k,.sh,x⟩]) (.int k x) [] [] :=
 ⟨rfl,_,⟨_,_,[],[],[],[],rfl,rfl,rfl,⟨⟨_,rfl⟩,rfl,rfl,rfl⟩,⟨rfl,rfl,rfl⟩⟩,rfl⟩
theorem a2N (rs:List (Nat×Root)) (G:Nat->RG) (w:World) (x:Bool):TRep P rs G w (vB x) (.bool x) [] [] :=
 ⟨rfl,_,⟨_,_,[],[],[],[],rfl,rfl,rfl,⟨⟨_,rfl⟩,rfl,rfl,rfl⟩,⟨rfl,rfl,rfl⟩⟩,rfl⟩
theorem a1o (E:Env) (G:Nat->RG):Fine E G []:=by simp[Fine]
theorem b2s {E:Env} {R:Type} {o:Oper} {σ:St} {a:Act} {w:World} {G:Nat->RG} {k:St->Option R} {r:R} {op:BinOp} {T T':TypeId} {x y:Operand} (ho:o.op = .binOp op T x y T')
   (h:Rel P E σ a w G) (hk:binK op (a0x σ x) (a0x σ y) (fun t=>k (σ.put o.dst t))=some r):Good P E o a w k r:=by
 obtain⟨S1,A1,hx,-⟩:=a0q h x;obtain⟨S2,A2,hy,-⟩:=a0q h y;unfold binK at hk;split at hk
 . rename_i kx av ky bv hax hay;have ex:=a1y hx hax;have ey:=a1y hy hay;cases hkk:decEq kx ky with
   | isFalse _=>rw[hkk]at hk;cases hk
   | isTrue he =>
     rw[hkk]at hk;subst he;have run:∀ v:Value,(Go.binOp op T (.int kx av) (.int kx bv)).run P w = .ok v w->(execOp a.eval o).run P w = .ok (.value v) w:=by
       intro v hv;simp only[execOp,ho,ex,ey,Sem.run_bind,eqGuard];cases op<;>simp_all
     cases op<;>simp only[]at hk<;>first
       | (exact a0v (run _ (by simp[Go.binOp,Op.intArith,Op.intCmp])) (a0A h _ (a1E _ _ _ _ _) (Fine2.nil _ _)) hk)
       | (exact a0v (run _ (by simp[Go.binOp,Op.intArith,Op.intCmp])) (a0A h _ (a2N _ _ _ _) (Fine2.nil _ _)) hk)
       | (split at hk
          . cases hk
          . rename_i hb;exact a0v (run _ (by simp[Go.binOp,Op.intDiv,hb])) (a0A h _ (a1E _ _ _ _ _) (Fine2.nil _ _)) hk)
       | (cases hk)
 . cases hk
theorem b5x {E:Env} {R:Type} {o:Oper} {σ:St} {a:Act} {w:World} {G:Nat->RG} {k:St->Option R} {r:R} {op:UnOp} {T:TypeId} {x:Operand} (ho:o.op = .unOp op T x)
   (h:Rel P E σ a w G) (hk:unK op (a0x σ x) (fun t=>k (σ.put o.dst t))=some r):Good P E o a w k r:=by
 obtain⟨S1,A1,hx,-⟩:=a0q h x;unfold unK at hk;cases op with
 | neg =>
   simp only[]at hk;split at hk
   . rename_i kx av hax;have ex:=a1y hx hax;refine a0v (v := .int kx (kx.wrap (0-av))) (w':=w) ?_ (a0A h _ (a1E _ _ _ _ _) (Fine2.nil _ _)) hk;simp[execOp,ho,ex,Op.unary,Op.intArith]
   . cases hk
 | not =>
   simp only[]at hk;split at hk
   . rename_i bv hax;have ex:=a2M hx hax;refine a0v (v := .bool (!bv)) (w':=w) ?_ (a0A h _ (a2N _ _ _ _) (Fine2.nil _ _)) hk;simp[execOp,ho,ex,Op.unary]
   . cases hk
 | xor=>cases hk
 | plus=>cases hk
theorem a1d {T:TypeId} {i:TInfo} {tab:Tab} {ad:Addr} {vs:List Value} {w:World} (ht:TabOK P tab) (hi:tab T=some i) (hl:vs.length=i.t.sz) (hc:∀ q u,vs[q]? = some u->w.cell? (ad.add q)=some u) :
   ∃ v,(Instr.loadAt T (.pointer (some ad))).run P w = .ok v w/\a0E i.agg vs v:=by
 obtain⟨inf,hinf,hsz,-,-,-⟩:=ht.info T i hi;obtain⟨d,hd,hag⟩:=ht.agg T i hi;have hagg:(isAgg T).run P w = .ok i.agg w:=by
   unfold isAgg;rw[Sem.run_bind,run_underlying hd w];cases d<;>simp_all
 cases ha:i.agg with
 | true =>
   refine⟨.agg vs.toArray,?_,by simp[a0E]⟩;have hlc:=run_loadCells_list (P:=P) w ad vs hc;rw[hl,<-hsz]at hlc;simp[Instr.loadAt,Instr.sureAddr,loadVar,hagg,ha,sizeOf,typeInfo,hinf,hlc]
 | false =>
   have h1:=ht.plain T i hi ha;rw[h1]at hl
   match vs,hl with
   | [u],_ =>
     refine⟨u,?_,by simp[a0E]⟩;have h0:=hc 0 u (by simp);have hadd:ad.add 0=ad:=by simp[Addr.add]
     rw[hadd]at h0;simp[Instr.loadAt,Instr.sureAddr,loadVar,hagg,ha,h0]
theorem a2B {w:World} {cs:List Cell} {vs:List Value} {S:List Nat} (n:Nat) (h:a0K w cs vs [] S):∃ S',a0K w (cs.take n) (vs.take n) [] S'/\∀ b∈S',b∈S:=by
 obtain⟨F1,F2,S1,S2,hF,rfl,h1,-⟩:=a0F n h;have:F1=[]:=by have:=hF.symm;simp at this;exact this.1
 subst this;exact⟨S1,h1,by simp +contextual⟩
theorem a5P {w:World} {cs:List Cell} {vs:List Value} {S:List Nat} (n:Nat) (h:a0K w cs vs [] S):∃ S',a0K w (cs.drop n) (vs.drop n) [] S'/\∀ b∈S',b∈S:=by
 obtain⟨F1,F2,S1,S2,hF,rfl,-,h2⟩:=a0F n h;have:F2=[]:=by have:=hF.symm;simp at this;exact this.2
 subst this;exact⟨S2,h2,by simp +contextual⟩
theorem a6Q {cs:List Cell} (h:isSh cs=true):∀ c∈cs,c.m = .sh:=by
 induction cs with
 | nil=>simp
 | cons c cs ih =>
   simp only[isSh,Bool.and_eq_true]at h;intro d hd;simp only[zc]at hd;rcases hd with rfl|hd
   . cases he:decEq d.m .sh with
     | isTrue h'=>exact h'
     | isFalse _=>rw[he]at h;simp at h
   . exact ih h.2 d hd
theorem b3X {w:World} (t:Ty):∀ {x:t.den} {vs:List Value} {F S:List Nat},Rep w t .sh x vs F S->F=[]:=by
 induction t with
 | int k=>rintro x vs F S ⟨-,h,-⟩;exact h
 | bool=>rintro x vs F S ⟨-,h,-⟩;exact h
 | any=>rintro x vs F S ⟨-,h,-⟩;exact h
 | pair a b iha ihb=>rintro x vs F S ⟨v1,v2,F1,F2,S1,S2,rfl,rfl,rfl,h1,h2⟩;rw[iha h1,ihb h2];rfl
 | sl t _ =>
   rintro x vs F S ⟨A,c,rfl,hc,h⟩;rcases h with⟨_,h,_⟩|⟨h,_⟩|⟨_,_,_,_,_,_,_,_,h,_⟩
   . exact h
   . cases h
   . exact h
theorem a5w {w:World} {cs:List Cell} {vs:List Value} {F S:List Nat} (hs:∀ c∈cs,c.m = .sh) (h:a0K w cs vs F S):F=[]:=by
 induction cs generalizing vs F S with
 | nil=>exact h.2.1
 | cons c cs ih =>
   obtain⟨v,vs',F1,F2,S1,S2,rfl,rfl,rfl,hc,h2⟩:=a0T h;rw[hs c (by simp)]at hc;rw[b3X _ hc,ih (fun d hd=>hs d (by simp[hd])) h2];rfl
theorem a3t {w:World} {x:Root} {g:RG} (hr:a0S w x g) {p:Path} (hp:a1S x.cs p) {ad:Option Addr} {us:List Value} (hl:Loc w g.vs g.base p ad us) :
   ∃ F S,a0K w (a0W x.cs p) us F S/\(∀ b∈F,b∈g.F)/\(∀ b∈S,b∈g.S)/\∀ a0,ad=some a0->∀ (q:Nat) (u:Value),us[q]? = some u->w.cell? (a0.add q)=some u:=by
 obtain⟨F,hcs,hm⟩:=hr;obtain⟨F1,Fm,F2,S1,Sm,S2,us',ad',hF,hS,hrep,hl',-⟩:=lens g.base hcs p hp;obtain⟨rfl,rfl⟩:=a0r hl hl';have hsub:∀ b∈F,b∈g.F:=by
   intro b hb;rcases hm with⟨_,_,he⟩|⟨_,_,_,_,_,_,_,he⟩<;>rw[he]
   . exact hb
   . exact zk _ hb
 refine⟨Fm,Sm,hrep,fun b hb=>hsub b (by rw[hF];simp[hb]),fun b hb=>by rw[hS];simp[hb],fun a0 ha q u hu=>?_⟩;cases p with
 | root j =>
   obtain⟨h1,rfl⟩:=hl;rcases hm with⟨_,hb,_⟩|⟨_,b,arr,e,hb,hheap,harr,_⟩
   . rw[ha]at h1;simp[RG.base,hb]at h1
   . rw[ha]at h1;simp only[RG.base,hb,zv,za]at h1;rw[h1,a2c];refine a0V hheap (us:=g.vs) (sp:=[]) (by simpa using harr) _ _ ?_;rw[<-zr];exact hu
 | hop p i sz j =>
   obtain⟨A,n,c,ad2,us2,_,_,h1,_,hc⟩:=hl;rw[ha]at h1;obtain rfl:=zd h1;rw[a2c];exact hc q u hu
theorem a2S {E:Env} {G:Nat->RG} {S S':List Nat} (h:Fine E G S) (hs:∀ b∈S',b∈S):Fine E G S':=fun b hb=>h b (hs b hb)
theorem b2k {E:Env} {R:Type} {o:Oper} {σ:St} {a:Act} {w:World} {G:Nat->RG} {k:St->Option R} {r:R} {c:Ctx} {T:TypeId} {x:Operand} (ho:o.op = .load T x) (ht:TabOK P c.tab)
   (h:Rel P E σ a w G) (hk:a6S c T (a0x σ x) σ (fun t=>k (σ.put o.dst t))=some r):Good P E o a w k r:=by
 obtain⟨S1,A1,hx,hf⟩:=a0q h x;have run:∀ v,(Instr.loadAt T (a.eval x)).run P w = .ok v w->(execOp a.eval o).run P w = .ok (.value v) w:=by
   intro v hv;simp[execOp,ho,hv]
 unfold a6S at hk;split at hk
 . cases hk
 . rename_i i hi;split at hk
   . rename_i sb cs hev;rw[hev]at hx;obtain⟨ad,vs,A0,hv,hc,hlt,hr,rfl,rfl⟩:=hx;split at hk
     . rename_i hle;obtain⟨S2,hr2,hs2⟩:=a2B i.t.sz hr;have hl:(vs.take i.t.sz).length=i.t.sz:=by
         rw[zj,a0k hr];omega
       obtain⟨v,hrun,hsv⟩:=a1d (ad:=ad) (vs:=vs.take i.t.sz) (w:=w) ht hi hl (fun q u hu=>hc q u (by
         rw[zq]at hu;split at hu
         . exact hu
         . cases hu))
       rw[hv]at run;exact a0v (run v hrun) (a0A h _ (t := .val i.agg (cs.take i.t.sz)) ⟨rfl,_,hr2,hsv⟩ (hf.sub (fun b hb=>by simp[hs2 b hb]) fun b hb=>a8n b (hs2 b hb))) hk
     . cases hk
   . rename_i q p hev;rw[hev]at hx;obtain⟨rfl,rfl,y,ad,us,hy,hp,hl,hv⟩:=hx;obtain⟨F,S,hrep,hF,hS,hcell⟩:=a3t (h.r.roots q y hy) hp hl;simp only[a4T,hy]at hk;have hlen:=a0k hrep;split at hk
     . rename_i t htt;split at htt
       . rename_i _ _ hle _ hsh;obtain rfl:=zd htt;obtain⟨F1,F2,T1,T2,rfl,rfl,hr1,-⟩:=a0F i.t.sz hrep;have:=a5w (a6Q hsh) hr1;subst this;obtain⟨v,hrun,hsv⟩:=a1d (ad:=ad) (vs:=us.take i.t.sz) (w:=w) ht hi (by rw[zj,hlen];omega) (fun q u hu=>hcell ad rfl q u (by
           rw[zq]at hu;split at hu
           . exact hu
           . cases hu))
         rw[hv]at run;exact a0v (run v hrun) (a0A h _ (t := .val i.agg _) ⟨rfl,_,hr1,hsv⟩ (a2S (h.r.shr q y hy) fun b hb=>hS b (by simp[hb])).two) hk
       . rename_i _ _ hle _ hsh;obtain rfl:=zd htt;obtain⟨v,hrun,hsv⟩:=a1d (ad:=ad) (vs:=us.take i.t.sz) (w:=w) ht hi (by rw[zj,hlen];omega) (fun q u hu=>hcell ad rfl q u (by
           rw[zq]at hu;split at hu
           . exact hu
           . cases hu))
         rw[hv]at run;exact a0v (run v hrun) (a0A h _ (t := .view q p i.t.sz i.agg) ⟨rfl,rfl,y,some ad,us,hy,hp,hl,by rw[hlen];exact hle,hsv⟩ (Fine2.nil _ _)) hk
       . cases htt
     . cases hk
   . rename_i t hev;rw[hev]at hx;obtain⟨ad,u,S0,hv,hc,hlt,hr,rfl⟩:=hx;split at hk
     . rename_i hag;obtain⟨v,hrun,hsv⟩:=a1d (ad:=ad) (vs:=[u]) (w:=w) ht hi (by rw[ht.plain T i hi hag];rfl) (fun q u' hu=>by
         cases q with
         | zero=>simp only[zR,za]at hu;rw[<-hu,show ad.add 0=ad by simp[Addr.add]];exact hc
         | succ q=>simp at hu)
       have huv:v=u:=by rw[hag]at hsv;simpa[a0E,eq_comm]using hsv
       subst huv;rw[hv]at run;exact a0v (run v hrun) (a0A h _ (t:=t) hr (hf.sub (by simp +contextual) (fun b hb=>hb))) hk
     . cases hk
   . cases hk
theorem load_tv {E:Env} {σ:St} {a:Act} {w:World} {G:Nat->RG} {c:Ctx} {T:TypeId} {x:Operand} {t:TV} (ht:TabOK P c.tab)
   (h:Rel P E σ a w G) (hk:a6S c T (a0x σ x) σ some=some t):∃ ad v S A,a.eval x = .pointer (some ad)/\(loadVar T ad).run P w = .ok v w/\TRep P σ.rs G w t v S A/\Fine2 E G S A:=by
 obtain⟨S1,A1,hx,hf⟩:=a0q h x;have toVar:∀ ad v,(Instr.loadAt T (.pointer (some ad))).run P w = .ok v w->(loadVar T ad).run P w = .ok v w:=by
   intro ad v hv;simpa[Instr.loadAt,Instr.sureAddr]using hv
 unfold a6S at hk;split at hk
 . cases hk
 . rename_i i hi;split at hk
   . rename_i sb cs hev;rw[hev]at hx;obtain⟨ad,vs,A0,hv,hc,hlt,hr,rfl,rfl⟩:=hx;split at hk
     . rename_i hle;obtain rfl:=zd hk;obtain⟨S2,hr2,hs2⟩:=a2B i.t.sz hr;have hl:(vs.take i.t.sz).length=i.t.sz:=by
         rw[zj,a0k hr];omega
       obtain⟨v,hrun,hsv⟩:=a1d (ad:=ad) (vs:=vs.take i.t.sz) (w:=w) ht hi hl (fun q u hu=>hc q u (by
         rw[zq]at hu;split at hu
         . exact hu
         . cases hu))
       exact⟨ad,v,_,_,hv,toVar ad v hrun,⟨rfl,_,hr2,hsv⟩,hf.sub (fun b hb=>by simp[hs2 b hb]) fun b hb=>a8n b (hs2 b hb)⟩
     . cases hk
   . rename_i q p hev;rw[hev]at hx;obtain⟨rfl,rfl,y,ad,us,hy,hp,hl,hv⟩:=hx;obtain⟨F,S,hrep,hF,hS,hcell⟩:=a3t (h.r.roots q y hy) hp hl;simp only[a4T,hy]at hk;have hlen:=a0k hrep;split at hk
     . rename_i t htt;obtain rfl:=zd hk;split at htt
       . rename_i _ _ hle _ hsh;obtain rfl:=zd htt;obtain⟨F1,F2,T1,T2,rfl,rfl,hr1,-⟩:=a0F i.t.sz hrep;have:=a5w (a6Q hsh) hr1;subst this;obtain⟨v,hrun,hsv⟩:=a1d (ad:=ad) (vs:=us.take i.t.sz) (w:=w) ht hi (by rw[zj,hlen];omega) (fun q u hu=>hcell ad rfl q u (by
           rw[zq]at hu;split at hu
           . exact hu
           . cases hu))
         exact⟨ad,v,_,_,hv,toVar ad v hrun,⟨rfl,_,hr1,hsv⟩,(a2S (h.r.shr q y hy) fun b hb=>hS b (by simp[hb])).two⟩
       . rename_i _ _ hle _ hsh;obtain rfl:=zd htt;obtain⟨v,hrun,hsv⟩:=a1d (ad:=ad) (vs:=us.take i.t.sz) (w:=w) ht hi (by rw[zj,hlen];omega) (fun q u hu=>hcell ad rfl q u (by
           rw[zq]at hu;split at hu
           . exact hu
           . cases hu))
         exact⟨ad,v,[],[],hv,toVar ad v hrun,⟨rfl,rfl,y,some ad,us,hy,hp,hl,by rw[hlen];exact hle,hsv⟩,Fine2.nil _ _⟩
       . cases htt
     . cases hk
   . rename_i t hev;rw[hev]at hx;obtain⟨ad,u,S0,hv,hc,hlt,hr,rfl⟩:=hx;split at hk
     . rename_i hag;obtain⟨v,hrun,hsv⟩:=a1d (ad:=ad) (vs:=[u]) (w:=w) ht hi (by rw[ht.plain T i hi hag];rfl) (fun q u' hu=>by
         cases q with
         | zero=>simp only[zR,za]at hu;rw[<-hu,show ad.add 0=ad by simp[Addr.add]];exact hc
         | succ q=>simp at hu)
       have huv:v=u:=by rw[hag]at hsv;simpa[a0E,eq_comm]using hsv
       subst huv;obtain rfl:=zd hk;exact⟨ad,v,_,_,hv,toVar ad v hrun,hr,hf.sub (by simp +contextual) (fun b hb=>hb)⟩
     . cases hk
   . cases hk
end Go.Vm
end
section
namespace Go.Vm
variable {P:Program}
theorem a8U {α:Type} {l:List α} {i:Nat} {x:α} (h:nth (l.map some) i none=some x):l[i]? = some x:=by
 rw[a0m,zI]at h;cases hl:l[i]? with
 | none=>rw[hl]at h;simp at h
 | some y=>rw[hl]at h;simpa using h
theorem b1z {tab:Tab} (ht:TabOK P tab) {T:TypeId} {i:TInfo} (hi:tab T=some i) {f off sz:Nat} {ag:Bool} (hf:i.fs[f]? = some (off,sz,ag)) (ad:Addr) (w:World) :
   (Instr.fieldAt T (.pointer (some ad)) f).run P w = .ok (.pointer (some (ad.add off))) w:=by
 obtain⟨fields,fd,d,hu,hfd,rfl,⟨inf,hinf,hsz⟩,hne,-,-⟩:=ht.field T i f off sz ag hi hf;simp[Instr.fieldAt,run_underlying hu,hfd,Instr.sureAddr,fieldPlace,sizeOf,typeInfo,hinf,hsz,hne]
theorem b4L {w:World} {x:Root} {g:RG} (hr:a0S w x g) {p:Path} (hp:a1S x.cs p) {ad:Addr} {us:List Value} (hl:Loc w g.vs g.base p (some ad) us) (n:Nat) (hn:n≤(a0W x.cs p).length) :
   a1S x.cs (p.addJ n)/\Loc w g.vs g.base (p.addJ n) (some (ad.add n)) (us.drop n):=by
 cases p with
 | root j =>
   obtain⟨h1,rfl⟩:=hl;simp only[a1S,a0W,zm]at hp hn;refine⟨by simp only[Path.addJ,a1S];omega,?_,by simp[Path.addJ,zU]⟩;simp only[RG.base]at h1 ⊢;cases hb:g.blk with
   | none=>rw[hb]at h1;simp at h1
   | some b =>
     rw[hb]at h1;simp only[zv,za]at h1 ⊢;rw[h1,a2c]
 | hop p i sz j =>
   obtain⟨hp1,hj,t,m,xs,rest,hg,ho,hi,rfl⟩:=hp;obtain⟨A,n',c,ad',us',h1,h2,h3,h4,h5⟩:=hl;have hlen:n≤t.sz-j:=by
     simp only[a0W,hg,zm,a2A]at hn;exact hn
   refine⟨⟨hp1,by omega,t,m,xs,rest,hg,ho,hi,rfl⟩,A,n',c,ad',us',h1,h2,?_,?_,?_⟩
   . obtain rfl:=zd h3;rw[a2c,z4]
   . rw[zm];omega
   . intro q v hv;rw[zr]at hv;have:=h5 (n+q) v hv
     rwa [show i*t.sz+(j+n)+q=i*t.sz+j+(n+q)from by omega]
theorem a6K {E:Env} {R:Type} {o:Oper} {σ:St} {a:Act} {w:World} {G:Nat->RG} {k:St->Option R} {r:R} {c:Ctx} {T:TypeId} {x:Operand} {f:Nat} (ho:o.op = .fieldAddr T x f) (ht:TabOK P c.tab)
   (h:Rel P E σ a w G) (hk:a1Z c σ T (a0x σ x) f (fun t=>k (σ.put o.dst t))=some r):Good P E o a w k r:=by
 obtain⟨S1,A1,hx,hf⟩:=a0q h x;unfold a1Z at hk;split at hk
 . cases hk
 . rename_i i hi;split at hk
   . cases hk
   . rename_i off sz ag hfs;have hfs:=a8U hfs;have run:∀ ad,a.eval x = .pointer (some ad)->(execOp a.eval o).run P w = .ok (.value (.pointer (some (ad.add off)))) w:=by
       intro ad hv;simp[execOp,ho,hv,b1z ht hi hfs ad w]
     split at hk
     . rename_i sb cs hev;rw[hev]at hx;obtain⟨ad,vs,A0,hv,hc,hlt,hr,rfl,rfl⟩:=hx;split at hk
       . rename_i hle;obtain⟨S2,hr2,hs2⟩:=a5P off hr;refine a0v (run ad hv) (a0A h _ (t := .rptr sb (cs.drop off)) (S:=(ad.add off).block::S2) (A:=ptrA sb (ad.add off).block S2) ⟨ad.add off,vs.drop off,S2,rfl,fun q u hu=>?_,by rw[a0P];exact hlt,hr2,rfl,rfl⟩ (hf.sub (fun b hb=>?_) (by rw[a0P];cases sb;exact hs2;simp +contextual [ptrA,hs2]))) hk
         . rw[zr]at hu;rw[a2c];exact hc _ u hu
         . rw[a0P]at hb;simp only[zc]at hb ⊢;rcases hb with hb|hb
           . exact .inl hb
           . exact .inr (hs2 b hb)
       . cases hk
     . rename_i q p hev;rw[hev]at hx;obtain⟨rfl,rfl,y,ad,us,hy,hp,hl,hv⟩:=hx;split at hk
       . rename_i root hroot;rw[hy]at hroot;obtain rfl:=zd hroot;split at hk
         . rename_i hle _;obtain⟨hp',hl'⟩:=b4L (h.r.roots q y hy) hp hl off hle;exact a0v (run ad hv) (a0A h _ (t := .ref q (p.addJ off)) ⟨rfl,rfl,y,_,_,hy,hp',hl',rfl⟩ (Fine2.nil _ _)) hk
         . cases hk
       . cases hk
     . cases hk
theorem a4L {T e:TypeId} {inf:TypeInfo} (hu:P.underlying T=some (.slice e)) (hinf:P.info? e=some inf) (ad:Addr) (len cap:Nat) (kk:IntKind) (n:Int) (h0:0≤n) (h1:n<(len:Int)) (w:World) :
   (Instr.indexAt T (.slice (some ad) len cap) (.int kk n)).run P w = .ok (.pointer (some (ad.add (n.toNat*inf.size)))) w:=by
 simp[Instr.indexAt,asIntOf,run_underlying hu,sizeOf,typeInfo,hinf,h0,h1]
theorem a5T {w:World} {x:Root} {g:RG} (hr:a0S w x g) {p:Path} (hp:a1S x.cs p) {ad:Option Addr} {us:List Value} (hl:Loc w g.vs g.base p ad us) (hn:1≤us.length) {t:Ty} {m:Mode} {xs:List t.den} {rest:List Cell}
   (hg:a0W x.cs p=⟨.sl t,m,xs⟩::rest) {v:Value} (hs:a0E false (us.take 1) v) :
   ∃ A c us',us=v::us'/\v = .slice A xs.length c/\∃ F S,Rep w (.sl t) m xs [v] F S/\(∀ b∈F,b∈g.F)/\(∀ b∈S,b∈g.S):=by
 obtain⟨F,S,hrep,hF,hS,-⟩:=a3t hr hp hl;rw[hg]at hrep;obtain⟨u,us',F1,F2,S1,S2,rfl,rfl,rfl,hc,-⟩:=a0T hrep;simp only[a0E,zs,if_false,List.take_succ_cons,List.take_zero,zh,and_true]at hs;subst hs;obtain⟨A,c,rfl⟩:=a1I hc;exact⟨A,c,us',rfl,rfl,F1,S1,hc,fun b hb=>hF b (by simp[hb]),fun b hb=>hS b (by simp[hb])⟩
theorem a6O {E:Env} {R:Type} {o:Oper} {σ:St} {a:Act} {w:World} {G:Nat->RG} {k:St->Option R} {r:R} {c:Ctx} {T:TypeId} {x ix:Operand} (ho:o.op = .indexAddr T x ix) (ht:TabOK P c.tab)
   (h:Rel P E σ a w G) (hk:a0p c σ T (a0x σ x) (a0x σ ix) (fun t=>k (σ.put o.dst t))=some r):Good P E o a w k r:=by
 obtain⟨S1,A1,hx,hf⟩:=a0q h x;obtain⟨S2,A2,hix,-⟩:=a0q h ix;unfold a0p at hk;split at hk
 case h_1=>cases hk
 rename_i kk n hn;have en:=a1y hix hn;split at hk
 case h_2=>cases hk
 rename_i t e fs hT;obtain⟨hu,i,hi,rfl⟩:=ht.slice T t e fs hT;obtain⟨inf,hinf,hsz,-⟩:=ht.info e i hi;have run:∀ ad len cap,a.eval x = .slice (some ad) len cap->0≤n->n<(len:Int)->(execOp a.eval o).run P w = .ok (.value (.pointer (some (ad.add (n.toNat*i.t.sz))))) w:=by
   intro ad len cap hv h0 h1;have:=a4L (P:=P) hu hinf ad len cap kk n h0 h1 w;simp[execOp,ho,hv,en,this,hsz]
 split at hk
 . rename_i t' xs hev;rw[hev]at hx;obtain⟨rfl,vs,hr,hs⟩:=hx;obtain⟨u,us,F1,F2,T1,T2,rfl,hF,rfl,hc,h2⟩:=a0T hr;obtain⟨rfl,-,-⟩:=h2;simp only[a0E,zs,if_false,zh,and_true]at hs;subst hs;split at hk
   case isFalse=>cases hk
   rename_i hb;split at hk
   case isFalse=>cases hk
   rename_i htt;subst htt;obtain⟨A,cc,hv⟩:=a1I hc;rw[hv]at hc run;have hlt:n.toNat<xs.length:=by omega
   obtain⟨-,ad,us,S',hA,hblk,hcell,hel,hS'⟩:=a6l hc hlt;subst hA;refine a0v (run ad _ _ rfl hb.1 hb.2) (a0A h _ (t := .rptr true (enc .sh i.t (xs.getD n.toNat i.t.dflt))) (S:=(ad.add (n.toNat*i.t.sz)).block::S') (A:=(ad.add (n.toNat*i.t.sz)).block::S') ⟨ad.add (n.toNat*i.t.sz),us,S',rfl,fun q u hu=>?_,?_,hel,rfl,rfl⟩ (hf.sub (fun b hb=>?_) fun b hb=>by rw[a0P]at hb;simp only[zc]at hb;rcases hb with rfl|hb;simp[hblk];simp[hS' b hb])) hk
   . rw[a2c];exact hcell q u hu
   . rw[a0P];exact a2W _ hc _ (.inr hblk)
   . rw[a0P]at hb;simp only[zc]at hb;simp only[zb];rcases hb with rfl|hb
     . exact .inl hblk
     . exact .inl (hS' b hb)
 . rename_i q p hev;rw[hev]at hx;obtain⟨rfl,rfl,y,ad0,us,hy,hp,hl,hn1,hs⟩:=hx;rw[hy]at hk;simp only[]at hk;split at hk
   case h_2=>cases hk
   rename_i t' m xs rest hg;split at hk
   case isFalse=>cases hk
   rename_i htt;subst htt;obtain⟨A,cc,us',rfl,hv,F,S,hc,hF,hS⟩:=a5T (h.r.roots q y hy) hp hl hn1 hg hs;rw[hv]at hc run;split at hk
   . split at hk
     case isFalse=>cases hk
     rename_i hb;have hlt:n.toNat<xs.length:=by omega
     obtain⟨-,ad,us,S',hA,hblk,hcell,hel,hS'⟩:=a6l hc hlt;subst hA;refine a0v (run ad _ _ rfl hb.1 hb.2) (a0A h _ (t := .rptr true (enc .sh i.t (xs.getD n.toNat i.t.dflt))) (S:=(ad.add (n.toNat*i.t.sz)).block::S') (A:=(ad.add (n.toNat*i.t.sz)).block::S') ⟨ad.add (n.toNat*i.t.sz),us,S',rfl,fun q u hu=>?_,?_,hel,rfl,rfl⟩ ((h.r.shr q y hy).two.sub (fun b hb=>?_) fun b hb=>by rw[a0P]at hb;simp only[zc]at hb;rcases hb with rfl|hb;exact hS _ hblk;exact hS b (hS' b hb))) hk
     . rw[a2c];exact hcell q u hu
     . rw[a0P];exact a2W _ hc _ (.inr hblk)
     . rw[a0P]at hb;simp only[zc]at hb;rcases hb with rfl|hb
       . exact hS _ hblk
       . exact hS b (hS' b hb)
   . rename_i hm;split at hk
     case isFalse=>cases hk
     rename_i hb;have hlt:n.toNat<xs.length:=by omega
     have ho:m.own=true:=by cases m<;>simp_all [Mode.own]
     have hpo:a1S y.cs (.hop p n.toNat i.t.sz 0):=⟨hp,by omega,i.t,m,xs,rest,hg,ho,hlt,rfl⟩;obtain⟨FF,hcs,-⟩:=h.r.roots q y hy;obtain⟨b,arr,e',pre,us2,post,G1,G2,Fm,F2,S1',Sm,S2',hb',harr,hpre,-,-,-,hl2,-⟩:=b3A (G q).base hcs p n.toNat i.t.sz 0 hpo;have hA:A=some ⟨b,0,none⟩:=by
       obtain⟨A2,n2,c2,ad2,us3,hl3,_,he,_⟩:=hl2;obtain⟨-,h3⟩:=a0r hl hl3;simp only[zh]at h3;have h4:=hv.symm.trans h3.1;simp only[Value.slice.injEq]at h4;rw[h4.1];have h5:=zd he;obtain⟨-,bA,arr2,e2,v1,v2,v3,sp,-,-,-,-,-,-,hA2,-⟩:=a2V ho hc hlt;rw[hA2]at h4;have h6:(⟨bA,0,none⟩:Addr)=A2:=zd h4.1;subst h6;have h7:=congrArg Addr.block h5;simp only[a0P]at h7;rw[h7]
     subst hA;exact a0v (run ⟨b,0,none⟩ _ _ rfl hb.1 hb.2) (a0A h _ (t := .ref q (.hop p n.toNat i.t.sz 0)) ⟨rfl,rfl,y,_,_,hy,hpo,by simpa using hl2,rfl⟩ (Fine2.nil _ _)) hk
 . cases hk
theorem b0q {tab:Tab} (ht:TabOK P tab) {T:TypeId} {i:TInfo} (hi:tab T=some i) {f off sz:Nat} {ag:Bool} (hf:i.fs[f]? = some (off,sz,ag)) {vs:List Value} (h1s:(ag||zP sz 1)=true) (hl:off+sz≤vs.length) (w:World) :
   ∃ v,(Instr.field T (.agg vs.toArray) f).run P w = .ok v w/\a0E ag ((vs.drop off).take sz) v:=by
 obtain⟨fields,fd,d,hu,hfd,rfl,⟨inf,hinf,hsz⟩,hne,hd,hag⟩:=ht.field T i f off sz ag hi hf;have hagg:(isAgg fd.type).run P w = .ok ag w:=by
   unfold isAgg;rw[Sem.run_bind,run_underlying hd w];cases d<;>simp_all
 cases ag with
 | true =>
   refine⟨.agg ((vs.drop fd.offset).take sz).toArray,?_,by simp[a0E]⟩;have e:(vs.toArray.extract fd.offset (fd.offset+sz))=((vs.drop fd.offset).take sz).toArray:=by
     rw[List.extract_toArray,List.extract_eq_take_drop];congr 2;omega
   simp[Instr.field,run_underlying hu,hfd,asAgg,part,hagg,sizeOf,typeInfo,hinf,hsz,e]
 | false =>
   have h1:sz=1:=zJ (by simpa using h1s);subst h1;have hlt:fd.offset<vs.length:=by omega
   refine⟨vs[fd.offset],?_,?_⟩
   . simp[Instr.field,run_underlying hu,hfd,asAgg,part,hagg,hlt]
   . simp only[a0E,zs,if_false];rw[List.drop_eq_getElem_cons hlt];rfl
theorem b0W {E:Env} {R:Type} {o:Oper} {σ:St} {a:Act} {w:World} {G:Nat->RG} {k:St->Option R} {r:R} {c:Ctx} {T:TypeId} {x:Operand} {f:Nat} (ho:o.op = .field T x f) (ht:TabOK P c.tab)
   (h:Rel P E σ a w G) (hk:b1D c σ T (a0x σ x) f (fun t=>k (σ.put o.dst t))=some r):Good P E o a w k r:=by
 obtain⟨S1,A1,hx,hf⟩:=a0q h x;unfold b1D at hk;split at hk
 . cases hk
 . rename_i i hi;split at hk
   . cases hk
   . rename_i off sz ag hfs;have hfs:=a8U hfs;have run:∀ v,(Instr.field T (a.eval x) f).run P w = .ok v w->(execOp a.eval o).run P w = .ok (.value v) w:=by
       intro v hv;simp[execOp,ho,hv]
     split at hk
     . cases hk
     rename_i h1s;split at hk
     . rename_i cs hev;rw[hev]at hx;obtain⟨rfl,vs,hr,hsv⟩:=hx;split at hk
       . rename_i hle _;have hv:a.eval x = .agg vs.toArray:=by simpa[a0E]using hsv
         obtain⟨S2,hr2,hs2⟩:=a5P off hr;obtain⟨S3,hr3,hs3⟩:=a2B sz hr2;obtain⟨v,hrun,hs⟩:=b0q ht hi hfs (vs:=vs) h1s (by rw[a0k hr];exact hle) w;rw[<-hv]at hrun;exact a0v (run v hrun) (a0A h _ (t := .val ag ((cs.drop off).take sz)) (S:=S3) (A:=S3) ⟨rfl,_,hr3,hs⟩ (hf.sub (fun b hb=>hs2 b (hs3 b hb)) (fun b hb=>hs2 b (hs3 b hb)))) hk
       . cases hk
     . rename_i q j n hev;rw[hev]at hx;obtain⟨rfl,rfl,y,ad,us,hy,hp,⟨hl1,hl2⟩,hn,hsv⟩:=hx;split at hk
       . rename_i root hroot;rw[hy]at hroot;obtain rfl:=zd hroot;split at hk
         . rename_i hle hle2 _ _;have hv:a.eval x = .agg (us.take n).toArray:=by simpa[a0E]using hsv
           obtain⟨v,hrun,hs⟩:=b0q ht hi hfs (vs:=us.take n) h1s (by rw[zj];omega) w;rw[<-hv]at hrun;have e:((us.take n).drop off).take sz=(us.drop off).take sz:=by
             rw[List.drop_take,List.take_take];congr 1;omega
           rw[e]at hs;refine a0v (run v hrun) (a0A h _ (t := .view q (.root (j+off)) sz ag) ⟨rfl,rfl,y,ad.map (·.add off),us.drop off,hy,?_,⟨?_,?_⟩,?_,hs⟩ (Fine2.nil _ _)) hk
           . show j+off≤y.cs.length;omega
           . rw[hl1];cases (G q).base with
             | none=>rfl
             | some b=>simp only[zv,a2c]
           . rw[hl2,zU]
           . rw[zm];omega
         . cases hk
       . cases hk
     . cases hk
end Go.Vm
end
section
namespace Go.Vm
variable {P:Program}
mutual
theorem a0o {rs:List (Nat×Root)} {G:Nat->RG} {w:World}:∀ (t:TV) (v:Value) (S A:List Nat),TRep P rs G w t v S A->∀ b∈S,b<w.heap.size
 | .dead,_,_,_,h=>by obtain⟨rfl,_⟩:=h;simp
 | .val agg cs,v,S,A,h=>by
   obtain⟨rfl,vs,h1,_⟩:=h;exact fun b hb=>a3F h1 b (.inr hb)
 | .rptr s cs,v,S,A,h=>by
   obtain⟨ad,vs,A0,rfl,hc,hlt,h1,rfl,rfl⟩:=h;intro b hb;simp only[zc]at hb;rcases hb with rfl|hb
   . exact hlt
   . exact a3F h1 b (.inr hb)
 | .ref r p,v,S,A,h=>by obtain⟨rfl,_⟩:=h;simp
 | .view r p n agg,v,S,A,h=>by obtain⟨rfl,_⟩:=h;simp
 | .fn f caps,v,S,A,h=>by
   obtain⟨vs,rfl,h⟩:=h;exact a8r caps vs S A h
 | .fnx s g,v,S,A,h=>by
   obtain⟨f,caps,rfl,_,hlt,_⟩:=h;exact hlt
 | .tup k ts,v,S,A,h=>by
   obtain⟨vs,hv,h⟩:=h;exact a8r ts vs S A h
 | .pfn t,v,S,A,h=>by
   obtain⟨ad,u,S0,rfl,hc,hlt,h,rfl⟩:=h;intro b hb;simp only[zc]at hb;rcases hb with rfl|hb
   . exact hlt
   . exact a0o t u S0 A h b hb
theorem a8r {rs:List (Nat×Root)} {G:Nat->RG} {w:World}:∀ (ts:List TV) (vs:List Value) (S A:List Nat),a1A P rs G w ts vs S A->∀ b∈S,b<w.heap.size
 | [],_,_,_,h=>by obtain⟨_,rfl,_⟩:=h;simp
 | t::ts,vs,S,A,h=>by
   obtain⟨v,vs',S1,S2,A1,A2,rfl,rfl,rfl,h1,h2⟩:=h;intro b hb;simp only[zb]at hb;rcases hb with hb|hb
   . exact a0o t v S1 A1 h1 b hb
   . exact a8r ts vs' S2 A2 h2 b hb
end
structure Grew (w w':World):Prop where
 same:∀ b,b<w.heap.size->w'.heap[b]? = w.heap[b]?
 base:Bel w w'
theorem Grew.size {w w':World} (h:Grew w w'):w.heap.size≤w'.heap.size:=h.base.size
theorem Grew.refl (w:World):Grew w w:=⟨fun _ _=>rfl,Bel.refl _⟩
theorem Grew.alloc (w:World) (o:Obj):Grew w (w.alloc o):=⟨fun b hb=>Go.RowKit.Below.heap_alloc w o b hb,⟨rfl,rfl,rfl,by simp,zH _⟩⟩
theorem Grew.sameOn {w w':World} (h:Grew w w') {L:List Nat} (hl:∀ b∈L,b<w.heap.size):a0a w w' L:=fun b hb=>h.same b (hl b hb)
theorem a0N {w:World} {x:Root} {g:RG} (h:a0S w x g):∀ b,b∈g.F∨b∈g.S->b<w.heap.size:=by
 obtain⟨F,hcs,hm⟩:=h;have:=a3F hcs;intro b hb;rcases hm with⟨_,_,he⟩|⟨_,b',arr,e,_,hh,_,he⟩
 . rw[he]at hb;exact this b hb
 . rw[he]at hb;simp only[zc]at hb;rcases hb with(rfl|hb)|hb
   . rcases zB b w.heap.size with h|h
     . exact h
     . simp[zS h]at hh
   . exact this b (.inl hb)
   . exact this b (.inr hb)
theorem a1c {w w':World} {x:Root} {g:RG} (h:a0S w x g) (hs:a0a w w' (g.F++g.S)):a0S w' x g:=by
 obtain⟨F,hcs,hm⟩:=h;refine⟨F,a0I hcs (a0B hs fun b hb=>?_),?_⟩
 . simp only[zb]at hb ⊢;rcases hb with hb|hb
   . rcases hm with⟨_,_,he⟩|⟨_,b',arr,e,_,hh,_,he⟩<;>rw[he]<;>simp[hb]
   . exact .inr hb
 . rcases hm with h|⟨h1,b',arr,e,h2,hh,h3,he⟩
   . exact .inl h
   . exact .inr ⟨h1,b',arr,e,h2,by rw[hs b' (by rw[he];simp)];exact hh,h3,he⟩
theorem a5O {E:Env} {rs:List (Nat×Root)} {w:World} {G:Nat->RG} (h:RelR E rs w G) (q b:Nat) (hb:b∈(G q).F):b<w.heap.size:=h.lt q b hb
def upG (G:Nat->RG) (r:Nat) (g:RG):Nat->RG:=fun q=>if q=r then g else G q
theorem a0y (G:Nat->RG) (r:Nat) (g:RG):upG G r g r=g:=by simp[upG]
theorem a0z (G:Nat->RG) {r q:Nat} (g:RG) (h:q≠r):upG G r g q=G q:=by simp[upG,h]
def noRG:RG:=⟨[],none,[],[]⟩
theorem a1q {E:Env} {ts ts':List TV} {rs rs':List (Nat×Root)} {tmps:Array Value} {w w':World} {G G':Nat->RG} (h:RelT P E ts rs tmps w G) (hl:ts'.length=ts.length)
   (hs:∀ (i:Nat) (t':TV),ts'[i]? = some t'->t' = .dead∨∃ t,ts[i]? = some t/\∀ v S A,TRep P rs G w t v S A->(∀ b∈S,∀ r,b∉(G r).F)->TRep P rs' G' w' t' v S A/\∀ b∈S,∀ r,b∉(G' r).F):RelT P E ts' rs' tmps w' G':=by
 refine⟨h.1.trans hl.symm,fun i t' ht'=>?_⟩;rcases hs i t' ht' with rfl|⟨t,ht,hh⟩
 . have hi:i<tmps.size:=by
     rw[h.1,<-hl];rcases zB i ts'.length with h|h
     . exact h
     . simp[zn h]at ht'
   exact⟨tmps[i],[],[],by simp[hi],⟨rfl,rfl⟩,Fine2.nil _ _⟩
 . obtain⟨v,S,A,hv,hr,hf⟩:=h.2 i t ht;obtain⟨h1,h2⟩:=hh v S A hr hf.free;exact⟨v,S,A,hv,h1,h2,hf.inA⟩
theorem a1v (r:Nat) (ts:List TV):(kill r ts).length=ts.length:=by simp[kill]
theorem a2q {r:Nat} {ts:List TV} {i:Nat} {t':TV} (h:(kill r ts)[i]? = some t'):t' = .dead∨ts[i]? = some t'/\t'.uses r=false:=by
 simp only[kill,zI,zF]at h;obtain⟨t,ht,he⟩:=h;cases hu:t.uses r with
 | true=>rw[hu]at he;exact .inl he.symm
 | false=>rw[hu]at he;subst he;exact .inr ⟨ht,hu⟩
theorem a0l (r:Nat) (v:Bool) (ts:List TV):(a0g r v ts).length=ts.length:=by simp[a0g]
theorem a1F {r:Nat} {v:Bool} {ts:List TV} {i:Nat} {t':TV} (h:(a0g r v ts)[i]? = some t'):t' = .dead∨ts[i]? = some t'/\t'.deep r v=false:=by
 simp only[a0g,zI,zF]at h;obtain⟨t,ht,he⟩:=h;cases hu:t.deep r v with
 | true=>rw[hu]at he;exact .inl he.symm
 | false=>rw[hu]at he;subst he;exact .inr ⟨ht,hu⟩
theorem a8f {E:Env} {rs:List (Nat×Root)} {w w':World} {G:Nat->RG} (h:RelR E rs w G) (hg:Grew w w') (r:Nat) (x:Root) (g:RG) (hx:a0S w' x g) (hn:g.F.Nodup)
   (hF:∀ b∈g.F,(∀ q,q≠r->b∉(G q).F)/\(E.w0.heap.size≤b∨b∈E.M)) (hfree:∀ q,q≠r->∀ b∈(G q).S,rget rs q≠none->b∉g.F)
   (hS:∀ b∈g.S,(∀ q,q≠r->b∉(G q).F)/\b∉g.F/\(b<E.w0.heap.size->b∈E.A)):RelR E (rput rs r x) w' (upG G r g):=by
 have hfr:∀ b,b<E.w0.heap.size->b∉E.M->w'.heap[b]? = E.w0.heap[b]? := fun b h1 h2=>by
   rw[hg.same b (zl h1 h.base.size)];exact h.frame b h1 h2
 refine⟨fun q y hy=>?_,fun q b hb=>?_,fun q=>?_,?fin,fun q q' b hb hb'=>?_,fun q y hy b hb=>?_,fun q b hb=>?_,hfr,h.base.trans hg.base⟩
 case fin =>
   obtain⟨n,hn'⟩:=h.fin;refine⟨max n (r+1),fun q hq=>?_⟩;have hqr:q≠r:=by omega
   rw[a0j,if_neg hqr,a0z _ _ hqr];exact hn' q (by omega)
 . rw[a0j]at hy;by_cases hq:q=r
   . subst hq;rw[if_pos rfl]at hy;obtain rfl:=zd hy;rw[a0y];exact hx
   . rw[if_neg hq]at hy;rw[a0z _ _ hq];refine a1c (h.roots q y hy) (hg.sameOn fun b hb=>?_);exact a0N (h.roots q y hy) b (by simpa using hb)
 . by_cases hq':q=r
   . subst hq';rw[a0y]at hb;exact a0N hx b (.inl hb)
   . rw[a0z _ _ hq']at hb;exact zl (h.lt q b hb) hg.size
 . by_cases hq:q=r
   . subst hq;rw[a0y];exact hn
   . rw[a0z _ _ hq];exact h.nodup q
 . by_cases hq:q=r
   . subst hq;rw[a0y]at hb;by_cases hq':q'=q
     . exact hq'.symm
     . rw[a0z _ _ hq']at hb';exact absurd hb' ((hF b hb).1 q' hq')
   . rw[a0z _ _ hq]at hb;by_cases hq':q'=r
     . subst hq';rw[a0y]at hb';exact absurd hb ((hF b hb').1 q hq)
     . rw[a0z _ _ hq']at hb';exact h.disj q q' b hb hb'
 . rw[a0j]at hy;by_cases hq:q=r
   . subst hq;rw[a0y]at hb;obtain⟨h1,h2,h3⟩:=hS b hb;refine⟨fun q' hq'=>?_,h3⟩;by_cases hqq:q'=q
     . subst hqq;rw[a0y]at hq';exact h2 hq'
     . rw[a0z _ _ hqq]at hq';exact h1 q' hqq hq'
   . rw[if_neg hq]at hy;rw[a0z _ _ hq]at hb;obtain⟨h1,h2⟩:=h.shr q y hy b hb;refine⟨fun q' hq'=>?_,h2⟩;by_cases hqq:q'=r
     . subst hqq;rw[a0y]at hq';exact hfree q hq b hb (by rw[hy];simp) hq'
     . rw[a0z _ _ hqq]at hq';exact h1 q' hq'
 . by_cases hq:q=r
   . subst hq;rw[a0y]at hb;exact(hF b hb).2
   . rw[a0z _ _ hq]at hb;exact h.own q b hb
theorem b4b {E:Env} {ts:List TV} {rs:List (Nat×Root)} {tmps:Array Value} {w w':World} {G:Nat->RG} (h:RelT P E ts rs tmps w G) (hr:RelR E rs w G) (hg:Grew w w') (r:Nat) (x:Root) (g:RG)
   (hfree:∀ b,b<w.heap.size->(∀ q,b∉(G q).F)->b∉g.F):RelT P E (kill r ts) (rput rs r x) tmps w' (upG G r g):=by
 refine a1q h (a1v _ _) fun i t' ht'=>?_;rcases a2q ht' with rfl|⟨ht,hu⟩
 . exact .inl rfl
 . refine .inr ⟨t',ht,fun v S A hS hf=>?_⟩;have hlt:=a0o t' v S A hS;have h1:=a0t hr.roots (fun q _ _=>hg.sameOn (fun b hb=>a5O hr q b hb)) hg.size t' v S A hS (hg.sameOn hlt);refine⟨a1k r (fun q hq=>by rw[a0j,if_neg hq]) (fun q hq _=>a0z _ _ hq) t' v S A hu h1,fun b hb q hq=>?_⟩;by_cases hqr:q=r
   . subst hqr;rw[a0y]at hq;exact hfree b (hlt b hb) (hf b hb) hq
   . rw[a0z _ _ hqr]at hq;exact hf b hb q hq
theorem a8h {E:Env} {σ:St} {a:Act} {w w':World} {G:Nat->RG} (h:Rel P E σ a w G) (hg:Grew w w') (r:Nat) (x:Root) (g:RG) (hx:a0S w' x g) (hn:g.F.Nodup) (hF:∀ b∈g.F,w.heap.size≤b) (hS:Fine E G g.S) (hSlt:∀ b∈g.S,b<w.heap.size) :
   Rel P E (σ.new r x) a w' (upG G r g):=by
 have hfree:∀ b,b<w.heap.size->b∉g.F:=fun b hb hf=>by have:=hF b hf;omega
 refine⟨h.defers,b4b h.temps h.r hg r x g fun b hb _=>hfree b hb,a8f h.r hg r x g hx hn (fun b hb=>⟨fun q _ hq=>?_,.inl ?_⟩) (fun q _ b hb hq=>?_) fun b hb=>⟨fun q _=>(hS b hb).1 q,hfree b (hSlt b hb),(hS b hb).2⟩⟩
 . have h1:=a5O h.r q b hq;have:=hF b hb;omega
 . exact zK h.r.base.size (hF b hb)
 . refine hfree b ?_;cases hy:rget σ.rs q with
   | none=>exact absurd hy hq
   | some y=>exact a0N (h.r.roots q y hy) b (.inr hb)
end Go.Vm
end
section
namespace Go.Vm
variable {P:Program}
theorem a3d {E:Env} {σ:St} {a:Act} {w:World} {G:Nat->RG} {c:Ctx} {T:TypeId} {x:Operand} {agg:Bool} {cs:List Cell} (h:Rel P E σ a w G) (hs:a1C c σ T x=some (.sh agg cs)) :
   ∃ vs S,a0K w cs vs [] S/\a0E agg vs (a.eval x)/\Fine E G S/\∀ b∈S,b<w.heap.size:=by
 unfold a1C at hs;split at hs
 . split at hs
   . simp only[za,Src.sh.injEq]at hs;obtain⟨rfl,rfl⟩:=hs;refine⟨[.slice none 0 0],[],⟨[_],[],[],[],[],[],rfl,rfl,rfl,⟨⟨_,rfl⟩,none,0,rfl,zH _,.inl ⟨rfl,rfl,rfl,fun _=>rfl⟩⟩,⟨rfl,rfl,rfl⟩⟩,by simp[a0E,Act.eval],a1o _ _,by simp⟩
   . cases hs
 . obtain⟨S,A,hx,hf⟩:=a0q h x;split at hs
   . rename_i hev;simp only[za,Src.sh.injEq]at hs;obtain⟨rfl,rfl⟩:=hs;rw[hev]at hx;have hlt:=a0o _ _ _ _ hx;obtain⟨rfl,vs,hr,hsv⟩:=hx;exact⟨vs,_,hr,hsv,hf.one,hlt⟩
   . split at hs
     . split at hs<;>cases hs
     . cases hs
   . cases hs
theorem a5E {E:Env} {σ:St} {a:Act} {w:World} {G:Nat->RG} {c:Ctx} {T:TypeId} {x:Operand} {q:Nat} {agg:Bool} {cs:List Cell} (h:Rel P E σ a w G) (hs:a1C c σ T x=some (.mv q agg cs)) :
   ∃ mem F,rget σ.rs q=some ⟨mem,cs⟩/\a0E agg (G q).vs (a.eval x)/\a0K w cs (G q).vs F (G q).S/\(∀ b∈F,b∈(G q).F)/\F.Nodup/\(mem=false->F=(G q).F/\(G q).blk=none):=by
 unfold a1C at hs;split at hs
 . split at hs<;>cases hs
 . obtain⟨S,A,hx,hf⟩:=a0q h x;split at hs
   . cases hs
   . rename_i r n ag hev;split at hs
     . rename_i mem cs' hr;split at hs
       . rename_i hn _;simp only[za,Src.mv.injEq]at hs;obtain⟨rfl,rfl,rfl⟩:=hs;rw[hev]at hx;obtain⟨rfl,rfl,y,ad,us,hy,hp,⟨hl1,hl2⟩,hnn,hsv⟩:=hx;rw[hr]at hy;obtain rfl:=zd hy;obtain⟨F,hcs,hm⟩:=h.r.roots r _ hr;have hnd:=h.r.nodup r;have hF:(∀ b∈F,b∈(G r).F)/\F.Nodup/\(mem=false->F=(G r).F/\(G r).blk=none):=by
           rcases hm with⟨_,hb,he⟩|⟨h1,_,_,_,_,_,_,he⟩
           . exact⟨fun b hb=>by rw[he];exact hb,by rw[he]at hnd;exact hnd,fun _=>⟨he.symm,hb⟩⟩
           . refine⟨fun b hb=>by rw[he];simp[hb],?_,fun hf=>?_⟩
             . rw[he]at hnd;exact(zi.1 hnd).2
             . rw[show mem=true from h1]at hf;cases hf
         have hlen:(G r).vs.length=cs'.length:=a0k hcs;simp only[z2]at hl2;subst hl2;rw[zC (by omega)]at hsv;exact⟨mem,F,hr,hsv,hcs,hF.1,hF.2.1,hF.2.2⟩
       . cases hs
     . cases hs
   . cases hs
theorem b1x {agg:Bool} {vs:List Value} {v:Value} (h:a0E agg vs v) (h1:∀ u,vs=[u]->∀ cs,u ≠ .agg cs):v.cells=vs.toArray:=by
 cases agg with
 | true=>simp only[a0E,if_true]at h;subst h;rfl
 | false =>
   simp only[a0E,zs,if_false]at h;subst h;have:=h1 v rfl;cases v<;>first
     | rfl
     | exact absurd rfl (this _)
theorem a8m {w:World} (t:Ty):∀ {m:Mode} {x:t.den} {vs:List Value} {F S:List Nat},Rep w t m x vs F S->∀ u∈vs,u.oneCell'=true/\∀ cs,u ≠ .agg cs:=by
 induction t with
 | int k=>rintro m x vs F S ⟨rfl,_⟩ u hu;simp at hu;subst hu;exact⟨rfl,fun _ h=>by cases h⟩
 | bool=>rintro m x vs F S ⟨rfl,_⟩ u hu;simp at hu;subst hu;exact⟨rfl,fun _ h=>by cases h⟩
 | any=>rintro m x vs F S ⟨⟨v,rfl,h⟩,_⟩ u hu;simp at hu;subst hu;exact h
 | pair a b iha ihb =>
   rintro m x vs F S ⟨v1,v2,F1,F2,S1,S2,rfl,rfl,rfl,h1,h2⟩ u hu;simp only[zb]at hu;rcases hu with hu|hu
   . exact iha h1 u hu
   . exact ihb h2 u hu
 | sl t _ =>
   rintro m x vs F S ⟨A,c,rfl,_⟩ u hu;simp at hu;subst hu;exact⟨rfl,fun _ h=>by cases h⟩
theorem a2i {w:World} {cs:List Cell} {vs:List Value} {F S:List Nat} (h:a0K w cs vs F S):∀ u∈vs,u.oneCell'=true/\∀ cs,u ≠ .agg cs:=by
 induction cs generalizing vs F S with
 | nil=>obtain⟨rfl,_⟩:=h;simp
 | cons c cs ih =>
   obtain⟨v,vs',F1,F2,S1,S2,rfl,rfl,rfl,hc,h2⟩:=a0T h;intro u hu;simp only[zc]at hu;rcases hu with rfl|hu
   . exact a8m _ hc u (by simp)
   . exact ih h2 u hu
theorem a0e {w:World} {cs:List Cell} {agg:Bool} {vs:List Value} {v:Value} {F S:List Nat} (h:a0K w cs vs F S) (hs:a0E agg vs v):v.cells=vs.toArray :=
 b1x hs fun u hu cs=>(a2i h u (by rw[hu];simp)).2 cs
theorem a5s (w:World) (o:Obj):(w.alloc o).heap[w.heap.size]? = some o:=by
 show(w.heap.push o)[w.heap.size]? = _;simp
theorem a4y {w:World} {cs:List Cell} {vs:List Value} {F S:List Nat} (h:a0K w cs vs F S) (T:TypeId) :
   a0S (w.alloc (.cells vs.toArray T)) ⟨true,cs⟩ ⟨vs,some w.heap.size,w.heap.size::F,S⟩:=by
 refine⟨F,a0I h ((Grew.alloc w _).sameOn fun b hb=>a3F h b (by simpa using hb)),.inr ⟨rfl,w.heap.size,vs.toArray,T,rfl,a5s _ _,by simp,rfl⟩⟩
theorem a8P {w:World} {vs:List Value} {b:Nat} {F S:List Nat}:Loc w vs (RG.base ⟨vs,some b,F,S⟩) (.root 0) (some ⟨b,0,none⟩) vs:=by
 refine⟨?_,by simp⟩;simp[RG.base,Addr.add]
theorem a8e {E:Env} {rs:List (Nat×Root)} {w:World} {G:Nat->RG} (h:RelR E rs w G) (q:Nat):RelR E (rdel rs q) w (upG G q noRG):=by
 refine⟨fun p y hy=>?_,fun p b hb=>?_,fun p=>?_,?fin,fun p p' b hb hb'=>?_,fun p y hy b hb=>?_,fun p b hb=>?_,h.frame,h.base⟩
 case fin =>
   obtain⟨n,hn'⟩:=h.fin;refine⟨max n (q+1),fun p hp=>?_⟩;have hqr:p≠q:=by omega
   rw[a0D,if_neg hqr,a0z _ _ hqr];exact hn' p (by omega)
 . rw[a0D]at hy;by_cases hpq:p=q
   . simp[hpq]at hy
   . rw[if_neg hpq]at hy;rw[a0z _ _ hpq];exact h.roots p y hy
 . by_cases hpq:p=q
   . subst hpq;rw[a0y]at hb;cases hb
   . rw[a0z _ _ hpq]at hb;exact h.lt p b hb
 . by_cases hpq:p=q
   . subst hpq;rw[a0y];simp[noRG]
   . rw[a0z _ _ hpq];exact h.nodup p
 . by_cases hpq:p=q
   . subst hpq;rw[a0y]at hb;cases hb
   . rw[a0z _ _ hpq]at hb;by_cases hpq':p'=q
     . subst hpq';rw[a0y]at hb';cases hb'
     . rw[a0z _ _ hpq']at hb';exact h.disj p p' b hb hb'
 . by_cases hpq:p=q
   . subst hpq;rw[a0y]at hb;cases hb
   . rw[a0z _ _ hpq]at hb;rw[a0D,if_neg hpq]at hy;obtain⟨h1,h2⟩:=h.shr p y hy b hb;refine⟨fun p' hp'=>?_,h2⟩;by_cases hpq':p'=q
     . subst hpq';rw[a0y]at hp';cases hp'
     . rw[a0z _ _ hpq']at hp';exact h1 p' hp'
 . by_cases hpq:p=q
   . subst hpq;rw[a0y]at hb;cases hb
   . rw[a0z _ _ hpq]at hb;exact h.own p b hb
theorem a9h {E:Env} {rs:List (Nat×Root)} {w w':World} {G:Nat->RG} (h:RelR E rs w G) (hg:Grew w w') (q r:Nat) (x:Root) (g:RG) (hx:a0S w' x g) (hn:g.F.Nodup) (hF:∀ b∈g.F,w.heap.size≤b∨b∈(G q).F) (hS:∀ b∈g.S,(Fine E G [b]/\b<w.heap.size)) :
   RelR E (rput (rdel rs q) r x) w' (upG (upG G q noRG) r g):=by
 have hdis:∀ b,b∈g.F->∀ p,p≠q->b∉(G p).F:=by
   intro b hb p hp hbp;rcases hF b hb with h1|h1
   . have:=a5O h p b hbp;omega
   . exact hp (h.disj p q b hbp h1)
 have hfree:∀ b,b<w.heap.size->(∀ p,b∉(G p).F)->b∉g.F:=by
   intro b hb hno hbf;rcases hF b hbf with h1|h1
   . omega
   . exact hno q h1
 refine a8f (a8e h q) hg r x g hx hn (fun b hb=>⟨fun p hp hbp=>?_,?_⟩) (fun p hp b hb hne=>?_) fun b hb=>⟨fun p hp hbp=>?_,?_,?_⟩
 . by_cases hpq:p=q
   . subst hpq;rw[a0y]at hbp;cases hbp
   . rw[a0z _ _ hpq]at hbp;exact hdis b hb p hpq hbp
 . rcases hF b hb with h1|h1
   . exact .inl (zK h.base.size h1)
   . exact h.own q b h1
 . rw[a0D]at hne;by_cases hpq:p=q
   . simp[hpq]at hne
   . rw[if_neg hpq]at hne;rw[a0z _ _ hpq]at hb;cases hy:rget rs p with
     | none=>exact absurd hy hne
     | some y=>exact hfree b (a0N (h.roots p y hy) b (.inr hb)) (h.shr p y hy b hb).1
 . by_cases hpq:p=q
   . subst hpq;rw[a0y]at hbp;cases hbp
   . rw[a0z _ _ hpq]at hbp;exact((hS b hb).1 b (by simp)).1 p hbp
 . exact hfree b (hS b hb).2 ((hS b hb).1 b (by simp)).1
 . exact((hS b hb).1 b (by simp)).2
theorem a9H {w:World} {G:Nat->RG} {q r:Nat} {g:RG} (hF:∀ b∈g.F,w.heap.size≤b∨b∈(G q).F) {S:List Nat} (hf:∀ b∈S,∀ p,b∉(G p).F) (hlt:∀ b∈S,b<w.heap.size) :
   ∀ b∈S,∀ p,b∉(upG (upG G q noRG) r g p).F:=by
 intro b hb p hp;by_cases hpr:p=r
 . subst hpr;rw[a0y]at hp;rcases hF b hp with h1|h1
   . have:=hlt b hb;omega
   . exact hf b hb q h1
 . rw[a0z _ _ hpr]at hp;by_cases hpq:p=q
   . subst hpq;rw[a0y]at hp;cases hp
   . rw[a0z _ _ hpq]at hp;exact hf b hb p hp
theorem b4e {E:Env} {σ:St} {a:Act} {w w':World} {G:Nat->RG} (h:Rel P E σ a w G) (hg:Grew w w') (q r:Nat) (x:Root) (g:RG) (hx:a0S w' x g) (hn:g.F.Nodup) (hF:∀ b∈g.F,w.heap.size≤b∨b∈(G q).F) (hS:∀ b∈g.S,(Fine E G [b]/\b<w.heap.size)) :
   Rel P E ((σ.del q).new r x) a w' (upG (upG G q noRG) r g):=by
 refine⟨h.defers,?_,a9h h.r hg q r x g hx hn hF hS⟩;refine a1q h.temps (by rw[St.new,St.del];simp[a1v]) fun i t' ht'=>?_;rcases a2q ht' with rfl|⟨ht1,hu1⟩
 . exact .inl rfl
 rcases a2q ht1 with rfl|⟨ht2,hu2⟩
 . exact .inl rfl
 refine .inr ⟨t',ht2,fun v S A hS' hf=>?_⟩;have hlt:=a0o t' v S A hS';have h1:=a0t h.r.roots (fun p _ _=>hg.sameOn (fun b hb=>a5O h.r p b hb)) hg.size t' v S A hS' (hg.sameOn hlt);have h2:=a1k (rs':=rdel σ.rs q) (G':=upG G q noRG) q (fun p hp=>by rw[a0D,if_neg hp]) (fun p hp _=>a0z _ _ hp) t' v S A hu2 h1;exact⟨a1k r (fun p hp=>by rw[St.del,St.new,a0j,if_neg hp]) (fun p hp _=>a0z _ _ hp) t' v S A hu1 h2,a9H hF hf hlt⟩
theorem b1J {w:World} {rv:List Value} {B B':Option Addr}:∀ {p:Path} {ad:Option Addr} {us:List Value},Loc w rv B p ad us->∃ ad',Loc w rv B' p ad' us/\(p.flat=false->ad'=ad):=by
 intro p;induction p with
 | root j=>rintro ad us ⟨rfl,rfl⟩;exact⟨_,⟨rfl,rfl⟩,fun h=>by cases h⟩
 | hop p i sz j ih =>
   rintro ad us ⟨A,n,c,ad',us',h1,h2,h3,h4,h5⟩;obtain⟨ad2,h6,-⟩:=ih h1;exact⟨ad,⟨A,n,c,ad2,us',h6,h2,h3,h4,h5⟩,fun _=>rfl⟩
mutual
theorem a8p {rs rs':List (Nat×Root)} {G G':Nat->RG} {w:World} (r d:Nat) (h1:∀ x,rget rs r=some x->∃ x',rget rs' d=some x'/\x'.cs=x.cs) (h2:(G' d).vs=(G r).vs) (h3:(G r).blk=none∨(G' d).blk=(G r).blk) (hrs:∀ q,q≠r->q≠d->rget rs' q=rget rs q) (hG:∀ q,q≠r->q≠d->G' q=G q) :
   ∀ (t:TV) (v:Value) (S A:List Nat),t.uses d=false->TRep P rs G w t v S A->TRep P rs' G' w (t.ren r d) v S A
 | .dead,_,_,_,_,h=>h
 | .val agg cs,v,S,A,_,h=>h
 | .rptr s cs,v,S,A,_,h=>h
 | .ref q p,v,S,A,hu,h=>by
   have hq:q≠d:=zw hu;obtain⟨rfl,rfl,x,ad,us,hx,hp,hl,rfl⟩:=h;simp only[TV.ren];cases hd:zf q r with
   | isTrue he =>
     subst he;obtain⟨x',hx',hcs⟩:=h1 x hx;obtain⟨ad',hl',hf⟩:=b1J (B':=(G' d).base) hl;have:ad'=some ad:=by
       rcases h3 with h3|h3
       . cases p with
         | root j=>obtain⟨h4,_⟩:=hl;simp[RG.base,h3]at h4
         | hop p i sz j=>exact hf rfl
       . have hb:(G' d).base=(G q).base:=by simp only[RG.base,h3]
         rw[hb]at hl';exact(a0r hl' hl).1
     subst this;exact⟨rfl,rfl,x',ad,us,hx',by rw[hcs];exact hp,by rw[h2];exact hl',rfl⟩
   | isFalse he=>exact⟨rfl,rfl,x,ad,us,by rw[hrs q he hq];exact hx,hp,by rw[hG q he hq];exact hl,rfl⟩
 | .view q p n agg,v,S,A,hu,h=>by
   have hq:q≠d:=zw hu;obtain⟨rfl,rfl,x,ad,us,hx,hp,hl,h4,h5⟩:=h;simp only[TV.ren];cases hd:zf q r with
   | isTrue he =>
     subst he;obtain⟨x',hx',hcs⟩:=h1 x hx;obtain⟨ad',hl',-⟩:=b1J (B':=(G' d).base) hl;exact⟨rfl,rfl,x',ad',us,hx',by rw[hcs];exact hp,by rw[h2];exact hl',h4,h5⟩
   | isFalse he=>exact⟨rfl,rfl,x,ad,us,by rw[hrs q he hq];exact hx,hp,by rw[hG q he hq];exact hl,h4,h5⟩
 | .fn f caps,v,S,A,hu,h=>by
   obtain⟨vs,rfl,h⟩:=h;exact⟨vs,rfl,a7v r d h1 h2 h3 hrs hG caps vs S A (by simpa[TV.uses]using hu) h⟩
 | .fnx s g,v,S,A,_,h=>h
 | .tup k ts,v,S,A,hu,h=>by
   obtain⟨vs,hv,h⟩:=h;exact⟨vs,hv,a7v r d h1 h2 h3 hrs hG ts vs S A (by simpa[TV.uses]using hu) h⟩
 | .pfn t,v,S,A,hu,h=>by
   obtain⟨ad,u,S0,rfl,hc,hlt,h,rfl⟩:=h;exact⟨ad,u,S0,rfl,hc,hlt,a8p r d h1 h2 h3 hrs hG t u S0 A (by simpa[TV.uses]using hu) h,rfl⟩
theorem a7v {rs rs':List (Nat×Root)} {G G':Nat->RG} {w:World} (r d:Nat) (h1:∀ x,rget rs r=some x->∃ x',rget rs' d=some x'/\x'.cs=x.cs) (h2:(G' d).vs=(G r).vs) (h3:(G r).blk=none∨(G' d).blk=(G r).blk) (hrs:∀ q,q≠r->q≠d->rget rs' q=rget rs q) (hG:∀ q,q≠r->q≠d->G' q=G q) :
   ∀ (ts:List TV) (vs:List Value) (S A:List Nat),TV.usesL d ts=false->a1A P rs G w ts vs S A->a1A P rs' G' w (TV.renL r d ts) vs S A
 | [],_,_,_,_,h=>h
 | t::ts,vs,S,A,hu,h=>by
   obtain⟨v,vs',S1,S2,A1,A2,rfl,rfl,rfl,h4,h5⟩:=h;simp only[TV.usesL,zL]at hu;exact⟨v,vs',S1,S2,A1,A2,rfl,rfl,rfl,a8p r d h1 h2 h3 hrs hG t v S1 A1 hu.1 h4,a7v r d h1 h2 h3 hrs hG ts vs' S2 A2 hu.2 h5⟩
end
theorem b1V {E:Env} {σ:St} {a:Act} {w w':World} {G:Nat->RG} (h:Rel P E σ a w G) (hg:Grew w w') (r d:Nat) (x x':Root) (g:RG) (hx:rget σ.rs r=some x) (hcs:x'.cs=x.cs) (hx':a0S w' x' g) (hvs:g.vs=(G r).vs) (hb:(G r).blk=none∨g.blk=(G r).blk)
   (hn:g.F.Nodup) (hF:∀ b∈g.F,w.heap.size≤b∨b∈(G r).F) (hS:∀ b∈g.S,(Fine E G [b]/\b<w.heap.size)):Rel P E (σ.ren r d x') a w' (upG (upG G r noRG) d g):=by
 refine⟨h.defers,?_,a9h h.r hg r d x' g hx' hn hF hS⟩;refine a1q h.temps (by simp[St.ren,a1v]) fun i t' ht'=>?_;simp only[St.ren,zI,zF]at ht';obtain⟨t,ht,rfl⟩:=ht';rcases a2q ht with rfl|⟨ht1,hu1⟩
 . exact .inl rfl
 refine .inr ⟨t,ht1,fun v S A hS' hf=>⟨?_,a9H hF hf (a0o t v S A hS')⟩⟩;have hlt:=a0o t v S A hS';have h1:=a0t h.r.roots (fun p _ _=>hg.sameOn (fun b hb=>a5O h.r p b hb)) hg.size t v S A hS' (hg.sameOn hlt);refine a8p r d (fun y hy=>?_) (by rw[a0y];exact hvs) (by rw[a0y];exact hb) (fun q hq hqd=>?_) (fun q hq hqd=>?_) t v S A hu1 h1
 . rw[hx]at hy;obtain rfl:=zd hy;exact⟨x',by rw[St.ren,a0j,if_pos rfl],hcs⟩
 . rw[St.ren,a0j,if_neg hqd,a0D,if_neg hq]
 . rw[a0z _ _ hqd,a0z _ _ hq]
theorem rel_ren {E:Env} {σ:St} {a:Act} {w:World} {G:Nat->RG} (h:Rel P E σ a w G) (r d:Nat) (x:Root) (hx:rget σ.rs r=some x):Rel P E (σ.ren r d x) a w (upG (upG G r noRG) d (G r)) :=
 have hrx:=h.r.roots r x hx
 b1V h (Grew.refl w) r d x x (G r) hx rfl hrx rfl (.inr rfl) (h.r.nodup r) (fun b hb => .inr hb) fun b hb=>⟨a2S (h.r.shr r x hx) (by simpa using hb),a0N hrx b (.inr hb)⟩
theorem b4d {E:Env} {σ:St} {a:Act} {w w':World} {G:Nat->RG} (h:Rel P E σ a w G) (hg:Grew w w'):Rel P E σ a w' G:=by
 refine⟨h.defers,?_,⟨fun q x hx=>?_,fun q b hb=>zl (h.r.lt q b hb) hg.size,h.r.nodup,h.r.fin,h.r.disj,h.r.shr,h.r.own,fun b h1 h2=>?_,h.r.base.trans hg.base⟩⟩
 . refine a1q h.temps rfl fun i t' ht' => .inr ⟨t',ht',fun v S A hS hf=>⟨?_,hf⟩⟩;exact a0t h.r.roots (fun q _ _=>hg.sameOn fun b hb=>h.r.lt q b hb) hg.size t' v S A hS (hg.sameOn (a0o _ _ _ _ hS))
 . have hx':=h.r.roots q x hx;exact a1c hx' (hg.sameOn fun b hb=>a0N hx' b (zb.1 hb))
 . rw[hg.same b (zl h1 h.r.base.size)];exact h.r.frame b h1 h2
theorem a8L {rs:List (Nat×Root)} {G:Nat->RG} {w:World} {t:TV} {v:Value} {S A:List Nat} (h:TRep P rs G w t v S A) (hf:asFn t=true):v.cells=#[v]/\v.oneCell'=true:=by
 cases t with
 | fn f caps=>obtain⟨vs,rfl,_⟩:=h;exact⟨rfl,rfl⟩
 | fnx s g=>obtain⟨f,caps,rfl,_⟩:=h;exact⟨rfl,rfl⟩
 | _=>cases hf
theorem b2u {E:Env} {R:Type} {o:Oper} {σ:St} {a:Act} {w:World} {G:Nat->RG} {k:St->Option R} {r:R} {c:Ctx} {T:TypeId} {x:Operand} (ho:o.op = .box T x)
   (h:Rel P E σ a w G) (hk:boxK c o T x σ k=some r):Good P E o a w k r:=by
 unfold boxK at hk;split at hk
 . cases hk
 . rename_i d hd;have run:∀ vs,(a.eval x).cells=List.toArray vs->(execOp a.eval o).run P w = .ok (.value (.pointer (some ⟨w.heap.size,0,none⟩))) (w.alloc (.cells vs.toArray T)):=by
     intro vs hv;simp[execOp,ho,Instr.box,newVar,newRow,hv]
   split at hk
   . rename_i ag cs hsrc;obtain⟨vs,S,hr,hsv,hf,hlt⟩:=a3d h hsrc;have h1:=a8h h (Grew.alloc w (.cells vs.toArray T)) (4*d) ⟨true,cs⟩ _ (a4y hr T) (by simp) (by simp) hf hlt;refine a0v (run vs (a0e hr hsv)) (a0A h1 o.dst (t := .ref (4*d) (.root 0)) ⟨rfl,rfl,⟨true,cs⟩,_,_,by simp[St.new,a0j],zO _,by rw[a0y];exact a8P,rfl⟩ (Fine2.nil _ _)) ?_;rw[hd];exact hk
   . rename_i q ag cs hsrc;split at hk
     . cases hk
     . obtain⟨mem,F,hq,hsv,hr,hFs,hFn,hmem⟩:=a5E h hsrc;have hq':=h.r.roots q _ hq;have hnd:(w.heap.size::F).Nodup:=zi.2 ⟨fun hb=>by have:=a5O h.r q _ (hFs _ hb);omega,hFn⟩;have hFo:∀ b∈w.heap.size::F,w.heap.size≤b∨b∈(G q).F:=fun b hb=>by
         simp only[zc]at hb;exact hb.imp (fun e=>Nat.le_of_eq e.symm) (hFs b)
       have hSo:∀ b∈(G q).S,Fine E G [b]/\b<w.heap.size:=fun b hb=>⟨a2S (h.r.shr q _ hq) (by simpa using hb),a0N hq' b (.inr hb)⟩;cases mem with
       | false =>
         rw[hq]at hk;have h1:=b1V h (Grew.alloc w (.cells (G q).vs.toArray T)) q (4*d) _ ⟨true,cs⟩ _ hq rfl (a4y hr T) rfl (.inl (hmem rfl).2) hnd hFo hSo;refine a0v (run _ (a0e hr hsv)) (a0A h1 o.dst (t := .ref (4*d) (.root 0)) ⟨rfl,rfl,⟨true,cs⟩,_,_,by simp[St.ren,a0j],zO _,by rw[a0y];exact a8P,rfl⟩ (Fine2.nil _ _)) ?_;rw[hd];exact hk
       | true =>
         rw[hq]at hk;have h1:=b4e h (Grew.alloc w (.cells (G q).vs.toArray T)) q (4*d) ⟨true,cs⟩ _ (a4y hr T) hnd hFo hSo;refine a0v (run _ (a0e hr hsv)) (a0A h1 o.dst (t := .ref (4*d) (.root 0)) ⟨rfl,rfl,⟨true,cs⟩,_,_,by simp[St.new,a0j],zO _,by rw[a0y];exact a8P,rfl⟩ (Fine2.nil _ _)) ?_;rw[hd];exact hk
   . split at hk
     . rename_i hfn;obtain⟨S,A,hx,hf⟩:=a0q h x;have hg:=Grew.alloc w (.cells [a.eval x].toArray T);have h1:=b4d h hg;have hx1:=a0t h.r.roots (fun q _ _=>hg.sameOn fun b hb=>h.r.lt q b hb) hg.size _ _ S A hx (hg.sameOn (a0o _ _ _ _ hx));have hc:(w.alloc (.cells [a.eval x].toArray T)).cell? ⟨w.heap.size,0,none⟩=some (a.eval x):=by
         have:=a0V (w:=w.alloc (.cells [a.eval x].toArray T)) (b:=w.heap.size) (us:=[a.eval x]) (sp:=[]) (arr:=[a.eval x].toArray) (e:=T) (a5s _ _) (by simp) 0 (a.eval x) (by simp);have e0:(⟨w.heap.size,0,none⟩:Addr).add 0=⟨w.heap.size,0,none⟩:=by simp[Addr.add]
         rw[e0]at this;exact this
       refine a0v (run [a.eval x] (a8L hx hfn).1) (a0A h1 o.dst (t := .pfn (a0x σ x)) (S:=w.heap.size::S) (A:=A) ⟨_,_,S,rfl,hc,by simp,hx1,rfl⟩ ⟨fun b hb q hq=>?_,hf.inA⟩) ?_
       . simp only[zc]at hb;rcases hb with rfl|hb
         . have:=h.r.lt q _ hq;omega
         . exact hf.free b hb q hq
       . rw[hd];exact hk
     . cases hk
theorem b2S (w:World) (t:Ty):a0S w ⟨false,[⟨.sl t,.deep,[]⟩]⟩ ⟨[.slice none 0 0],none,[],[]⟩ :=
 ⟨[],⟨[_],[],[],[],[],[],rfl,rfl,rfl,⟨⟨_,rfl⟩,none,0,rfl,zH _,.inl ⟨rfl,rfl,rfl,fun _=>rfl⟩⟩,⟨rfl,rfl,rfl⟩⟩,.inl ⟨rfl,rfl,rfl⟩⟩
theorem a2g {w:World} {vs:List Value} {B:Option Addr}:Loc w vs B (.root 0) (B.map (·.add 0)) vs:=⟨rfl,by simp⟩
theorem a7b {E:Env} {R:Type} {o:Oper} {σ:St} {a:Act} {w:World} {G:Nat->RG} {k:St->Option R} {r:R} {c:Ctx} {asg:Bool} {x:Operand} (ho:o.op = .move x∨o.op = .assign x)
   (h:Rel P E σ a w G) (hk:a5m c asg o x σ k=some r):Good P E o a w k r:=by
 have run:(execOp a.eval o).run P w = .ok (.value (a.eval x)) w:=by
   rcases ho with ho|ho<;>simp[execOp,ho]
 have plain:∀ d,k (σ.put (some d) (a0x σ x))=some r->o.dst=some d->Good P E o a w k r:=by
   intro d hk hd;obtain⟨S,A,hx,hf⟩:=a0q h x;refine a0v run (a0A h o.dst hx hf) ?_;rw[hd];exact hk
 unfold a5m at hk;split at hk
 . cases hk
 . rename_i d hd;split at hk
   . split at hk
     . rename_i t e fs hT;have h1:=a8h h (Grew.refl w) (4*d) ⟨false,[⟨.sl t,.deep,[]⟩]⟩ _ (b2S w t) (by simp) (by simp) (a1o _ _) (by simp);refine a0v (v := .slice none 0 0) (w':=w) run (a0A h1 o.dst (t := .view (4*d) (.root 0) 1 false) ⟨rfl,rfl,⟨false,[⟨.sl t,.deep,[]⟩]⟩,_,_,by simp[St.new,a0j],zO _,by rw[a0y];exact a2g,by simp,by simp[a0E]⟩ (Fine2.nil _ _)) ?_;rw[hd];exact hk
     . cases hk
   . split at hk
     . rename_i q n ag hev;split at hk
       . rename_i cs hq;split at hk
         . rename_i hn hne;obtain⟨S,A,hx,hf⟩:=a0q h x;rw[hev]at hx;obtain⟨rfl,rfl,y,ad,us,hy,hp,⟨hl1,hl2⟩,hnn,hsv⟩:=hx;have h1:=rel_ren h q (4*d) ⟨false,cs⟩ hq;refine a0v run (a0A h1 o.dst (t := .view (4*d) (.root 0) n ag) ⟨rfl,rfl,⟨false,cs⟩,ad,us,by simp[St.ren,a0j],zO _,by rw[a0y];exact⟨hl1,hl2⟩,hnn,hsv⟩ (Fine2.nil _ _)) ?_;rw[hd];exact hk
         . exact plain d (by rw[hev];exact hk) hd
       . exact plain d (by rw[hev];exact hk) hd
     . exact plain d hk hd
end Go.Vm
end
section
namespace Go.Vm
variable {P:Program}
theorem a5U (t:Ty):(zvs t).length=t.sz:=by
 induction t with
 | pair a b iha ihb=>simp[zvs,Ty.sz,iha,ihb]
 | _=>rfl
theorem a2X (w:World) (t:Ty):∀ m,Rep w t m t.dflt (zvs t) [] []:=by
 induction t with
 | int k=>intro m;exact⟨rfl,rfl,rfl⟩
 | bool=>intro m;exact⟨rfl,rfl,rfl⟩
 | any=>intro m;exact⟨⟨_,rfl,rfl,fun _ h=>by cases h⟩,rfl,rfl⟩
 | pair a b iha ihb=>intro m;exact⟨zvs a,zvs b,[],[],[],[],rfl,rfl,rfl,iha m,ihb m⟩
 | sl t _=>intro m;exact⟨none,0,rfl,zH _,.inl ⟨rfl,rfl,rfl,fun _=>rfl⟩⟩
theorem a2z {tab:Tab} (ht:TabOK P tab) {T:TypeId} {i:TInfo} (hi:tab T=some i):(a3i i).cells=(zvs i.t).toArray:=by
 unfold a3i;split
 . rfl
 . rename_i h;have h1:=ht.plain T i hi (by simpa using h);have h2:=a5U i.t;rw[h1]at h2
   match hv:zvs i.t,h2 with
   | [u],_ =>
     have:=(a8m i.t (a2X (default:World) i.t .sh) u (by rw[hv];simp)).2;simp only[List.head?_cons,zY];cases u<;>first
       | rfl
       | exact absurd rfl (this _)
theorem b0L {E:Env} {R:Type} {o:Oper} {σ:St} {a:Act} {w:World} {G:Nat->RG} {k:St->Option R} {r:R} {c:Ctx} {T:TypeId} (ho:o.op = .alloc T) (ht:TabOK P c.tab)
   (h:Rel P E σ a w G) (hk:a6k c o T σ k=some r):Good P E o a w k r:=by
 unfold a6k at hk;split at hk
 . rename_i d i hd hi;obtain⟨inf,hinf,hsz,-,-,hz⟩:=ht.info T i hi;have hr:=(a0n w .deep i.t i.t.dflt _ _ _).1 (a2X w i.t .deep);have h1:=a8h h (Grew.alloc w (.cells (zvs i.t).toArray T)) (4*d) ⟨true,enc .deep i.t i.t.dflt⟩ _ (a4y hr T) (by simp) (by simp) (a1o _ _) (by simp);have run:(execOp a.eval o).run P w = .ok (.value (.pointer (some ⟨w.heap.size,0,none⟩))) (w.alloc (.cells (zvs i.t).toArray T)):=by
     simp[execOp,ho,Instr.alloc,zeroValue,typeInfo,hinf,hz,newVar,newRow,a2z ht hi]
   refine a0v run (a0A h1 o.dst (t := .ref (4*d) (.root 0)) ⟨rfl,rfl,⟨true,enc .deep i.t i.t.dflt⟩,_,_,by simp[St.new,a0j],zO _,by rw[a0y];exact a8P,rfl⟩ (Fine2.nil _ _)) ?_;rw[hd];exact hk
 . cases hk
theorem a5Z (z:List Value) (n:Nat):(madeCells z.toArray (n*z.length)).toList=(zx n z).flatten:=by
 have key:∀ n,(List.range (n*z.length)).map (fun i=>z.toArray[i%z.length]!)=(zx n z).flatten:=by
   intro n;induction n with
   | zero=>simp
   | succ n ih =>
     rw[Nat.add_mul,Nat.one_mul,List.range_add,z1,ih,List.replicate_succ',List.flatten_append];congr 1;simp only[List.map_map,zX,List.flatten_nil,zu];apply List.ext_getElem
     . simp
     . intro i h1 h2;simp only[List.length_map,List.length_range]at h1;have:(n*z.length+i)%z.length=i:=by
         rw[Nat.add_comm,Nat.add_mul_mod_self_right,Nat.mod_eq_of_lt h1]
       simp[this,h1]
 have:=key n;simp only[madeCells,Array.toList_map,Array.toList_range,List.size_toArray];exact this
theorem a4K {w:World} {t:Ty} {m:Mode} {x:t.den} {vs:List Value} (n:Nat) (h:Rep w t m x vs [] []):RepL (Rep w t m) (zx n x) (zx n vs).flatten [] []:=by
 induction n with
 | zero=>exact⟨rfl,rfl,rfl⟩
 | succ n ih=>rw[zV,zV,zX];exact⟨vs,_,[],[],[],[],rfl,rfl,rfl,h,ih⟩
theorem a6W {E:Env} {R:Type} {o:Oper} {σ:St} {a:Act} {w:World} {G:Nat->RG} {k:St->Option R} {r:R} {c:Ctx} {T:TypeId} {l cp:Operand} (ho:o.op = .makeSlice T l cp) (ht:TabOK P c.tab)
   (h:Rel P E σ a w G) (hk:a1l c o T (b1Y l cp) (a0x σ l) σ k=some r):Good P E o a w k r:=by
 unfold a1l at hk;split at hk
 . rename_i d t e fs k1 n hsame hd hT hl;have hcp:l=cp:=by
     unfold b1Y at hsame;split at hsame
     . rw[zJ hsame]
     . cases hsame
   subst hcp;split at hk
   case isFalse=>cases hk
   rename_i hb;obtain⟨S1,A1,hx1,-⟩:=a0q h l;have e1:=a1y hx1 hl;obtain⟨hu,i,hi,rfl⟩:=ht.slice T t e fs hT;obtain⟨inf,hinf,hsz,hb0,hb1,hz⟩:=ht.info e i hi;have hbig:n≤1099511627776:=hb.2;have hbytes:(inf.bytes:Int)*n≤281474976710656:=by
     have h1:(inf.bytes:Int)≤256:=by omega
     calc (inf.bytes:Int)*n≤256*n:=Int.mul_le_mul_of_nonneg_right h1 hb.1
       _≤281474976710656:=by omega
   have hrun:=run_make (P:=P) w T e inf (a3i i) hu hinf hz k1 k1 n n hb.1 (Int.le_refl _) hbytes (by omega);rw[a2z ht hi,hsz]at hrun;have hmc:=a5Z (zvs i.t) n.toNat;rw[a5U]at hmc;have hgr:=Grew.alloc w (.cells (madeCells (zvs i.t).toArray (n.toNat*i.t.sz)) e);have hroot:a0S (w.alloc (.cells (madeCells (zvs i.t).toArray (n.toNat*i.t.sz)) e)) ⟨false,[⟨.sl i.t,.deep,zx n.toNat i.t.dflt⟩]⟩
       ⟨[.slice (some ⟨w.heap.size,0,none⟩) n.toNat n.toNat],none,[w.heap.size],[]⟩:=by
     refine⟨[w.heap.size],⟨[_],[],[w.heap.size],[],[],[],rfl,rfl,rfl,⟨⟨_,rfl⟩,some ⟨w.heap.size,0,none⟩,n.toNat,by simp,by simp,.inr (.inl ⟨rfl,w.heap.size,_,e,(zx n.toNat (zvs i.t)).flatten,[],[],rfl,a5s _ _,by rw[hmc];simp,⟨?_,?_⟩,?_,rfl⟩)⟩,⟨rfl,rfl,rfl⟩⟩,.inl ⟨rfl,rfl,rfl⟩⟩
     . exact size_madeCells _ _
     . simp only[maxLen];omega
     . exact a4K _ (a2X _ _ _)
   have h1:=a8h h hgr (4*d) _ _ hroot (by simp) (by simp) (a1o _ _) (by simp);have run:(execOp a.eval o).run P w = .ok (.value (.slice (some ⟨w.heap.size,0,none⟩) n.toNat n.toNat)) (w.alloc (.cells (madeCells (zvs i.t).toArray (n.toNat*i.t.sz)) e)):=by
     simp[execOp,ho,e1,hrun]
   refine a0v run (a0A h1 o.dst (t := .view (4*d) (.root 0) 1 false) ⟨rfl,rfl,_,_,_,by rw[St.new,a0j,if_pos rfl],zO _,by rw[a0y];exact a2g,by simp,by simp[a0E]⟩ (Fine2.nil _ _)) ?_;rw[hd];exact hk
 . cases hk
end Go.Vm
end
section
namespace Go.Vm
variable {P:Program}
theorem a1B (w:World) (b:Nat) (arr:Array Value) {L:List Nat} (h:b∉L):a0a w (w.setRow b arr) L:=fun c hc=>setRow_other w b c arr (fun e=>h (e▸hc))
theorem a2k {w:World} {cs:List Cell} {vs:List Value} {F S:List Nat} (h:a0K w cs vs F S):∃ S',a0K w (cs.map Cell.sh) vs [] S'/\∀ b∈S',b∈F∨b∈S:=by
 induction cs generalizing vs F S with
 | nil=>obtain⟨rfl,rfl,rfl⟩:=h;exact⟨[],⟨rfl,rfl,rfl⟩,by simp⟩
 | cons c cs ih =>
   obtain⟨v,vs',F1,F2,S1,S2,rfl,rfl,rfl,hc,h2⟩:=a0T h;obtain⟨T1,g1,k1⟩:=a9m _ hc;obtain⟨T2,g2,k2⟩:=ih h2;refine⟨T1++T2,a2U (c:=c.sh) g1 g2,fun b hb=>?_⟩;simp only[zb]at hb ⊢;rcases hb with hb|hb
   . rcases k1 b hb with h|h<;>simp[h]
   . rcases k2 b hb with h|h<;>simp[h]
theorem a2Y {cs:List Cell}:∀ {p:Path} {new cs':List Cell},a2m cs p new=some cs'->new.length=(a0W cs p).length->a1S cs p->cs'.length=cs.length:=by
 intro p;induction p with
 | root j =>
   intro new cs' h hl hp;simp only[a2m,za]at h;subst h;simp only[a0W,zm,a1S]at hl hp;simp only[zy,zj];omega
 | hop p i sz j ih =>
   intro new cs' h hl hp;simp only[a2m]at h;split at h
   . rename_i t m xs rest hg;split at h
     . exact ih h (by rw[hg];simp) hp.1
     . cases h
   . cases h
theorem add_lit (b off:Nat):(⟨b,0,none⟩:Addr).add off=⟨b,off,none⟩:=by unfold Addr.add;split<;>simp_all
theorem a8T {A B C D E F:List Nat} {b:Nat} (h:(A++b::(B++((C++D)++E))).Nodup) (hF:F.Nodup) (hd:∀ c∈F,c∉A++b::(B++((C++D)++E))):(A++b::(B++((F++D)++E))).Nodup:=by
 simp only[zg,zi,zb,zc]at h hd ⊢
 grind
theorem enc_sh (m:Mode) (t:Ty):∀ x:t.den,(enc m t x).map Cell.sh=enc .sh t x:=by
 induction t with
 | int k=>intro x;rfl
 | bool=>intro x;rfl
 | any=>intro x;rfl
 | pair a b iha ihb=>intro x;simp[enc,iha,ihb]
 | sl t _=>intro x;rfl
theorem b2W {w : World} {x:Root} {g:RG} (hr:a0S w x g) (hn:g.F.Nodup) (hd:∀ b∈g.F,b∉g.S) {p:Path} (hp:a1S x.cs p) {ad:Addr} {us:List Value} (hl:Loc w g.vs g.base p (some ad) us)
   {new:List Cell} {nvs:List Value} {F2 S2:List Nat} (hnew:a0K w new nvs F2 S2) (hn2:F2.Nodup) (hd2:∀ b∈F2,b∉g.F/\b∉g.S/\b∉S2) (hs2:∀ b∈S2,b∉g.F) (hle:new.length≤(a0W x.cs p).length)
   {cs':List Cell} (hset:setM x.cs p (new++(a0W x.cs p).drop new.length)=some cs') :
   ∃ b off arr e arr' vs' F' S',ad=⟨b,off,none⟩/\b∈g.F/\w.heap[b]? = some (.cells arr e (0,0))/\off+nvs.length≤arr.size/\arr'.toList=arr.toList.take off++nvs++arr.toList.drop (off+nvs.length) ∧
     a0S (w.setRow b arr') ⟨x.mem,cs'⟩ ⟨vs',g.blk,F',S'⟩/\F'.Nodup/\(∀ c∈F',c∈g.F∨c∈F2)/\(∀ c∈S',c∈g.S∨c∈S2∨c∈g.F∨c∈F2)/\(∀ c∈F',c∉S')/\(p.flat=false->vs'=g.vs)/\x.cs.length≤cs'.length:=by
 obtain⟨F,hcs,hm⟩:=hr;have hnl:=a0k hnew;cases p with
 | root j =>
   obtain⟨h1,rfl⟩:=hl;rcases hm with⟨_,hb,_⟩|⟨hmem,b,arr,e,hb,hheap,harr,hF⟩
   . simp[RG.base,hb]at h1
   simp only[RG.base,hb,zv,za]at h1;rw[add_lit]at h1;obtain⟨F1,Fr,S1,Sr,rfl,hS,hr1,hr2⟩:=a0F j hcs;obtain⟨Fa,Fb,Sa,Sb,rfl,rfl,hr3,hr4⟩:=a0F new.length hr2;have hvl:=a0k hcs;simp only[setM,a2m,a0W,za]at hset;subst hset;simp only[a0W,zm]at hle;simp only[a1S]at hp;rw[hF]at hn hd hd2 hs2;rw[hS]at hd hd2;have hbn:b∉F1++(F2++Fb)++(S1++(S2++Sb)):=by
     simp only[zi,zb,zc]at hn hd hd2 hs2 ⊢
     grind
   have hrep:a0K w (x.cs.take j++(new++(x.cs.drop j).drop new.length)) (g.vs.take j++(nvs++(g.vs.drop j).drop new.length)) (F1++(F2++Fb)) (S1++(S2++Sb)) :=
     a0M hr1 (a0M hnew hr4)
   refine⟨b,j,arr,e,(g.vs.take j++(nvs++(g.vs.drop j).drop new.length)).toArray,_,b::(F1++(F2++Fb)),S1++(S2++Sb),h1,by rw[hF];simp,hheap,?_,?_,⟨_,a0I hrep (a1B w b _ hbn),.inr ⟨hmem,b,_,e,hb,setRow_heap w b arr _ e _ hheap,by simp,rfl⟩⟩,?_,?_,?_,?_,by simp[Path.flat],?_⟩
   . have:arr.size=g.vs.length:=by rw[<-harr];simp
     omega
   . simp only[harr,zU,hnl,zG]
   . simp only[zi,zg,zb,zc]at hn hd hd2 hs2 hbn ⊢
     grind
   . intro c hc;rw[hF];simp only[zc,zb]at hc ⊢
     grind
   . intro c hc;rw[hF,hS];simp only[zc,zb]at hc ⊢
     grind
   . intro c hc hc';simp only[zi,zg,zb,zc]at hn hd hd2 hs2 hbn hc hc'
     grind
   . simp only[zy,zj,zm];omega
 | hop q i sz j =>
   obtain⟨b,arr,e,pre,us2,post,G1,G2,Fm,F3,S1,Sm,S3,hheap,harr,hpre,rfl,hS,hrep,hl2,hup⟩:=b3A g.base hcs q i sz j hp;obtain⟨he,rfl⟩:=a0r hl hl2;have he:=zd he;rw[add_lit]at he;have hul:=a0k hrep;obtain⟨Fa,Fb,Sa,Sb,rfl,rfl,hr3,hr4⟩:=a0F new.length hrep;have hFsub:∀ c∈G1++b::(G2++((Fa++Fb)++F3)),c∈g.F:=by
     intro c hc;rcases hm with⟨_,_,he⟩|⟨_,_,_,_,_,_,_,he⟩<;>rw[he]
     . exact hc
     . exact zk _ hc
   have hnF:(G1++b::(G2++((Fa++Fb)++F3))).Nodup:=by
     rcases hm with⟨_,_,he⟩|⟨_,_,_,_,_,_,_,he⟩<;>rw[he]at hn
     . exact hn
     . exact(zi.1 hn).2
   have hdF:∀ c,c∈G1++b::(G2++((Fa++Fb)++F3))->c∉g.S/\c∉F2/\c∉S2:=fun c hc=>⟨hd c (hFsub c hc),fun h=>(hd2 c h).1 (hFsub c hc),fun h=>hs2 c h (hFsub c hc)⟩;have hlen:new.length≤us.length:=by omega
   have hsz:(pre.length+nvs.length)≤arr.size:=by
     rw[<-zN,harr];simp only[zy];omega
   have harr':(pre++((nvs++us.drop new.length)++post))=arr.toList.take pre.length++nvs++arr.toList.drop (pre.length+nvs.length):=by
     rw[harr,z3,zZ,zD (show pre.length+nvs.length-pre.length≤us.length by omega)];rw[zE (show pre.length≤pre.length+nvs.length by omega),show pre.length+nvs.length-pre.length=new.length by omega];simp
   let arr':Array Value:=(pre++((nvs++us.drop new.length)++post)).toArray;have hh':(w.setRow b arr').heap[b]? = some (.cells arr' e (0,0)):=setRow_heap w b arr _ e _ hheap;have key:∀ (F' S':List Nat),a0K (w.setRow b arr') cs' g.vs F' S'->F'.Nodup->(∀ c∈F',c∈G1++b::(G2++((Fa++Fb)++F3))∨c∈F2)->(∀ c∈S',c∈g.S∨c∈S2∨c∈G1++b::(G2++((Fa++Fb)++F3))∨c∈F2)->(∀ c∈F',c∉S')->x.cs.length≤cs'.length →
       ∃ b off arr e arr' vs' F' S',ad=⟨b,off,none⟩/\b∈g.F/\w.heap[b]? = some (.cells arr e (0,0))/\off+nvs.length≤arr.size/\arr'.toList=arr.toList.take off++nvs++arr.toList.drop (off+nvs.length) ∧
         a0S (w.setRow b arr') ⟨x.mem,cs'⟩ ⟨vs',g.blk,F',S'⟩/\F'.Nodup/\(∀ c∈F',c∈g.F∨c∈F2)/\(∀ c∈S',c∈g.S∨c∈S2∨c∈g.F∨c∈F2)/\(∀ c∈F',c∉S')/\((Path.hop q i sz j).flat=false->vs'=g.vs)/\x.cs.length≤cs'.length:=by
     intro F' S' h1 h2 h3 h4 h5 h6;rcases hm with⟨hmm,hb0,he0⟩|⟨hmm,b0,arr0,e0,hb0,hheap0,harr0,he0⟩
     . refine⟨b,pre.length,arr,e,arr',g.vs,F',S',by rw[he,hpre],hFsub b (by simp),hheap,hsz,harr',⟨F',h1,.inl ⟨hmm,hb0,rfl⟩⟩,h2,?_,?_,h5,fun _=>rfl,h6⟩
       . intro c hc;exact(h3 c hc).imp (hFsub c) id
       . intro c hc;rcases h4 c hc with h|h|h|h
         . exact .inl h
         . exact .inr (.inl h)
         . exact .inr (.inr (.inl (hFsub c h)))
         . exact .inr (.inr (.inr h))
     . rw[he0]at hn hd hd2 hs2;have hnb:b0∉G1++b::(G2++((Fa++Fb)++F3)):=(zi.1 hn).1;have hne:b0≠b:=fun h=>hnb (by rw[h];simp);refine⟨b,pre.length,arr,e,arr',g.vs,b0::F',S',by rw[he,hpre],by rw[he0];simp,hheap,hsz,harr',⟨F',h1,.inr ⟨hmm,b0,arr0,e0,hb0,by rw[setRow_other w b b0 arr' hne];exact hheap0,harr0,rfl⟩⟩,?_,?_,?_,?_,fun _=>rfl,h6⟩
       . refine zi.2 ⟨fun hc=>?_,h2⟩;rcases h3 b0 hc with h|h
         . exact hnb h
         . exact(hd2 b0 h).1 (by simp)
       . intro c hc;rw[he0];simp only[zc]at hc;rcases hc with rfl|hc
         . exact .inl (by simp)
         . exact(h3 c hc).imp (fun h=>zk _ h) id
       . intro c hc;rcases h4 c hc with h|h|h|h
         . exact .inl h
         . exact .inr (.inl h)
         . exact .inr (.inr (.inl (by rw[he0];exact zk _ h)))
         . exact .inr (.inr (.inr h))
       . intro c hc hc';simp only[zc]at hc;rcases hc with rfl|hc
         . rcases h4 c hc' with h|h|h|h
           . exact hd c (by simp) h
           . exact hs2 c h (by simp)
           . exact hnb h
           . exact(hd2 c h).1 (by simp)
         . exact h5 c hc hc'
   have hbn:b∉F2++Fb++(S2++Sb):=by
     have h0:=hdF b (by simp);rw[hS]at h0;simp only[zi,zg,zb,zc]at hnF h0 ⊢
     grind
   unfold setM at hset;split at hset
   . rename_i cs2 hs1;obtain rfl:=zd hset;have hrep2:a0K w (new++(a0W x.cs (.hop q i sz j)).drop new.length) (nvs++us.drop new.length) (F2++Fb) (S2++Sb):=a0M hnew hr4;have h1:=hup (w.setRow b arr') _ _ arr' _ _ cs2 hh' (by simp[arr']) (a1B w b _ (by
       have h0:=hdF b (by simp);rw[hS]at h0;simp only[zi,zg,zb,zc]at hnF h0 ⊢
       grind)) (a0I hrep2 (a1B w b _ hbn)) hs1
     have hlen2:=a2Y hs1 (by simp only[zy,zm];omega) hp;refine key _ _ h1 ?_ ?_ ?_ ?_ (by omega)
     . exact a8T hnF hn2 fun c hc h=>(hdF c h).2.1 hc
     . intro c hc;simp only[zb,zc]at hc ⊢
       grind
     . intro c hc;rw[hS];simp only[zb,zc]at hc ⊢
       grind
     . intro c hc hc';have h0:=hdF c;have h3:=hd2 c;rw[hS]at h0 h3;simp only[zb,zc]at hc hc' h0 h3
       grind
   . rename_i hs1;obtain⟨hp1,hj,t,m,xs,rest,hg,ho,hi,rfl⟩:=hp;have hget:a0W x.cs (.hop q i t.sz j)=(enc m.inn t (xs.getD i t.dflt)).drop j:=by simp only[a0W,hg]
     obtain⟨A1,Am,A2,T1,Tm,T2,us',ad',hFe,hSe,hrq,hlq,huq⟩:=lens g.base hcs q hp1;rw[hg]at hrq;obtain⟨hdr,us3,H1,H2,U1,U2,rfl,rfl,rfl,hhead,hrest⟩:=a0T hrq;obtain⟨A,cc,rfl⟩:=a1I hhead;obtain⟨H1',U1',hshal,hsub,hU1',hdisj⟩:=b1X t ho hhead;obtain⟨-,b',arr2,e2,v1,v2,v3,sp,E1,E2,E3,D1,D2,D3,hA,hb',harr2,hv1,hv2,rfl,rfl,hel,hupd⟩:=a2V (m := .shal) rfl hshal hi;subst hA;have hbb:b'=b:=by
       obtain⟨A3,n3,c3,ad3,us4,hl3,_,he3,_⟩:=hl2;obtain⟨-,h3⟩:=a0r hlq hl3;simp only[zh,Value.slice.injEq,za]at h3;have h4:=zd he3;rw[<-h3.1.1]at h4;have h5:=congrArg Addr.block h4;simp only[a0P]at h5;exact h5.symm
     subst hbb;rw[hheap]at hb';simp only[za,Obj.cells.injEq]at hb';obtain⟨rfl,rfl,-⟩:=hb';simp only[hg]at hset;have hset2:∃ x',a0u .sh t (((enc m.inn t (xs.getD i t.dflt)).take j++(new++(a0W x.cs (.hop q i t.sz j)).drop new.length)).map Cell.sh)=some x'/\a2m x.cs q (⟨.sl t,.shal,xs.set i x'⟩::rest)=some cs':=by
       cases m with
       | sh=>cases hset
       | deep =>
         simp only[]at hset;split at hset
         . rename_i x' hx';exact⟨x',hx',hset⟩
         . cases hset
       | shal =>
         simp only[]at hset;split at hset
         . rename_i x' hx';exact⟨x',hx',hset⟩
         . cases hset
     obtain⟨x',hx',hset⟩:=hset2;have hdec:=a4n hx';rw[hget]at hdec;simp only[z1,List.map_take,List.map_drop,enc_sh]at hdec;have hEnil:E2=[]:=b3X t ((a0n _ _ _ _ _ _ _).2 hel);subst hEnil;obtain⟨Z1,Z2,Y1,Y2,hZ,rfl,hp1',hp2'⟩:=a0F j hel;obtain⟨Z3,Z4,Y3,Y4,rfl,rfl,-,hp4'⟩:=a0F new.length hp2';have hZ':Z1=[]/\Z3=[]/\Z4=[]:=by have:=hZ.symm;simp at this;grind
     obtain⟨rfl,rfl,rfl⟩:=hZ';obtain⟨S2',hnew',hS2'⟩:=a2k hnew;have hnewel:a0K w (enc .sh t x') (v2.take j++(nvs++(v2.drop j).drop new.length)) ([]++([]++[])) (Y1++(S2'++Y4)):=by
       rw[<-hdec];exact a0M hp1' (a0M hnew' hp4')
     have hv1j:pre.length=v1.length+j:=by omega
     have htk:(v2.take j).length=j:=by rw[zj,hv2];omega
     have harr'':arr'.toList=v1++((v2.take j++(nvs++(v2.drop j).drop new.length))++v3)++sp:=by
       have h0:arr'.toList=arr.toList.take pre.length++nvs++arr.toList.drop (pre.length+nvs.length):=harr';have h1:arr.toList=(v1++v2.take j)++(v2.drop j++(v3++sp)):=by
         rw[harr2];have h2:v1++(v2++v3)++sp=v1++((v2.take j++v2.drop j)++v3)++sp:=by rw[zo]
         rw[h2];simp only[zG]
       have h3:pre.length=(v1++v2.take j).length:=by simp only[zy,htk];omega
       have h4:new.length≤(v2.drop j).length:=by
         rw[zm,hv2];rw[hget,zm,a2A]at hle;omega
       rw[h0,h1,h3,z3,zZ,zE (by omega),zp,show(v1++v2.take j).length+nvs.length-(v1++v2.take j).length=new.length by omega,zD h4];simp only[zG]
     have hAF:∀ c,c∈A1++((H1++H2)++A2)->c∈G1++b'::(G2++((Fa++Fb)++F3)):=fun c hc=>hFe▸hc;have hAn:(A1++((H1++H2)++A2)).Nodup:=hFe▸hnF;have hTS:∀ c,c∈T1++((U1++U2)++T2)->c∈g.S:=fun c hc=>hSe▸hc;have hbH:b'∈H1:=hsub.subset (by simp);have hdisj':=hdisj (by simp only[zg]at hAn;grind) (fun c hc hU=>(hdF c (hAF c (by simp[hc]))).1 (hTS c (by simp[hU])));have hb0:=hdF b' (by simp);have hbT:b'∉T1++((U1++U2)++T2):=fun h=>hb0.1 (hTS b' h);have hnb1:b'∉A1++A2++(H2++T1)++(T2++U2):=by
       simp only[zg,zb]at hAn hbT ⊢
       grind
     have hbnot:=hdisj' b' (by simp);have hnb2:b'∉E1++([]++E3)++(D1++(Y1++(Y3++Y4)++D3)):=by
       have hnH:(b'::(E1++([]++([]++[])++E3))).Nodup:=hsub.nodup (by simp only[zg]at hAn;grind);have h1:=(zi.1 hnH).1;simp only[zb,zp]at h1 hbnot ⊢
       grind
     have hnb3:b'∉S2':=fun h=>by
       rcases hS2' b' h with h1|h1
       . exact hb0.2.1 h1
       . exact hb0.2.2 h1
     have hel':=a0I hnewel (w':=w.setRow b' arr') (a1B w b' _ (by simp only[zb,zp]at hnb2 ⊢;grind));have hrow:=hupd (w.setRow b' arr') x' _ arr' _ _ hh' harr'' (a1B w b' _ (by simp only[zb,zp]at hnb2 ⊢;grind)) hel';have hrest':=a0I hrest (w':=w.setRow b' arr') (a1B w b' _ (by simp only[zb]at hnb1 ⊢;grind));have hall:=huq (w.setRow b' arr') (⟨.sl t,.shal,xs.set i x'⟩::rest) _ _ cs' (a1B w b' _ (by simp only[zb]at hnb1 ⊢;grind)) (a2U (c:=⟨.sl t,.shal,xs.set i x'⟩) hrow hrest') hset;have hlen2:=a2Y hset (by rw[hg];simp) hp1;have hsubF:∀ c,c∈b'::(E1++([]++([]++[])++E3))->c∈H1:=fun c hc=>hsub.subset hc;have hnH':(b'::(E1++([]++([]++[])++E3))).Nodup:=hsub.nodup (by simp only[zg]at hAn;grind);refine key _ _ hall ?_ ?_ ?_ ?_ (by omega)
     . simp only[zp,zu]at hsubF hnH' ⊢;have hsubF':∀ c,c∈b'::(E1++E3)->c∈H1:=hsubF;clear key hall hrow hel' hrest' hnewel hdisj' hnb1 hnb2;rw[zg]at hAn ⊢;obtain⟨n1,n2,n3⟩:=hAn;rw[zg]at n2;obtain⟨n4,n5,n6⟩:=n2;rw[zg]at n4;obtain⟨n7,n8,n9⟩:=n4;refine⟨n1,?_,fun c hc d hd2=>n3 c hc d ?_⟩
       . rw[zg,zg];refine⟨⟨hnH',n8,fun c hc d hd2=>n9 c (hsubF' c hc) d hd2⟩,n5,fun c hc d hd2=>n6 c ?_ d hd2⟩;simp only[zb]at hc ⊢;exact hc.imp (hsubF' c) id
       . simp only[zb]at hd2 ⊢;rcases hd2 with(h|h)|h
         . exact .inl (.inl (hsubF' d h))
         . exact .inl (.inr h)
         . exact .inr h
     . intro c hc;refine .inl (hAF c ?_);simp only[zp,zu]at hsubF;have:=hsubF c;simp only[zb,zc,zp]at hc this ⊢
       grind
     . intro c hc;have h1:=hU1' c;have h2:=hS2' c;have h3:=hTS c;have h4:=hAF c;simp only[zb,zp]at hc h1 h2 h3;have h5:c∈H1->c∈G1++b'::(G2++((Fa++Fb)++F3)):=fun h=>hAF c (by simp[h]);generalize hFo:G1++b'::(G2++((Fa++Fb)++F3))=Fo at h5 ⊢;clear hall hrow hel' hrest' hnewel hdisj' hnb1 hnb2 key hup huq hupd h4 hAF hFe hdF hFsub hcs hm hnF hAn
       grind
     . intro c hc hc';have hcF:c∈A1++((H1++H2)++A2):=by
         have:=hsubF c;simp only[zp,zu,zb,zc]at hc this ⊢;clear hall hrow hel' hrest' hnewel hdisj' hnb1 hnb2 key hup huq hupd
         grind
       obtain⟨k1,k2,k3⟩:=hdF c (hAF c hcF);have hD:c∉D1++(Y1++(Y3++Y4)++D3):=by
         intro hcD;rcases hU1' c hcD with h|h
         . have hcE:c∈b'::(E1++([]++([]++[])++E3)):=by
             have h9:c∉A1/\c∉H2/\c∉A2:=by
               clear hall hrow hel' hrest' hnewel hdisj' hnb1 hnb2 key hup huq hupd;simp only[zg,zb]at hAn
               grind
             simp only[zp,zu,zb,zc]at hc ⊢;clear hall hrow hel' hrest' hnewel hdisj' hnb1 hnb2 key hup huq hupd
             grind
           exact hdisj' c hcE hcD
         . exact k1 (hTS c (by simp[h]))
       have hT:c∉T1/\c∉U2/\c∉T2:=⟨fun h=>k1 (hTS c (by simp[h])),fun h=>k1 (hTS c (by simp[h])),fun h=>k1 (hTS c (by simp[h]))⟩;have hS2c:c∉S2':=fun h=>(hS2' c h).elim k2 k3;simp only[zb]at hc' hD;clear hall hrow hel' hrest' hnewel hdisj' hnb1 hnb2 key hup huq hupd
       grind
end Go.Vm
end
section
namespace Go.Vm
variable {P:Program}
theorem a6y {E:Env} {rs:List (Nat×Root)} {w w':World} {G:Nat->RG} (h:RelR E rs w G) (r:Nat) (x x':Root) (hx:rget rs r=some x) (g:RG) (F2 S2:List Nat) (hx':a0S w' x' g) (hn:g.F.Nodup)
   (hF:∀ c∈g.F,c∈(G r).F∨c∈F2) (hS:∀ c∈g.S,c∈(G r).S∨c∈S2∨c∈(G r).F∨c∈F2) (hd:∀ c∈g.F,c∉g.S)
   (hF2:∀ b∈F2,(∀ p,b∉(G p).F)/\(∀ p y,rget rs p=some y->b∉(G p).S)/\(E.w0.heap.size≤b∨b∈E.M)) (hS2:Fine E G S2)
   (hsame:∀ b,b<w.heap.size->b∉(G r).F->b∉F2->w'.heap[b]? = w.heap[b]?) (hbase:Bel w w'):RelR E (rput rs r x') w' (upG G r g):=by
 have hkeep:∀ q y,q≠r->rget rs q=some y->a0S w' y (G q):=by
   intro q y hq hy;refine a1c (h.roots q y hy) fun b hb=>hsame b (a0N (h.roots q y hy) b (by simpa using hb)) ?_ ?_
   . intro hbr;simp only[zb]at hb;rcases hb with hb|hb
     . exact hq (h.disj q r b hb hbr)
     . exact(h.shr q y hy b hb).1 r hbr
   . intro hb2;simp only[zb]at hb;rcases hb with hb|hb
     . exact(hF2 b hb2).1 q hb
     . exact(hF2 b hb2).2.1 q y hy hb
 refine⟨fun q y hy=>?_,fun q b hb=>?_,fun q=>?_,?fin,fun q q' b hb hb'=>?_,fun q y hy b hb=>?_,fun q b hb=>?_,fun b h1 h2=>?_,h.base.trans hbase⟩
 case fin =>
   obtain⟨n,hn'⟩:=h.fin;refine⟨max n (r+1),fun q hq=>?_⟩;have hqr:q≠r:=by omega
   rw[a0j,if_neg hqr,a0z _ _ hqr];exact hn' q (by omega)
 . rw[a0j]at hy;by_cases hq:q=r
   . subst hq;rw[if_pos rfl]at hy;obtain rfl:=zd hy;rw[a0y];exact hx'
   . rw[if_neg hq]at hy;rw[a0z _ _ hq];exact hkeep q y hq hy
 . by_cases hq':q=r
   . subst hq';rw[a0y]at hb;exact a0N hx' b (.inl hb)
   . rw[a0z _ _ hq']at hb;exact zl (h.lt q b hb) hbase.size
 . by_cases hq:q=r
   . subst hq;rw[a0y];exact hn
   . rw[a0z _ _ hq];exact h.nodup q
 . have key:∀ q b,q≠r->b∈g.F->b∉(G q).F:=by
     intro q b hq hb hbq;rcases hF b hb with h1|h1
     . exact hq (h.disj q r b hbq h1)
     . exact(hF2 b h1).1 q hbq
   by_cases hq:q=r
   . subst hq;rw[a0y]at hb;by_cases hq':q'=q
     . exact hq'.symm
     . rw[a0z _ _ hq']at hb';exact absurd hb' (key q' b hq' hb)
   . rw[a0z _ _ hq]at hb;by_cases hq':q'=r
     . subst hq';rw[a0y]at hb';exact absurd hb (key q b hq hb')
     . rw[a0z _ _ hq']at hb';exact h.disj q q' b hb hb'
 . rw[a0j]at hy;by_cases hq:q=r
   . subst hq;rw[a0y]at hb;have hb':=hS b hb;refine⟨fun q' hq'=>?_,fun hlt=>?_⟩
     . by_cases hqq:q'=q
       . subst hqq;rw[a0y]at hq';exact hd b hq' hb
       . rw[a0z _ _ hqq]at hq';rcases hb' with h1|h1|h1|h1
         . exact(h.shr q x hx b h1).1 q' hq'
         . exact(hS2 b h1).1 q' hq'
         . exact hqq (h.disj q' q b hq' h1)
         . exact(hF2 b h1).1 q' hq'
     . rcases hb' with h1|h1|h1|h1
       . exact(h.shr q x hx b h1).2 hlt
       . exact(hS2 b h1).2 hlt
       . rcases h.own q b h1 with h2|h2
         . omega
         . exact E.ma b h2
       . rcases(hF2 b h1).2.2 with h2|h2
         . omega
         . exact E.ma b h2
   . rw[if_neg hq]at hy;rw[a0z _ _ hq]at hb;obtain⟨h1,h2⟩:=h.shr q y hy b hb;refine⟨fun q' hq'=>?_,h2⟩;by_cases hqq:q'=r
     . subst hqq;rw[a0y]at hq';rcases hF b hq' with h3|h3
       . exact h1 _ h3
       . exact(hF2 b h3).2.1 q y hy hb
     . rw[a0z _ _ hqq]at hq';exact h1 q' hq'
 . by_cases hq:q=r
   . subst hq;rw[a0y]at hb;rcases hF b hb with h1|h1
     . exact h.own q b h1
     . exact(hF2 b h1).2.2
   . rw[a0z _ _ hq]at hb;exact h.own q b hb
 . have hlt:=zl h1 h.base.size;by_cases hbr:b∈(G r).F
   . rcases h.own r b hbr with h3|h3
     . omega
     . exact absurd h3 h2
   . by_cases hb2:b∈F2
     . rcases(hF2 b hb2).2.2 with h3|h3
       . omega
       . exact absurd h3 h2
     . rw[hsame b hlt hbr hb2];exact h.frame b h1 h2
theorem a4J {E:Env} {σ:St} {a:Act} {w:World} {G:Nat->RG} (h:Rel P E σ a w G) (ts0:List TV) (rs0:List (Nat×Root)) (G0:Nat->RG) (F2:List Nat) (hA:RelR E rs0 w G0) (hlen0:ts0.length=σ.ts.length)
   (hB:∀ (i:Nat) (t':TV),ts0[i]? = some t'->t' = .dead∨(σ.ts[i]? = some t'/\∀ v S A,TRep P σ.rs G w t' v S A->(∀ b∈S,∀ q,b∉(G q).F)->TRep P rs0 G0 w t' v S A/\(∀ b∈S,∀ q,b∉(G0 q).F)/\∀ b∈S,b∉F2))
   (r:Nat) (x:Root) (hx:rget rs0 r=some x) {p:Path} {ad:Addr} {us:List Value} (hp:a1S x.cs p) (hl:Loc w (G0 r).vs (G0 r).base p (some ad) us)
   {new:List Cell} {nvs:List Value} {S2:List Nat} (hnew:a0K w new nvs F2 S2) (hn2:F2.Nodup)
   (hF2:∀ b∈F2,(∀ p,b∉(G0 p).F)/\(∀ p y,rget rs0 p=some y->b∉(G0 p).S)/\(E.w0.heap.size≤b∨b∈E.M)) (hF2S:∀ b∈F2,b∉S2) (hS2:Fine E G0 S2) (hle:new.length≤(a0W x.cs p).length)
   {cs':List Cell} (hset:setM x.cs p (new++(a0W x.cs p).drop new.length)=some cs') :
   ∃ b off arr e arr' G',ad=⟨b,off,none⟩/\w.heap[b]? = some (.cells arr e (0,0))/\off+nvs.length≤arr.size/\arr'.toList=arr.toList.take off++nvs++arr.toList.drop (off+nvs.length) ∧
     Rel P E ⟨a0g r p.flat ts0,rput rs0 r ⟨x.mem,cs'⟩⟩ a (w.setRow b arr') G':=by
 have hshr:=hA.shr r x hx;obtain⟨b,off,arr,e,arr',vs',F',S',hadr,hbF,hheap,hsz,harr,hroot,hnF,hsubF,hsubS,hdis,hvs,hlen⟩:=b2W (hA.roots r x hx) (hA.nodup r) (fun b hb hs=>(hshr b hs).1 r hb) hp hl hnew hn2
   (fun b hb=>⟨(hF2 b hb).1 r,(hF2 b hb).2.1 r x hx,hF2S b hb⟩) (fun b hb=>(hS2 b hb).1 r) hle hset
 have hsame:∀ c,c≠b->(w.setRow b arr').heap[c]? = w.heap[c]? := fun c hc=>setRow_other w b c arr' hc;have hbase:Bel w (w.setRow b arr'):=⟨rfl,rfl,rfl,by simp,zH _⟩;refine⟨b,off,arr,e,arr',upG G0 r ⟨vs',(G0 r).blk,F',S'⟩,hadr,hheap,hsz,harr,h.defers,?_,?_⟩
 . refine a1q h.temps (by simp[a0l,hlen0]) fun i t' ht'=>?_;rcases a1F ht' with rfl|⟨ht1,hu1⟩
   . exact .inl rfl
   rcases hB i t' ht1 with rfl|⟨ht2,hh⟩
   . exact .inl rfl
   refine .inr ⟨t',ht2,fun v S A hS hf=>?_⟩;obtain⟨h1,h2,h3⟩:=hh v S A hS hf;refine⟨?_,fun c hc q hq=>?_⟩
   . refine a1L r p.flat x ⟨x.mem,cs'⟩ hx (by rw[a0j,if_pos rfl]) hlen (by rw[a0y]) (fun hv=>by rw[a0y];exact hvs hv) (fun q hq=>by rw[a0j,if_neg hq]) (fun q hq _=>a0z _ _ hq) hA.roots (fun q hq c hc=>hsame c ?_) (by simp) t' v S A hu1 h1 (fun c hc=>hsame c ?_)
     . rintro rfl;exact hq (hA.disj q r c hc hbF)
     . rintro rfl;exact h2 c hc r hbF
   . by_cases hqr:q=r
     . subst hqr;rw[a0y]at hq;rcases hsubF c hq with h4|h4
       . exact h2 c hc q h4
       . exact h3 c hc h4
     . rw[a0z _ _ hqr]at hq;exact h2 c hc q hq
 . refine a6y hA r x ⟨x.mem,cs'⟩ hx ⟨vs',(G0 r).blk,F',S'⟩ F2 S2 hroot hnF hsubF hsubS hdis hF2 hS2 (fun c _ hc _=>hsame c ?_) hbase;rintro rfl;exact hc hbF
theorem a3I {tab:Tab} (ht:TabOK P tab) {T:TypeId} {i:TInfo} (hi:tab T=some i) {b off:Nat} {arr:Array Value} {e:TypeId} {nvs:List Value} {v:Value} {w:World} (hh:w.heap[b]? = some (.cells arr e (0,0))) (hsz:off+nvs.length≤arr.size)
   (hl:nvs.length=i.t.sz) (hv:v.cells=nvs.toArray) (h1:∀ u∈nvs,u.oneCell'=true) {arr':Array Value} (harr:arr'.toList=arr.toList.take off++nvs++arr.toList.drop (off+nvs.length)) :
   (Instr.storeAt T (.pointer (some ⟨b,off,none⟩)) v).run P w = .ok () (w.setRow b arr'):=by
 obtain⟨inf,hinf,hsz',-⟩:=ht.info T i hi;have hst:=run_storeCells_at P b off e nvs 0 arr w hh (by simpa using hsz) h1;have he:arr'=(arr.toList.take off++nvs++arr.toList.drop (off+nvs.length)).toArray:=by
   apply Array.ext';rw[harr]
 simp only[Nat.add_zero]at hst;rw[<-he]at hst;simp[Instr.storeAt,Instr.sureAddr,storeVar,hv,sizeOf,typeInfo,hinf,hsz',hl,hst]
theorem a6M {E:Env} {R:Type} {o:Oper} {a:Act} {w w':World} {k:St->Option R} {r:R} {σ':St} {G':Nat->RG}
   (hrun:(execOp a.eval o).run P w = .ok .skip w') (h:Rel P E σ' (a.put o.dst undef) w' G') (hk:k σ'=some r):Good P E o a w k r:=by
 intro Q;unfold Oper.wp;rw[hrun,Oper.upon_skip];exact⟨σ',G',h,hk⟩
theorem b3z {r:Nat} {f t:TV}:TV.boxed r f t = .dead∨(t = .ref r (.root 0)/\TV.boxed r f t = .pfn f)∨(t.uses r=false/\TV.boxed r f t=t):=by
 have gen:(match t.uses r with|true=>TV.dead|false=>t) = .dead∨(t.uses r=false/\(match t.uses r with|true=>TV.dead|false=>t)=t):=by
   cases hu:t.uses r with
   | true=>exact .inl rfl
   | false=>exact .inr ⟨rfl,rfl⟩
 unfold TV.boxed;split
 . rename_i r';cases hd:zf r' r with
   | isTrue he=>subst he;exact .inr (.inl ⟨rfl,rfl⟩)
   | isFalse he =>
     refine .inr (.inr ⟨?_,rfl⟩);simp only[TV.uses];cases hb:zP r' r with
     | false=>rfl
     | true=>exact absurd (zJ hb) he
 . exact gen.elim .inl fun h => .inr (.inr h)
theorem b4t {E:Env} {R:Type} {o:Oper} {σ:St} {a:Act} {w:World} {G:Nat->RG} {k:St->Option R} {r:R} {c:Ctx} {T:TypeId} {i:TInfo} {ad x:Operand} {q:Nat} {p:Path} {root:Root} (ho:o.op = .store T ad x) (hdst:o.dst=none) (ht:TabOK P c.tab) (hi:c.tab T=some i)
   (h:Rel P E σ a w G) (hev:a0x σ ad = .ref q p) (hy:rget σ.rs q=some root) (hk:a6v i.agg q p root (a0x σ x) σ k=some r):Good P E o a w k r:=by
 obtain⟨S1,A1,hxa,-⟩:=a0q h ad;obtain⟨Sf,Af,hxf,hff⟩:=a0q h x;unfold a6v at hk;split at hk
 . rename_i m x0 hag;split at hk
   . rename_i hfn hus;rw[hev]at hxa;obtain⟨rfl,rfl,y,ad0,us,hy',hp,⟨hl1,hl2⟩,hv⟩:=hxa;rw[hy]at hy';obtain rfl:=zd hy';obtain⟨F,hcs,hm⟩:=h.r.roots q _ hy;rcases hm with⟨hm,_⟩|⟨-,b,arr,e,hb,hheap,harr,hF⟩
     . cases hm
     have hn:(G q).vs.length=1:=a0k hcs;have ead:ad0=⟨b,0,none⟩:=by
       simp only[RG.base,hb,zv,za]at hl1;rw[hl1];rfl
     subst ead;have hbF:b∈(G q).F:=by rw[hF];simp
     have hst:=a3I (P:=P) (i:=i) (b:=b) (off:=0) (arr:=arr) (e:=e) (nvs:=[a.eval x]) (v:=a.eval x) (w:=w) (arr':=#[a.eval x]) ht hi hheap (by rw[<-zN,harr,hn];simp) (by rw[ht.plain T i hi hag];rfl) (a8L hxf hfn).1 (by simp[(a8L hxf hfn).2]) (by rw[harr];simp[List.drop_eq_nil_of_le (show(G q).vs.length≤1 by omega)]);have hsame:∀ c,c≠b->(w.setRow b #[a.eval x]).heap[c]? = w.heap[c]? := fun c hc=>setRow_other w b c _ hc;have hbase:Bel w (w.setRow b #[a.eval x]):=⟨rfl,rfl,rfl,by simp,zH _⟩;have hA:=a8e h.r q;have notb:∀ (r':Nat) (c:Nat),r'≠q->c∈(G r').F->c≠b:=fun r' c hr' hc e=>by subst e;exact hr' (h.r.disj r' q _ hc hbF)
     have run:(execOp a.eval o).run P w = .ok .skip (w.setRow b #[a.eval x]):=by
       simp[execOp,ho,hv,hst]
     have tr:∀ (t:TV) (v:Value) (S A:List Nat),t.uses q=false->TRep P σ.rs G w t v S A->(∀ c∈S,c≠b)->TRep P (rdel σ.rs q) (upG G q noRG) (w.setRow b #[a.eval x]) t v S A:=fun t v S A hu h1 h2=>by
       have h3:=a1k (rs':=rdel σ.rs q) (G':=upG G q noRG) q (fun p hp=>by rw[a0D,if_neg hp]) (fun p hp _=>a0z _ _ hp) t v S A hu h1;exact a0t hA.roots (fun r' y hy c hc=>hsame c (by
         by_cases e:r'=q
         . subst e;rw[a0D,if_pos rfl]at hy;cases hy
         . rw[a0z _ _ e]at hc;exact notb r' c e hc)) (by simp) t v S A h3 fun c hc=>hsame c (h2 c hc)
     have free:∀ c,(∀ r',c∉(G r').F)->∀ r',c∉(upG G q noRG r').F:=fun c hc r' hr'=>by
       by_cases e:r'=q
       . subst e;rw[a0y]at hr';cases hr'
       . rw[a0z _ _ e]at hr';exact hc r' hr'
     have fb:∀ S A,Fine2 E G S A->∀ c∈S,c≠b:=fun S A hf c hc e=>by subst e;exact hf.free _ hc q hbF
     refine a6M (G':=upG G q noRG) run ?_ hk;rw[hdst];refine⟨h.defers,⟨h.temps.1.trans (by simp),fun j t' ht'=>?_⟩,⟨fun r' y hy=>?_,fun r' c hc=>by simpa using hA.lt r' c hc,hA.nodup,hA.fin,hA.disj,hA.shr,hA.own,fun c h1 h2=>?_,h.r.base.trans hbase⟩⟩
     . simp only[zI,zF]at ht';obtain⟨t,ht1,rfl⟩:=ht';obtain⟨v,S,A,hv1,hr1,hf1⟩:=h.temps.2 j t ht1;rcases b3z (r:=q) (f:=a0x σ x) (t:=t)with e|⟨e1,e2⟩|⟨e1,e2⟩
       . rw[e];exact⟨v,[],[],hv1,⟨rfl,rfl⟩,Fine2.nil _ _⟩
       . rw[e2];subst e1;obtain⟨-,-,y2,ad2,us2,hy2,-,⟨hl3,-⟩,hv2⟩:=hr1;simp only[RG.base,hb,zv,za]at hl3;refine⟨v,b::Sf,Af,hv1,⟨⟨b,0,none⟩,a.eval x,Sf,by rw[hv2,hl3];rfl,?_,by simpa using h.r.lt q b hbF,tr _ _ _ _ hus hxf (fb _ _ hff),rfl⟩,⟨fun c hc=>?_,hff.inA⟩⟩
         . have:=a0V (w:=w.setRow b #[a.eval x]) (b:=b) (us:=[a.eval x]) (sp:=[]) (arr:=#[a.eval x]) (e:=e) (setRow_heap w b arr _ e _ hheap) (by simp) 0 (a.eval x) (by simp);have e0:(⟨b,0,none⟩:Addr).add 0=⟨b,0,none⟩:=by simp[Addr.add]
           rw[e0]at this;exact this
         . simp only[zc]at hc;rcases hc with rfl|hc
           . intro r' hr';by_cases e:r'=q
             . subst e;rw[a0y]at hr';cases hr'
             . rw[a0z _ _ e]at hr';exact notb r' _ e hr' rfl
           . exact free c (hff.free c hc)
       . rw[e2];exact⟨v,S,A,hv1,tr t v S A e1 hr1 (fb _ _ hf1),⟨fun c hc=>free c (hf1.free c hc),hf1.inA⟩⟩
     . have hy':=hA.roots r' y hy;by_cases e:r'=q
       . subst e;rw[a0D,if_pos rfl]at hy;cases hy
       . refine a1c hy' fun c hc=>hsame c ?_;rw[a0z _ _ e]at hc;simp only[zb]at hc;rcases hc with hc|hc
         . exact notb r' c e hc
         . rintro rfl;rw[a0D,if_neg e]at hy;exact(h.r.shr r' y hy _ hc).1 q hbF
     . rw[hsame c ?_]
       . exact h.r.frame c h1 h2
       . rintro rfl;rcases h.r.own q _ hbF with h3|h3
         . omega
         . exact h2 h3
   . cases hk
 . cases hk
theorem b1q {E:Env} {R:Type} {o:Oper} {σ:St} {a:Act} {w:World} {G:Nat->RG} {k:St->Option R} {r:R} {c:Ctx} {T:TypeId} {ad x:Operand} (ho:o.op = .store T ad x) (hdst:o.dst=none) (ht:TabOK P c.tab)
   (h:Rel P E σ a w G) (hk:b1Z c T (a0x σ ad) x σ k=some r):Good P E o a w k r:=by
 obtain⟨S1,A1,hxa,-⟩:=a0q h ad;have run:∀ w',(Instr.storeAt T (a.eval ad) (a.eval x)).run P w = .ok () w'->(execOp a.eval o).run P w = .ok .skip w':=by
   intro w' hw;simp[execOp,ho,hw]
 unfold b1Z at hk;split at hk
 . rename_i i q p hi hev;rw[hev]at hxa;obtain⟨rfl,rfl,y,ad0,us,hy,hp,hl,hv⟩:=hxa;split at hk
   . rename_i root ag cs hroot hsrc;rw[hy]at hroot;obtain rfl:=zd hroot;split at hk
     . rename_i hcl hle _ _;split at hk
       . rename_i cs' hset;rw[<-hcl]at hset hle;obtain⟨vs,S,hr,hsv,hf,hlt⟩:=a3d h hsrc;have hnl:=a0k hr;obtain⟨b,off,arr,e,arr',G',rfl,hheap,hsz,harr,hrel⟩:=a4J h σ.ts σ.rs G [] h.r rfl (fun i t' ht' => .inr ⟨ht',fun v S A h1 h2=>⟨h1,h2,by simp⟩⟩) q y hy hp hl hr (by simp) (by simp) (by simp) hf hle hset;have hst:=a3I (P:=P) ht hi hheap hsz (hnl.trans hcl) (a0e hr hsv) (fun u hu=>(a2i hr u hu).1) harr;rw[hv]at run;refine a6M (G':=G') (run _ hst) ?_ hk;rw[hdst];exact hrel
       . cases hk
     . cases hk
   . rename_i root qq ag cs hroot hsrc;rw[hy]at hroot;obtain rfl:=zd hroot;split at hk
     . rename_i hcl hle hne _ _ _;split at hk
       . rename_i cs' hset;rw[<-hcl]at hset hle;obtain⟨mem,F,hq,hsv,hr,hFs,hFn,-⟩:=a5E h hsrc;have hnl:=a0k hr;have hqr:q≠qq:=fun e=>hne e.symm;have k1:∀ (i:Nat) (t':TV),(kill qq σ.ts)[i]? = some t'->t' = .dead∨(σ.ts[i]? = some t'/\∀ v S A,TRep P σ.rs G w t' v S A->(∀ b∈S,∀ q,b∉(G q).F)->TRep P (rdel σ.rs qq) (upG G qq noRG) w t' v S A/\(∀ b∈S,∀ q,b∉(upG G qq noRG q).F)/\∀ b∈S,b∉F):=by
           intro i t' ht';rcases a2q ht' with rfl|⟨ht1,hu1⟩
           . exact .inl rfl
           . refine .inr ⟨ht1,fun v S A h1 h2=>⟨a1k qq (fun p hp=>by rw[a0D,if_neg hp]) (fun p hp _=>a0z _ _ hp) t' v S A hu1 h1,fun b hb p hp=>?_,fun b hb hf=>h2 b hb qq (hFs b hf)⟩⟩;by_cases hpq:p=qq
             . subst hpq;rw[a0y]at hp;cases hp
             . rw[a0z _ _ hpq]at hp;exact h2 b hb p hp
         have k2:∀ b∈F,(∀ p,b∉(upG G qq noRG p).F)/\(∀ p y,rget (rdel σ.rs qq) p=some y->b∉(upG G qq noRG p).S)/\(E.w0.heap.size≤b∨b∈E.M):=by
           intro b hb0;have hb:=hFs b hb0;refine⟨fun p hp=>?_,fun p y hy hp=>?_,h.r.own qq b hb⟩
           . by_cases hpq:p=qq
             . subst hpq;rw[a0y]at hp;cases hp
             . rw[a0z _ _ hpq]at hp;exact hpq (h.r.disj p qq b hp hb)
           . rw[a0D]at hy;by_cases hpq:p=qq
             . simp[hpq]at hy
             . rw[if_neg hpq]at hy;rw[a0z _ _ hpq]at hp;exact(h.r.shr p y hy b hp).1 qq hb
         have k3:Fine E (upG G qq noRG) (G qq).S:=by
           intro b hb;refine⟨fun p hp=>?_,(h.r.shr qq _ hq b hb).2⟩;by_cases hpq:p=qq
           . subst hpq;rw[a0y]at hp;cases hp
           . rw[a0z _ _ hpq]at hp;exact(h.r.shr qq _ hq b hb).1 p hp
         obtain⟨b,off,arr,e,arr',G',rfl,hheap,hsz,harr,hrel⟩:=a4J h (kill qq σ.ts) (rdel σ.rs qq) (upG G qq noRG) F (a8e h.r qq) (a1v _ _) k1 q y (by rw[a0D,if_neg hqr];exact hy) hp (by rw[a0z _ _ hqr];exact hl) hr hFn k2 (fun b hb hs=>(h.r.shr qq _ hq b hs).1 qq (hFs b hb)) k3 hle hset;have hst:=a3I (P:=P) ht hi hheap hsz (hnl.trans hcl) (a0e hr hsv) (fun u hu=>(a2i hr u hu).1) harr;rw[hv]at run;refine a6M (G':=G') (run _ hst) ?_ hk;rw[hdst];exact hrel
       . cases hk
     . cases hk
   . rename_i root hroot _;exact b4t ho hdst ht hi h hev hroot hk
   . cases hk
 . cases hk
end Go.Vm
end
section
namespace Go.Vm
def b2g (w:World) (t:Ty) (m:Mode) (d:t.den) (v:Value) (M S:List Nat):Prop :=
 ∃ us b F arr e,v = .pointer (some ⟨b,0,none⟩)/\Rep w t m d us F S/\w.heap[b]? = some (.cells arr e (0,0))/\arr.toList=us/\M=b::F
def b1k (P:Program) (w:World):(p:PS)->p.den->Value->List Nat->List Nat->List Nat->Prop
 | .val agg t,d,v,M,S,A=>M=[]/\A=S/\∃ vs,Rep w t .sh d vs [] S/\a0E agg vs v
 | .rptr t,d,v,M,S,A=>M=[]/\∃ ad vs,v = .pointer (some ad)/\(∀ (i:Nat) (u:Value),vs[i]? = some u->w.cell? (ad.add i)=some u)/\ad.block<w.heap.size/\Rep w t .sh d vs [] A/\S=ad.block::A
 | .wr agg t m,d,v,M,S,A=>m.own=true/\A=S/\∃ vs,Rep w t m d vs M S/\a0E agg vs v
 | .tk agg t m,d,v,M,S,A=>A=S/\∃ vs,Rep w t m d vs M S/\a0E agg vs v
 | .fnx s,d,v,M,S,A=>M=[]/\b0K P s d w v S A
 | .wp t m,d,v,M,S,A=>A=S/\b2g w t m d v M S
 | .pfn s,d,v,M,S,A=>M=[]/\∃ ad u S0,v = .pointer (some ad)/\w.cell? ad=some u/\ad.block<w.heap.size/\b0K P s d w u S0 A/\S=ad.block::S0
def a1W (P:Program) (w:World):(ps:List PS)->Ins ps->List Value->List Nat->List Nat->List Nat->Prop
 | [],_,vs,M,S,A=>vs=[]/\M=[]/\S=[]/\A=[]
 | p::ps,d,vs,M,S,A=>∃ v vs' M1 M2 S1 S2 A1 A2,vs=v::vs'/\M=M1++M2/\S=S1++S2/\A=A1++A2/\b1k P w p d.1 v M1 S1 A1/\a1W P w ps d.2 vs' M2 S2 A2
def a1R (w:World):(ps:List PS)->Muts ps->List Value->List Nat->List Nat->Prop
 | [],_,_,M,T=>M=[]/\T=[]
 | .wr agg t m::ps,d,vs,M,T=>∃ v vs' M1 M2 T1 T2,vs=v::vs'/\M=M1++M2/\T=T1++T2/\(∃ us,Rep w t m d.1 us M1 T1/\a0E agg us v)/\a1R w ps d.2 vs' M2 T2
 | .wp t m::ps,d,vs,M,T=>∃ v vs' M1 M2 T1 T2,vs=v::vs'/\M=M1++M2/\T=T1++T2/\b2g w t m d.1 v M1 T1/\a1R w ps d.2 vs' M2 T2
 | .val _ _::ps,d,vs,M,T=>∃ v vs',vs=v::vs'/\a1R w ps d vs' M T
 | .rptr _::ps,d,vs,M,T=>∃ v vs',vs=v::vs'/\a1R w ps d vs' M T
 | .tk _ _ _::ps,d,vs,M,T=>∃ v vs',vs=v::vs'/\a1R w ps d vs' M T
 | .fnx _::ps,d,vs,M,T=>∃ v vs',vs=v::vs'/\a1R w ps d vs' M T
 | .pfn _::ps,d,vs,M,T=>∃ v vs',vs=v::vs'/\a1R w ps d vs' M T
def PostC (w0:World) (s:Sig) (r:Outs s.outs×Muts s.ps) (vs:List Value) (M A:List Nat) (e:Ending) (w':World):Prop :=
 ∃ us F S M' T,e = .returned (retV us)/\a4N w' s.outs r.1 us F S/\a1R w' s.ps r.2 vs M' T/\(F++M').Nodup/\(∀ b∈F++M',w0.heap.size≤b∨b∈M) ∧
   (∀ b∈S++T,b∉F++M'/\(b<w0.heap.size->b∈A∨b∈M))/\(∀ b,b<w0.heap.size->b∉M->w'.heap[b]? = w0.heap[b]?)/\Bel w0 w'
def a6j (P : Program) (f : FuncId) : Prop := ∃ fn, P.funcs[f]? = some fn /\ fn.body.isNone = false /\ (fn.name == "runtime.NumGoroutine") = false
def a3P (P:Program) (c:Callee):Prop :=
 a6j P c.f/\∀ d r,c.F d=some r->∀ w vs M S A,a1W P w c.s.ps d vs M S A->M.Nodup->(∀ b∈M,b∉S)->Calls P c.f vs.toArray w (PostC w c.s r vs M A)
def a2t (P:Program) (c:Clo):Prop :=
 a6j P c.f/\∀ y,∀ w (caps:List Value) S A,a1W P w c.caps y caps [] S A->∀ w',a0a w w' S->w.heap.size≤w'.heap.size->∀ d r vs Sa,c.G y d=some r->a5H w' c.s.ins d vs Sa →
   Calls P c.f (vs.toArray++caps.toArray) w' (b3t w' c.s.outs r (Sa++A))
def EqOK (P:Program) (tab:Tab) (T:TypeId):Prop:=∀ i,tab T=some i->i.agg=true->noSl i.t=true->P.eqGuardType P.depth T=false/\∀ (w:World) (x y:i.t.den) (vs us:List Value),Rep w i.t .sh x vs [] []->Rep w i.t .sh y us [] [] →
 (Op.equalIn 10000 T (.agg vs.toArray) (.agg us.toArray)).run P w = .ok (eqT i.t x y) w
def b2f (P : Program) (p : FuncId × Ty) : Prop := (∃ fn, P.funcs[p.1]? = some fn /\ fn.body.isNone = false /\ (fn.name == "runtime.NumGoroutine") = false) ∧
 ∀ (w:World) (n:Nat),n≤bigN->Calls P p.1 #[.slice none 0 0,.int .i64 n] w (b3t w [(.val false,.sl p.2,.deep)] (([]:List p.2.den),()) [])
structure CtxOK (P:Program) (c:Ctx):Prop where
 eqs:∀ T∈c.eqs,EqOK P c.tab T
 mixed:P.follows .mixedOrders=true
 tab:TabOK P c.tab
 callees:∀ e∈c.callees,a3P P e
 clos:∀ e∈c.clos,a2t P e
 grows:∀ p∈c.grows,b2f P p
variable {P:Program}
theorem a0Q {l:List Nat} {r:Nat} (h:hasN l r=true):r∈l:=by
 induction l with
 | nil=>cases h
 | cons x l ih =>
   simp only[hasN,Bool.or_eq_true]at h;simp only[zc];exact h.imp (fun h=>(zJ h).symm) ih
theorem a3r {l:List Nat} {r:Nat} (h:hasN l r=false):r∉l:=by
 induction l with
 | nil=>simp
 | cons x l ih =>
   simp only[hasN,zL]at h;simp only[zc,not_or];exact⟨fun e=>zw h.1 e.symm,ih h.2⟩
theorem a0J {w:World} {t:Ty} {cs:List Cell} {x:t.den} {vs:List Value} {F S:List Nat} {m:Mode} (h:a0u m t cs=some x) (hr:a0K w cs vs F S):Rep w t m x vs F S:=by
 rw[a4n h]at hr;exact(a0n _ _ _ _ _ _ _).2 hr
theorem a7r {w:World} {cs:List Cell} {vs:List Value} {F S F' S':List Nat} (h:a0K w cs vs F S) (hF:F=F') (hS:S=S'):a0K w cs vs F' S':=by subst hF hS;exact h
def b5A (G:Nat->RG) (rd:List Nat) (S:List Nat):Prop:=∀ b∈S,∀ q,b∈(G q).F->q∈rd
def b5k (E:Env) (rs:List (Nat×Root)) (G:Nat->RG) (lent:List Nat) (A:List Nat):Prop :=
 ∀ b∈A,(b<E.w0.heap.size->b∈E.A)/\∀ q,b∈(G q).F->q∈lent/\rget rs q≠none/\(G q).blk≠some b
structure ArgOK (E:Env) (rs:List (Nat×Root)) (G:Nat->RG) (w:World) (rd lent:List Nat) (S A:List Nat):Prop where
 read:b5A G rd S
 lent:b5k E rs G lent A
 lt:∀ b∈S,b<w.heap.size
theorem ArgOK.fine {E:Env} {rs:List (Nat×Root)} {G:Nat->RG} {w:World} {S A:List Nat} (h:Fine2 E G S A) (hA:∀ b∈A,b∈S) (hlt:∀ b∈S,b<w.heap.size) (rd l:List Nat):ArgOK E rs G w rd l S A :=
 ⟨fun b hb q hq=>absurd hq (h.free b hb q),fun b hb=>⟨h.inA b hb,fun q hq=>absurd hq (h.free b (hA b hb) q)⟩,hlt⟩
theorem ArgOK.app {E:Env} {rs:List (Nat×Root)} {G:Nat->RG} {w:World} {rd rd' l l' S S' A A':List Nat} (h:ArgOK E rs G w rd l S A) (h':ArgOK E rs G w rd' l' S' A'):ArgOK E rs G w (rd++rd') (l++l') (S++S') (A++A'):=by
 refine⟨fun b hb q hq=>?_,fun b hb=>?_,fun b hb=>?_⟩<;>simp only[zb]at hb ⊢
 . exact hb.elim (fun hb => .inl (h.read b hb q hq)) (fun hb => .inr (h'.read b hb q hq))
 . rcases hb with hb|hb
   . exact⟨(h.lent b hb).1,fun q hq=>⟨.inl ((h.lent b hb).2 q hq).1,((h.lent b hb).2 q hq).2⟩⟩
   . exact⟨(h'.lent b hb).1,fun q hq=>⟨.inr ((h'.lent b hb).2 q hq).1,((h'.lent b hb).2 q hq).2⟩⟩
 . exact hb.elim (h.lt b) (h'.lt b)
theorem ArgOK.nil {E:Env} {rs:List (Nat×Root)} {G:Nat->RG} {w:World} (rd l:List Nat):ArgOK E rs G w rd l [] []:=⟨by simp[b5A],by simp[b5k],by simp⟩
theorem a2u {w:World}:∀ (ps:List PS) (d:Ins ps) (vs:List Value) (M S A:List Nat),a1W P w ps d vs M S A->∀ b∈A,b∈S
 | [],_,_,_,_,_,h=>by obtain⟨_,_,_,rfl⟩:=h;simp
 | p::ps,d,vs,M,S,A,h=>by
   obtain⟨v,vs',M1,M2,S1,S2,A1,A2,rfl,rfl,rfl,rfl,h1,h2⟩:=h;intro b hb;simp only[zb]at hb ⊢;refine hb.imp (fun hb=>?_) (a2u ps d.2 vs' M2 S2 A2 h2 b);cases p with
   | val agg t=>obtain⟨_,rfl,_⟩:=h1;exact hb
   | rptr t=>obtain⟨_,ad,us,_,_,_,_,rfl⟩:=h1;simp[hb]
   | wr agg t m=>obtain⟨_,rfl,_⟩:=h1;exact hb
   | tk agg t m=>obtain⟨rfl,_⟩:=h1;exact hb
   | wp t m=>obtain⟨rfl,_⟩:=h1;exact hb
   | fnx s=>obtain⟨_,f,caps,_,_,_,hA,_⟩:=h1;exact hA b hb
   | pfn s=>obtain⟨_,ad,u,S0,_,_,_,⟨f,caps,_,_,_,hA,_⟩,rfl⟩:=h1;exact zk _ (hA b hb)
mutual
theorem a2a {rs:List (Nat×Root)} {G:Nat->RG} {w:World}:∀ (t:TV) (v:Value) (S A:List Nat),TRep P rs G w t v S A->∀ b∈A,b∈S
 | .dead,_,_,_,h=>by obtain⟨_,rfl⟩:=h;simp
 | .val agg cs,v,S,A,h=>by obtain⟨rfl,_⟩:=h;exact fun b hb=>hb
 | .rptr s cs,v,S,A,h=>by
   obtain⟨ad,vs,A0,rfl,hc,hlt,h1,rfl,rfl⟩:=h;exact b4X
 | .ref r p,v,S,A,h=>by obtain⟨_,rfl,_⟩:=h;simp
 | .view r p n agg,v,S,A,h=>by obtain⟨_,rfl,_⟩:=h;simp
 | .fn f caps,v,S,A,h=>by
   obtain⟨vs,rfl,h⟩:=h;exact a7j caps vs S A h
 | .fnx s g,v,S,A,h=>by
   obtain⟨f,caps,rfl,_,hlt,hA,_⟩:=h;exact hA
 | .tup k ts,v,S,A,h=>by
   obtain⟨vs,hv,h⟩:=h;exact a7j ts vs S A h
 | .pfn t,v,S,A,h=>by
   obtain⟨ad,u,S0,rfl,hc,hlt,h,rfl⟩:=h;exact fun b hb=>zk _ (a2a t u S0 A h b hb)
theorem a7j {rs:List (Nat×Root)} {G:Nat->RG} {w:World}:∀ (ts:List TV) (vs:List Value) (S A:List Nat),a1A P rs G w ts vs S A->∀ b∈A,b∈S
 | [],_,_,_,h=>by obtain⟨_,_,rfl⟩:=h;simp
 | t::ts,vs,S,A,h=>by
   obtain⟨v,vs',S1,S2,A1,A2,rfl,rfl,rfl,h1,h2⟩:=h;intro b hb;simp only[zb]at hb ⊢;exact hb.imp (a2a t v S1 A1 h1 b) (a7j ts vs' S2 A2 h2 b)
end
theorem a1H {w:World} {x:Root} {g:RG} (hr:a0S w x g) (hn:g.F.Nodup) {p:Path} (hp:a1S x.cs p) {ad:Option Addr} {us:List Value} (hl:Loc w g.vs g.base p ad us) :
   ∃ F S,a0K w (a0W x.cs p) us F S/\(∀ b∈F,b∈g.F/\g.blk≠some b)/\(∀ b∈S,b∈g.S)/\(∀ a0,ad=some a0->∀ (q:Nat) (u:Value),us[q]? = some u->w.cell? (a0.add q)=some u)/\F.Nodup:=by
 obtain⟨F0,S0,hrep0,_,_,hcell⟩:=a3t hr hp hl;obtain⟨F,hcs,hm⟩:=hr;obtain⟨F1,Fm,F2,S1,Sm,S2,us',ad',hF,hS,hrep,hl',-⟩:=lens g.base hcs p hp;obtain⟨rfl,rfl⟩:=a0r hl hl';refine⟨Fm,Sm,hrep,fun b hb=>?_,fun b hb=>by rw[hS];simp[hb],hcell,?_⟩
 rotate_left
 . have hnF:F.Nodup:=by
     rcases hm with⟨_,_,he⟩|⟨_,_,_,_,_,_,_,he⟩<;>rw[he]at hn
     . exact hn
     . exact(zi.1 hn).2
   rw[hF]at hnF;exact(zg.1 (zg.1 hnF).2.1).1
 have hbF:b∈F:=by rw[hF];simp[hb]
 rcases hm with⟨_,hb2,he⟩|⟨_,b',arr,e,hb2,_,_,he⟩
 . exact⟨by rw[he];exact hbF,by rw[hb2];simp⟩
 . refine⟨by rw[he];simp[hbF],?_⟩;rw[hb2];rintro hbb;obtain rfl:=zd hbb;rw[he]at hn;exact(zi.1 hn).1 hbF
theorem b2w {r:Nat} {cs:List Cell} (h:isSh cs=false):a7U r cs=[r]:=by unfold a7U;rw[h]
theorem a5q {E:Env} {rs:List (Nat×Root)} {w:World} {G:Nat->RG} (h:RelR E rs w G) {q:Nat} {y:Root} (hy:rget rs q=some y) {cs:List Cell} {vs:List Value} {F S T:List Nat} (hrep:a0K w cs vs F S) (hF:∀ b∈F,b∈(G q).F/\(G q).blk≠some b) (hS:∀ b∈S,b∈(G q).S)
   (hT:∀ b∈T,b∈F∨b∈S):ArgOK E rs G w [q] (a7U q cs) T T:=by
 refine⟨fun b hb p hp=>?_,fun b hb=>⟨fun hlt=>?_,fun p hp=>?_⟩,fun b hb=>a0N (h.roots q y hy) b ((hT b hb).imp (fun k=>(hF b k).1) (hS b))⟩
 . rcases hT b hb with h1|h1
   . rw[h.disj p q b hp (hF b h1).1];simp
   . exact absurd hp ((h.shr q y hy b (hS b h1)).1 p)
 . rcases hT b hb with h1|h1
   . rcases h.own q b (hF b h1).1 with h2|h2
     . omega
     . exact E.ma b h2
   . exact(h.shr q y hy b (hS b h1)).2 hlt
 . rcases hT b hb with h1|h1
   . have hpq:=h.disj p q b hp (hF b h1).1;subst hpq;refine⟨?_,by rw[hy];simp,(hF b h1).2⟩;cases hsh:isSh cs with
     | true =>
       have:=a5w (a6Q hsh) hrep;subst this;cases h1
     | false=>rw[b2w hsh];simp
   . exact absurd hp ((h.shr q y hy b (hS b h1)).1 p)
theorem a9l {α:Type} {R:α->List Value->List Nat->List Nat->Prop} {xs:List α} {vs:List Value} {F S:List Nat} (n:Nat) (h:RepL R xs vs F S):∃ v1 v2 F1 F2 S1 S2,vs=v1++v2/\F=F1++F2/\S=S1++S2/\RepL R (xs.take n) v1 F1 S1/\RepL R (xs.drop n) v2 F2 S2:=by
 rw[<-zo n xs]at h;exact(a0R _ _ _ _ _).1 h
theorem b3W {w:World} {t:Ty} {xs:List t.den} {v:Value} {S:List Nat} (h:Rep w (.sl t) .sh xs [v] [] S) {l hh:Nat} (h1:l≤hh) (h2:hh≤xs.length):∃ A c S',v = .slice A xs.length c/\xs.length≤c/\Rep w (.sl t) .sh ((xs.take hh).drop l) [.slice (if c=l then A else A.map (·.add (l*t.sz))) (hh-l) (c-l)] [] S'/\∀ b∈S',b∈S:=by
 obtain⟨A,c,hv,hc,h⟩:=h;have hlen:((xs.take hh).drop l).length=hh-l:=by simp;omega
 refine⟨A,c,?_⟩;simp only[zh,and_true]at hv;by_cases hlt:l=hh
 . refine⟨[],hv,hc,⟨_,c-l,by rw[hlen],by rw[hlen];omega,.inl ⟨zQ (by rw[hlen];omega),rfl,rfl,by simp[Mode.own]⟩⟩,by simp⟩
 rcases h with⟨rfl,-⟩|⟨ho,-⟩|⟨-,hne,ad,us,S0,rfl,hcell,hr,-,rfl⟩
 . simp at h2;omega
 . cases ho
 . obtain⟨v1,v2,F1,F2,S1,S2,rfl,hF,rfl,k1,k2⟩:=a9l hh hr;obtain⟨rfl,rfl⟩:=zT.1 hF.symm;obtain⟨u1,u2,F3,F4,S3,S4,rfl,hF2,rfl,k3,k4⟩:=a9l l k1;obtain⟨rfl,rfl⟩:=zT.1 hF2.symm;have hu1:u1.length=l*t.sz:=by
     rw[a0Y k3];congr 1;simp;omega
   refine⟨(ad.add (l*t.sz)).block::S4,hv,hc,⟨_,c-l,by rw[hlen],by rw[hlen];omega,.inr (.inr ⟨rfl,fun e=>by rw[e]at hlen;simp at hlen;omega,ad.add (l*t.sz),u2,S4,?_,fun i u hu=>?_,k4,rfl,rfl⟩)⟩,fun b hb=>?_⟩
   . rw[if_neg (by omega)];rfl
   . rw[a2c,<-hu1];refine hcell _ u ?_;rw[zG,zz (by omega),show u1.length+i-u1.length=i by omega];have hi:i<u2.length:=(List.getElem?_eq_some_iff.1 hu).1;rw[zM hi];exact hu
   . simp only[a0P,zc,zb]at hb ⊢;rcases hb with rfl|hb
     . exact .inl rfl
     . exact .inr (.inl (.inr hb))
theorem a9j {rs:List (Nat×Root)} {G:Nat->RG} {w:World} {t:TV} {k:IntKind} {x:Int} {k':IntKind} {z:Int} {S A:List Nat} (h:asInt t=some (k,x)) (ht:TRep P rs G w t (.int k' z) S A):z=x:=by
 unfold asInt at h;split at h
 . rename_i k0 x0;simp only[za,ze]at h;obtain⟨rfl,rfl⟩:=h;obtain⟨-,vs,⟨v1,v2,F1,F2,S1,S2,rfl,-,-,⟨-,hv,-,-⟩,rfl,-,-⟩,hs⟩:=ht;subst hv;simp only[a0E,zs,if_false,zu,zh,Value.int.injEq,and_true]at hs;exact hs.2.symm
 . cases h
theorem b0V {w:World}:∀ {t:Ty} {z:Nat} {l h:Int} {xs ys:t.den} {A:Option Addr} {n cp:Nat} {S:List Nat} {l' h':Nat},cutAs t z l h xs=some ys->Rep w t .sh xs [.slice A n cp] [] S->(l':Int)=l->(h':Int)=h->l'≤h'->h'≤n →
   ∃ S',Rep w t .sh ys [.slice (if cp=l' then A else A.map (·.add (l'*z))) (h'-l') (cp-l')] [] S'/\∀ b∈S',b∈S
 | .sl t,z,l,h,xs,ys,A,n,cp,S,l',h',e,hr,hl,hh,h1,h2=>by
   simp only[cutAs]at e;split at e
   . rename_i hz _;subst hz;simp only[za]at e;subst e hl hh;have hn:n=(xs:List t.den).length:=by
       obtain⟨A',c',hv,-⟩:=hr;simp only[zh,Value.slice.injEq,and_true]at hv;exact hv.2.1
     obtain⟨A',c',S',hv,-,hr2,hS⟩:=b3W hr h1 (by omega);simp only[Value.slice.injEq]at hv;obtain⟨rfl,-,rfl⟩:=hv;exact⟨S',by simpa[cutL]using hr2,hS⟩
   . cases e
 | .int _,_,_,_,_,_,_,_,_,_,_,_,e,_,_,_,_,_=>by cases e
 | .bool,_,_,_,_,_,_,_,_,_,_,_,e,_,_,_,_,_=>by cases e
 | .pair _ _,_,_,_,_,_,_,_,_,_,_,_,e,_,_,_,_,_=>by cases e
 | .any,_,_,_,_,_,_,_,_,_,_,_,e,_,_,_,_,_=>by cases e
theorem a1g {E:Env} {σ:St} {a:Act} {w:World} {G:Nat->RG} (h:Rel P E σ a w G) {t:TV} {v:Value} {S A:List Nat} (ht:TRep P σ.rs G w t v S A) (hf:Fine2 E G S A) {agg:Bool} {ty:Ty} {x:ty.den} {l:List Nat×List Nat} (hr:a2L σ agg ty t=some (x,l)) :
   ∃ S',(∃ vs,Rep w ty .sh x vs [] S'/\a0E agg vs v)/\ArgOK E σ.rs G w l.1 l.2 S' S':=by
 unfold a2L at hr;split at hr
 . split at hr
   . rename_i he _;subst he;split at hr
     . rename_i y hy;simp only[za,ze]at hr;obtain⟨rfl,rfl⟩:=hr;have hlt:=a0o _ _ _ _ ht;obtain⟨rfl,vs,h1,h2⟩:=ht;exact⟨_,⟨vs,a0J hy h1,h2⟩,ArgOK.fine hf (fun b hb=>hb) hlt _ _⟩
     . cases hr
   . cases hr
 . rename_i q p n ag;split at hr
   . rename_i he y _ hy;subst he;split at hr
     . rename_i z hz;simp only[za,ze]at hr;obtain⟨rfl,rfl⟩:=hr;obtain⟨rfl,rfl,y',ad,us,hy',hp,hl,hn,hs⟩:=ht;rw[hy]at hy';obtain rfl:=zd hy';obtain⟨F,S',hrep,hF,hS,-⟩:=a1H (h.r.roots q y hy) (h.r.nodup q) hp hl;obtain⟨F1,F2,S1,S2,rfl,rfl,hr1,-⟩:=a0F n hrep;obtain⟨T,hT,hTs⟩:=a2k hr1;exact⟨T,⟨us.take n,a0J hz hT,hs⟩,a5q h.r hy hr1 (fun b hb=>hF b (by simp[hb])) (fun b hb=>hS b (by simp[hb])) hTs⟩
     . cases hr
   . cases hr
 . rename_i z q p n ag tl th;split at hr
   . rename_i k1 l1 k2 h1 y hl1 hh1 hy;split at hr
     . rename_i xs hxs;split at hr
       . rename_i ys hys;simp only[za,ze]at hr;obtain⟨rfl,rfl⟩:=hr;obtain⟨vs,⟨A0,n0,cp,k3,k4,l,hh,rfl,hlh,hhn,rfl⟩,v1,vs1,S1,S2,A1,A2,e1,rfl,rfl,⟨rfl,rfl,y',ad,us,hy',hp,hl,hn,hs⟩,v2,vs2,S3,S4,A3,A4,e2,rfl,rfl,t2,v3,vs3,S5,S6,A5,A6,e3,rfl,rfl,t3,e4,-,-⟩:=ht;simp only[zh]at e1;obtain⟨rfl,rfl⟩:=e1;simp only[zh]at e2;obtain⟨rfl,rfl⟩:=e2;simp only[zh]at e3;obtain⟨rfl,rfl⟩:=e3;have il:=a9j hl1 t2;have ih:=a9j hh1 t3;rw[hy]at hy';obtain rfl:=zd hy';obtain⟨F,S',hrep,hF,hS,-⟩:=a1H (h.r.roots q y hy) (h.r.nodup q) hp hl;obtain⟨F1,F2,T1,T2,rfl,rfl,hr1,-⟩:=a0F n hrep;obtain⟨T,hT,hTs⟩:=a2k hr1;have hrx:=a0J hxs hT;have hag:ag=false:=by
           cases ag with
           | false=>rfl
           | true=>simp[a0E]at hs
         subst hag;have hus:us.take n=[.slice A0 n0 cp]:=by simpa[a0E]using hs
         rw[hus]at hrx;obtain⟨T',hr',hT'⟩:=b0V hys hrx il ih hlh hhn;exact⟨T',⟨_,hr',rfl⟩,a5q h.r hy hr1 (fun b hb=>hF b (by simp[hb])) (fun b hb=>hS b (by simp[hb])) fun b hb=>hTs b (hT' b hb)⟩
       . cases hr
     . cases hr
   . cases hr
 . cases hr
theorem a3E {E:Env} {σ:St} {a:Act} {w:World} {G:Nat->RG} (h:Rel P E σ a w G) {t:TV} {v:Value} {S A:List Nat} (ht:TRep P σ.rs G w t v S A) (hf:Fine2 E G S A) {ty:Ty} {x:ty.den} {l:List Nat×List Nat} (hr:a3a σ ty t=some (x,l)) :
   ∃ S' A',b1k P w (.rptr ty) x v [] S' A'/\ArgOK E σ.rs G w l.1 l.2 S' A':=by
 unfold a3a at hr;split at hr
 . split at hr
   . rename_i cs _ y hy;simp only[za,ze]at hr;obtain⟨rfl,rfl⟩:=hr;have hlt:=a0o _ _ _ _ ht;obtain⟨ad,vs,A0,rfl,hc,hb,h1,rfl,rfl⟩:=ht;obtain⟨T,hT,hTs⟩:=a2B ty.sz h1;have hsub:∀ b∈ad.block::T,b∈ad.block::A0:=fun b hb=>by
       simp only[zc]at hb ⊢;exact hb.imp id (hTs b)
     refine⟨ad.block::T,T,⟨rfl,ad,vs.take ty.sz,rfl,fun i u hu=>hc i u ?_,hb,a0J hy hT,rfl⟩,ArgOK.fine (hf.sub hsub fun b hb=>a8n b (hTs b hb)) (fun b hb=>by simp[hb]) (fun b hb=>hlt b (hsub b hb)) _ _⟩;rw[zq]at hu;split at hu
     . exact hu
     . cases hu
   . cases hr
 . rename_i q p;split at hr
   . rename_i y hy;split at hr
     . rename_i z hz;simp only[za,ze]at hr;obtain⟨rfl,rfl⟩:=hr;obtain⟨rfl,rfl,y',ad,us,hy',hp,hl,rfl⟩:=ht;rw[hy]at hy';obtain rfl:=zd hy';obtain⟨F,S',hrep,hF,hS,hcell,-⟩:=a1H (h.r.roots q y hy) (h.r.nodup q) hp hl;obtain⟨F1,F2,S1,S2,rfl,rfl,hr1,-⟩:=a0F ty.sz hrep;obtain⟨T,hT,hTs⟩:=a2k hr1;have hrepx:=a0J hz hT;have hcell0:∀ (i:Nat) (u:Value),(us.take ty.sz)[i]? = some u->w.cell? (ad.add i)=some u:=by
         intro i u hu;refine hcell ad rfl i u ?_;rw[zq]at hu;split at hu
         . exact hu
         . cases hu
       have hblk:ad.block∈(G q).F:=by
         cases p with
         | root j =>
           obtain⟨h1,-⟩:=hl;obtain⟨FF,-,hm⟩:=h.r.roots q y hy;rcases hm with⟨_,hb,_⟩|⟨_,b,_,_,hb,_,_,he⟩
           . simp[RG.base,hb]at h1
           . simp only[RG.base,hb,zv,za]at h1;rw[h1,a0P,he];simp
         | hop p i sz j =>
           obtain⟨FF,hcs,hm⟩:=h.r.roots q y hy;obtain⟨b,arr,e',pre,us2,post,G1,G2,Fm,F3,S1',Sm,S3,-,-,-,hFF,-,-,hl2,-⟩:=b3A (G q).base hcs p i sz j hp;obtain⟨he,-⟩:=a0r hl hl2;have he:=zd he;rw[he,a0P];rcases hm with⟨_,_,he2⟩|⟨_,_,_,_,_,_,_,he2⟩<;>rw[he2,hFF]<;>simp
       have hok:=a5q h.r hy hr1 (fun b hb=>hF b (by simp[hb])) (fun b hb=>hS b (by simp[hb])) hTs;refine⟨ad.block::T,T,⟨rfl,ad,us.take ty.sz,rfl,hcell0,a0N (h.r.roots q y hy) _ (.inl hblk),hrepx,rfl⟩,⟨fun b hb p' hp'=>?_,hok.lent,fun b hb=>?_⟩⟩<;>simp only[zc]at hb
       . rcases hb with rfl|hb
         . rw[h.r.disj p' q _ hp' hblk];simp
         . exact hok.read b hb p' hp'
       . rcases hb with rfl|hb
         . exact a0N (h.r.roots q y hy) _ (.inl hblk)
         . exact hok.lt b hb
     . cases hr
   . cases hr
 . cases hr
structure WrOK (w:World) (rs:List (Nat×Root)) (G:Nat->RG) (agg:Bool) (ty:Ty) (m:Mode) (x:ty.den) (v:Value) (q:Nat) (p:Path) (M T:List Nat) where
 y:Root
 vs:List Value
 hy:rget rs q=some y
 rep:Rep w ty m x vs M T
 shape:a0E agg vs v
 F1:List Nat
 F2:List Nat
 S1:List Nat
 S2:List Nat
 hF:(G q).F=F1++(M++F2)
 hS:(G q).S=S1++(T++S2)
 hp:a1S y.cs p
 len:ty.sz≤(a0W y.cs p).length
 back:∀ w' M' T' x' cs',a0a w w' (F1++F2++S1++S2)->Rep w' ty m x' vs M' T'->a2m y.cs p (enc m ty x'++(a0W y.cs p).drop ty.sz)=some cs'->a0S w' ⟨y.mem,cs'⟩ ⟨(G q).vs,(G q).blk,F1++(M'++F2),S1++(T'++S2)⟩
theorem a9g {E:Env} {σ:St} {a:Act} {w:World} {G:Nat->RG} (h:Rel P E σ a w G) {t:TV} {v:Value} {S A:List Nat} (ht:TRep P σ.rs G w t v S A) {agg:Bool} {ty:Ty} {m:Mode} {x:ty.den} {q:Nat} {p:Path} (hr:a7n σ agg ty m t=some (x,q,p)) :
   m.own=true/\∃ M T,Nonempty (WrOK w σ.rs G agg ty m x v q p M T):=by
 unfold a7n at hr;split at hr
 case h_2=>cases hr
 rename_i r pp n ag;split at hr
 case h_2=>cases hr
 rename_i he hnn y _ _ hy;subst he hnn;split at hr
 case h_2=>cases hr
 rename_i z hz hmo;simp only[za,ze]at hr;obtain⟨rfl,rfl,rfl⟩:=hr;obtain⟨rfl,rfl,y',ad,us,hy',hp,hl,hn,hs⟩:=ht;rw[hy]at hy';obtain rfl:=zd hy';obtain⟨FF,hcs,hmem⟩:=h.r.roots r y hy;obtain⟨F1,Fm,F2,S1,Sm,S2,us',ad',rfl,hSe,hrep,hl',hu⟩:=lens (G r).base hcs pp hp;obtain⟨rfl,rfl⟩:=a0r hl hl';have hlen:=a0k hrep;obtain⟨M,Fr,T,Sr,rfl,rfl,hr1,hr2⟩:=a0F ty.sz hrep;have hc:=a0J hz hr1;refine⟨hmo,M,T,?_⟩;have back:∀ w' M' T' x' cs',a0a w w' (F1++(Fr++F2)++S1++(Sr++S2))->Rep w' ty m x' (us.take ty.sz) M' T'->a2m y.cs pp (enc m ty x'++(a0W y.cs pp).drop ty.sz)=some cs'->a0K w' cs' (G r).vs (F1++((M'++Fr)++F2)) (S1++((T'++Sr)++S2)):=by
   intro w' M' T' x' cs' hsame hx' hset;have hrest':=a0I hr2 (a0B hsame (by intro b hb;simp only[zb]at hb ⊢;grind));have happ:=a0M ((a0n _ _ _ _ _ _ _).1 hx') hrest';rw[zo]at happ;exact hu w' _ _ _ cs' (a0B hsame (by intro b hb;simp only[zb]at hb ⊢;grind)) happ hset
 rcases hmem with⟨hm1,hb1,he1⟩|⟨hm1,b,arr,e,hb1,hh1,ha1,he1⟩
 . refine⟨⟨y,us.take ty.sz,hy,hc,hs,F1,Fr++F2,S1,Sr++S2,by rw[he1];simp,by rw[hSe];simp,hp,by omega,fun w' M' T' x' cs' hsame hx' hset=>?_⟩⟩;have:=back w' M' T' x' cs' hsame hx' hset;refine⟨_,a7r this (F':=F1++(M'++(Fr++F2))) (S':=S1++(T'++(Sr++S2))) (by simp) (by simp),.inl ⟨hm1,hb1,rfl⟩⟩
 . refine⟨⟨y,us.take ty.sz,hy,hc,hs,b::F1,Fr++F2,S1,Sr++S2,by rw[he1];simp,by rw[hSe];simp,hp,by omega,fun w' M' T' x' cs' hsame hx' hset=>?_⟩⟩;have:=back w' M' T' x' cs' (a0B hsame (by intro c hc;simp only[zb,zc]at hc ⊢;grind)) hx' hset;refine⟨F1++(M'++(Fr++F2)),a7r this (F':=F1++(M'++(Fr++F2))) (S':=S1++(T'++(Sr++S2))) (by simp) (by simp),.inr ⟨hm1,b,arr,e,hb1,by rw[hsame b (by simp)];exact hh1,ha1,by simp⟩⟩
theorem a9d {E:Env} {σ:St} {a:Act} {w:World} {G:Nat->RG} (h:Rel P E σ a w G) {t:TV} {v:Value} {S A:List Nat} (ht:TRep P σ.rs G w t v S A) {agg:Bool} {ty:Ty} {m:Mode} {x:ty.den} {q:Nat} (hr:a7m σ agg ty m t=some (x,q)) :
   ∃ y,rget σ.rs q=some y/\b1k P w (.tk agg ty m) x v (G q).F (G q).S (G q).S:=by
 unfold a7m at hr;split at hr
 case h_2=>cases hr
 rename_i r n ag;split at hr
 case h_2=>cases hr
 rename_i he cs _ hy;subst he;split at hr
 case h_2=>cases hr
 rename_i hn z _ hz;simp only[za,ze]at hr;obtain⟨rfl,rfl⟩:=hr;obtain⟨rfl,rfl,y',ad,us,hy',hp,⟨hl1,hl2⟩,hnn,hs⟩:=ht;rw[hy]at hy';obtain rfl:=zd hy';obtain⟨FF,hcs,hmem⟩:=h.r.roots r _ hy;have hF:(G r).F=FF:=by
   rcases hmem with⟨_,_,he⟩|⟨h1,_⟩
   . exact he
   . cases h1
 have hlen:=a0k hcs;simp only[z2]at hl2;subst hl2;rw[zC (by simp only[]at hlen;omega)]at hs;exact⟨_,hy,rfl,_,by rw[hF];exact a0J hz hcs,hs⟩
theorem a5c {E:Env} {σ:St} {a:Act} {w:World} {G:Nat->RG} (h:Rel P E σ a w G) {t:TV} {v:Value} {S A:List Nat} (ht:TRep P σ.rs G w t v S A) {ty:Ty} {m:Mode} {x:ty.den} {q:Nat} (hr:a6g σ ty m t=some (x,q)) :
   ∃ cs,rget σ.rs q=some ⟨true,cs⟩/\cs.length=ty.sz/\(∃ b,(G q).blk=some b/\v = .pointer (some ⟨b,0,none⟩))/\b1k P w (.wp ty m) x v (G q).F (G q).S (G q).S:=by
 unfold a6g at hr;split at hr
 case h_2=>cases hr
 rename_i r;split at hr
 case h_2=>cases hr
 rename_i cs hy;split at hr
 case h_2=>cases hr
 rename_i hn z _ hz;simp only[za,ze]at hr;obtain⟨rfl,rfl⟩:=hr;obtain⟨rfl,rfl,y',ad,us,hy',hp,⟨hl1,hl2⟩,rfl⟩:=ht;rw[hy]at hy';obtain rfl:=zd hy';obtain⟨FF,hcs,hmem⟩:=h.r.roots r _ hy;rcases hmem with⟨h1,_⟩|⟨_,b,arr,e,hb,hh,ha,hF⟩
 . cases h1
 have hbase:(G r).base=some ⟨b,0,none⟩:=by unfold RG.base;rw[hb];rfl
 rw[hbase]at hl1;simp only[zv,za]at hl1;have had:ad=⟨b,0,none⟩:=by rw[hl1];rfl
 subst had;exact⟨cs,hy,hn,⟨b,hb,rfl⟩,rfl,(G r).vs,b,FF,arr,e,rfl,a0J hz hcs,hh,ha,hF⟩
end Go.Vm
end
section
namespace Go.Vm
variable {P:Program}
theorem a6f {E:Env} {σ:St} {a:Act} {w:World} {G:Nat->RG} (h:Rel P E σ a w G):∀ (ps:List PS) (ts:List TV) (vs:List Value) (S A:List Nat),a1A P σ.rs G w ts vs S A->Fine2 E G S A->∀ (x:Ins ps) (l:List Nat×List Nat),a0U σ ps ts=some (x,l) →
   ∃ S' A',a1W P w ps x vs [] S' A'/\ArgOK E σ.rs G w l.1 l.2 S' A':=by
 intro ps;induction ps with
 | nil =>
   intro ts vs S A ht hf x l hr;cases ts with
   | nil =>
     simp only[a0U,za,ze]at hr;obtain⟨-,rfl⟩:=hr;obtain⟨rfl,rfl,rfl⟩:=ht;exact⟨[],[],⟨rfl,rfl,rfl,rfl⟩,ArgOK.nil _ _⟩
   | cons t ts=>simp[a0U]at hr
 | cons p ps ih =>
   intro ts vs S A ht hf x l hr;cases ts with
   | nil=>cases p<;>simp[a0U]at hr
   | cons t ts =>
     obtain⟨v,vs',S1,S2,A1,A2,rfl,rfl,rfl,h1,h2⟩:=ht;have hf1:Fine2 E G S1 A1:=hf.sub (by simp +contextual) (by simp +contextual);have hf2:Fine2 E G S2 A2:=hf.sub (by simp +contextual) (by simp +contextual);cases p with
     | val agg ty =>
       simp only[a0U]at hr;split at hr
       . rename_i y l1 z l2 hy hz;simp only[za,ze]at hr;obtain⟨rfl,rfl⟩:=hr;obtain⟨T1,g1,k1⟩:=a1g h h1 hf1 hy;obtain⟨T2,B2,g2,k2⟩:=ih ts vs' S2 A2 h2 hf2 z l2 hz;exact⟨T1++T2,T1++B2,⟨v,vs',[],[],T1,T2,T1,B2,rfl,rfl,rfl,rfl,⟨rfl,rfl,g1⟩,g2⟩,k1.app k2⟩
       . cases hr
     | rptr ty =>
       simp only[a0U]at hr;split at hr
       . rename_i y l1 z l2 hy hz;simp only[za,ze]at hr;obtain⟨rfl,rfl⟩:=hr;obtain⟨T1,B1,g1,k1⟩:=a3E h h1 hf1 hy;obtain⟨T2,B2,g2,k2⟩:=ih ts vs' S2 A2 h2 hf2 z l2 hz;exact⟨T1++T2,B1++B2,⟨v,vs',[],[],T1,T2,B1,B2,rfl,rfl,rfl,rfl,g1,g2⟩,k1.app k2⟩
       . cases hr
     | wr agg ty m=>simp[a0U]at hr
     | wp ty m=>simp[a0U]at hr
     | tk agg ty m=>simp[a0U]at hr
     | pfn s=>cases t<;>simp[a0U]at hr
     | fnx s =>
       cases t with
       | fnx s' g =>
         simp only[a0U]at hr;split at hr
         . rename_i he z l2 _ hz;subst he;simp only[za,ze]at hr;obtain⟨rfl,rfl⟩:=hr;obtain⟨T2,B2,g2,k2⟩:=ih ts vs' S2 A2 h2 hf2 z l2 hz;refine⟨S1++T2,A1++B2,⟨v,vs',[],[],S1,T2,A1,B2,rfl,rfl,rfl,rfl,⟨rfl,h1⟩,g2⟩,?_⟩;exact(ArgOK.fine hf1 (a2a _ _ _ _ h1) (a0o _ _ _ _ h1) [] []).app k2
         . cases hr
       | _=>simp[a0U]at hr
theorem a7L {E:Env} {σ:St} {a:Act} {w:World} {G:Nat->RG} (h:Rel P E σ a w G):∀ (ps:List (Bool×Ty)) (ts:List TV) (vs:List Value) (S A:List Nat),a1A P σ.rs G w ts vs S A->Fine2 E G S A->∀ (x:Vals ps) (l:List Nat×List Nat),a1U σ ps ts=some (x,l) →
   ∃ S',a5H w ps x vs S'/\ArgOK E σ.rs G w l.1 l.2 S' S':=by
 intro ps;induction ps with
 | nil =>
   intro ts vs S A ht hf x l hr;cases ts with
   | nil =>
     simp only[a1U,za,ze]at hr;obtain⟨-,rfl⟩:=hr;obtain⟨rfl,rfl,rfl⟩:=ht;exact⟨[],⟨rfl,rfl⟩,ArgOK.nil _ _⟩
   | cons t ts=>simp[a1U]at hr
 | cons p ps ih =>
   intro ts vs S A ht hf x l hr;cases ts with
   | nil=>simp[a1U]at hr
   | cons t ts =>
     obtain⟨v,vs',S1,S2,A1,A2,rfl,rfl,rfl,h1,h2⟩:=ht;have hf1:Fine2 E G S1 A1:=hf.sub (by simp +contextual) (by simp +contextual);have hf2:Fine2 E G S2 A2:=hf.sub (by simp +contextual) (by simp +contextual);simp only[a1U]at hr;split at hr
     . rename_i y l1 z l2 hy hz;simp only[za,ze]at hr;obtain⟨rfl,rfl⟩:=hr;obtain⟨T1,⟨us,g1,g1'⟩,k1⟩:=a1g h h1 hf1 hy;obtain⟨T2,g2,k2⟩:=ih ts vs' S2 A2 h2 hf2 z l2 hz;exact⟨T1++T2,⟨v,vs',us,T1,T2,rfl,rfl,g1,g1',g2⟩,k1.app k2⟩
     . cases hr
theorem a8c {E:Env} {σ:St} {a:Act} {w:World} {G:Nat->RG} (h:Rel P E σ a w G) (s:FSig):∀ (cl:List Clo),(∀ e∈cl,a2t P e)->∀ (t:TV) (v:Value) (S A:List Nat),TRep P σ.rs G w t v S A->Fine2 E G S A->∀ (g:Vals s.ins->Option (Outs s.outs)) (l:List Nat×List Nat),a2K σ s cl t=some (g,l) →
   ∃ S' A',b0K P s g w v S' A'/\ArgOK E σ.rs G w l.1 l.2 S' A':=by
 intro cl;induction cl with
 | nil =>
   intro _ t v S A ht hf g l hr;cases t with
   | fnx s' g' =>
     simp only[a2K]at hr;split at hr
     . rename_i he _;subst he;simp only[za,ze]at hr;obtain⟨rfl,rfl⟩:=hr;exact⟨S,A,ht,ArgOK.fine hf (a2a _ _ _ _ ht) (a0o _ _ _ _ ht) [] []⟩
     . cases hr
   | _=>simp[a2K]at hr
 | cons c cl ih =>
   intro hc t v S A ht hf g l hr;cases t with
   | fnx s' g' =>
     simp only[a2K]at hr;split at hr
     . rename_i he _;subst he;simp only[za,ze]at hr;obtain⟨rfl,rfl⟩:=hr;exact⟨S,A,ht,ArgOK.fine hf (a2a _ _ _ _ ht) (a0o _ _ _ _ ht) [] []⟩
     . cases hr
   | fn f caps =>
     simp only[a2K]at hr;split at hr
     . rename_i hef hes _ _;subst hef;subst hes;split at hr
       . rename_i y l' hy;simp only[za,ze]at hr;obtain⟨rfl,rfl⟩:=hr;obtain⟨vs,rfl,ht⟩:=ht;obtain⟨S',A',h1,h2⟩:=a6f h c.caps caps vs S A ht hf y _ hy;obtain⟨he,hsound⟩:=hc c (by simp);refine⟨S',A',⟨c.f,vs.toArray,rfl,he,h2.lt,?_,fun w' hs hz d r us Sa hg hv=>?_⟩,h2⟩
         . exact a2u _ _ _ _ _ _ h1
         . exact hsound y w vs S' A' h1 w' hs hz d r us Sa hg hv
       . cases hr
     . exact ih (fun e he=>hc e (by simp[he])) (.fn f caps) v S A ht hf g l hr
   | _=>simp[a2K]at hr
theorem a7H {E:Env} {σ:St} {a:Act} {w:World} {G:Nat->RG} (h:Rel P E σ a w G) (all:List Clo) (hall:∀ e∈all,a2t P e):∀ (ps:List PS) (ts:List TV) (vs:List Value) (S A:List Nat),a1A P σ.rs G w ts vs S A->Fine2 E G S A->∀ (x:Ins ps) (l:List Nat×List Nat),a0X σ all ps ts=some (x,l) →
   ∃ S' A',a1W P w ps x vs [] S' A'/\ArgOK E σ.rs G w l.1 l.2 S' A':=by
 intro ps;induction ps with
 | nil =>
   intro ts vs S A ht hf x l hr;cases ts with
   | nil =>
     simp only[a0X,za,ze]at hr;obtain⟨-,rfl⟩:=hr;obtain⟨rfl,rfl,rfl⟩:=ht;exact⟨[],[],⟨rfl,rfl,rfl,rfl⟩,ArgOK.nil _ _⟩
   | cons t ts=>simp[a0X]at hr
 | cons p ps ih =>
   intro ts vs S A ht hf x l hr;cases ts with
   | nil=>cases p<;>simp[a0X]at hr
   | cons t ts =>
     obtain⟨v,vs',S1,S2,A1,A2,rfl,rfl,rfl,h1,h2⟩:=ht;have hf1:Fine2 E G S1 A1:=hf.sub (by simp +contextual) (by simp +contextual);have hf2:Fine2 E G S2 A2:=hf.sub (by simp +contextual) (by simp +contextual);cases p with
     | val agg ty =>
       simp only[a0X]at hr;split at hr
       . rename_i y l1 z l2 hy hz;simp only[za,ze]at hr;obtain⟨rfl,rfl⟩:=hr;obtain⟨T1,g1,k1⟩:=a1g h h1 hf1 hy;obtain⟨T2,B2,g2,k2⟩:=ih ts vs' S2 A2 h2 hf2 z l2 hz;exact⟨T1++T2,T1++B2,⟨v,vs',[],[],T1,T2,T1,B2,rfl,rfl,rfl,rfl,⟨rfl,rfl,g1⟩,g2⟩,k1.app k2⟩
       . cases hr
     | rptr ty =>
       simp only[a0X]at hr;split at hr
       . rename_i y l1 z l2 hy hz;simp only[za,ze]at hr;obtain⟨rfl,rfl⟩:=hr;obtain⟨T1,B1,g1,k1⟩:=a3E h h1 hf1 hy;obtain⟨T2,B2,g2,k2⟩:=ih ts vs' S2 A2 h2 hf2 z l2 hz;exact⟨T1++T2,B1++B2,⟨v,vs',[],[],T1,T2,B1,B2,rfl,rfl,rfl,rfl,g1,g2⟩,k1.app k2⟩
       . cases hr
     | wr agg ty m=>simp[a0X]at hr
     | wp ty m=>simp[a0X]at hr
     | tk agg ty m=>simp[a0X]at hr
     | pfn s =>
       cases t with
       | pfn t =>
         simp only[a0X]at hr;split at hr
         . rename_i y l1 z l2 hy hz;simp only[za,ze]at hr;obtain⟨rfl,rfl⟩:=hr;have hlt:=a0o _ _ _ _ h1;obtain⟨ad,u,S0,rfl,hc,hb,h1,rfl⟩:=h1;obtain⟨T1,B1,g1,k1⟩:=a8c h s all hall t u S0 A1 h1 (hf1.sub (by simp +contextual) (by simp)) y l1 hy;obtain⟨T2,B2,g2,k2⟩:=ih ts vs' S2 A2 h2 hf2 z l2 hz;have kb:ArgOK E σ.rs G w [] [] [ad.block] []:=ArgOK.fine (hf1.sub (S':=[ad.block]) (A':=[]) (by simp) (by simp)) (by simp) (fun b hb=>hlt b (by simp at hb;simp[hb])) [] [];refine⟨(ad.block::T1)++T2,B1++B2,⟨_,vs',[],[],ad.block::T1,T2,B1,B2,rfl,rfl,rfl,rfl,⟨rfl,ad,u,T1,rfl,hc,hb,g1,rfl⟩,g2⟩,?_⟩;exact(kb.app k1).app k2
         . cases hr
       | _=>simp[a0X]at hr
     | fnx s =>
       cases t with
       | fnx s' g =>
         simp only[a0X]at hr;split at hr
         . rename_i he z l2 _ hz;subst he;simp only[za,ze]at hr;obtain⟨rfl,rfl⟩:=hr;obtain⟨T2,B2,g2,k2⟩:=ih ts vs' S2 A2 h2 hf2 z l2 hz;refine⟨S1++T2,A1++B2,⟨v,vs',[],[],S1,T2,A1,B2,rfl,rfl,rfl,rfl,⟨rfl,h1⟩,g2⟩,?_⟩;exact(ArgOK.fine hf1 (a2a _ _ _ _ h1) (a0o _ _ _ _ h1) [] []).app k2
         . cases hr
       | _=>simp[a0X]at hr
theorem a9b {E:Env} {σ:St} {a:Act} {w:World} {G:Nat->RG} (h:Rel P E σ a w G) (s:FSig) (all:List Clo) (hall:∀ e∈all,a2t P e):∀ (cl:List Clo),(∀ e∈cl,a2t P e)->∀ (t:TV) (v:Value) (S A:List Nat),TRep P σ.rs G w t v S A->Fine2 E G S A->∀ (g:Vals s.ins->Option (Outs s.outs)) (l:List Nat×List Nat),a3Z σ s all cl t=some (g,l) →
   ∃ S' A',b0K P s g w v S' A'/\ArgOK E σ.rs G w l.1 l.2 S' A':=by
 intro cl;induction cl with
 | nil =>
   intro _ t v S A ht hf g l hr;cases t with
   | fnx s' g' =>
     simp only[a3Z]at hr;split at hr
     . rename_i he _;subst he;simp only[za,ze]at hr;obtain⟨rfl,rfl⟩:=hr;exact⟨S,A,ht,ArgOK.fine hf (a2a _ _ _ _ ht) (a0o _ _ _ _ ht) [] []⟩
     . cases hr
   | _=>simp[a3Z]at hr
 | cons c cl ih =>
   intro hc t v S A ht hf g l hr;cases t with
   | fnx s' g' =>
     simp only[a3Z]at hr;split at hr
     . rename_i he _;subst he;simp only[za,ze]at hr;obtain⟨rfl,rfl⟩:=hr;exact⟨S,A,ht,ArgOK.fine hf (a2a _ _ _ _ ht) (a0o _ _ _ _ ht) [] []⟩
     . cases hr
   | fn f caps =>
     simp only[a3Z]at hr;split at hr
     . rename_i hef hes _ _;subst hef;subst hes;split at hr
       . rename_i y l' hy;simp only[za,ze]at hr;obtain⟨rfl,rfl⟩:=hr;obtain⟨vs,rfl,ht⟩:=ht;obtain⟨S',A',h1,h2⟩:=a7H h all hall c.caps caps vs S A ht hf y _ hy;obtain⟨he,hsound⟩:=hc c (by simp);refine⟨S',A',⟨c.f,vs.toArray,rfl,he,h2.lt,?_,fun w' hs hz d r us Sa hg hv=>?_⟩,h2⟩
         . exact a2u _ _ _ _ _ _ h1
         . exact hsound y w vs S' A' h1 w' hs hz d r us Sa hg hv
       . cases hr
     . exact ih (fun e he=>hc e (by simp[he])) (.fn f caps) v S A ht hf g l hr
   | _=>simp[a3Z]at hr
end Go.Vm
end
